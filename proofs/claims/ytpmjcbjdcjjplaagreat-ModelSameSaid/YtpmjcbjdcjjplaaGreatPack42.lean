/- Parts of a proof: SamQ, SamM. -/
import Derived.Test.YtpmjcbjdcjjplaaGreatPack18
import Derived.Test.YtpmjcbjdcjjplaaGreatPack41
section
namespace Go.Proofs.YtpmjcbjdcjjplaaGreat
open Go Go.RowKit
set_option linter.unusedVariables false
set_option linter.unusedSimpArgs false
theorem eqarr_pr (a b c d : Int) (w : World) : (Op.equalIn 10000 61 (.agg #[.int .i64 a, .int .i64 b]) (.agg #[.int .i64 c, .int .i64 d])).run Tryz.prog w = .ok (a == c && b == d) w := by
  have u3 := Tryz.underlying3
  have a3 := Tryz.isAgg3
  have z3 := Tryz.sizeOf3
  rw [show (10000 : Nat) = 9999 + 1 from rfl, Op.equalIn]
  simp only [Sem.run_bind, run_underlying Tryz.underlying61, Result.andThen_ok]
  simp only [Std.Legacy.Range.forIn_eq_forIn_range', Std.Legacy.Range.size, Nat.sub_zero, Nat.add_sub_cancel, Nat.div_one, List.range'_succ, List.range'_zero, List.forIn_cons, List.forIn_nil]
  go_simp
  by_cases h1 : a = c <;> by_cases h2 : b = d <;> simp [h1, h2]
set_option maxHeartbeats 4000000 in
set_option maxRecDepth 100000 in
theorem eqi2_any (l r : List Int) (u v : Value) (w : World) (hu : SlAt w w.heap.size 1 IntR u l) (hv : SlAt w w.heap.size 1 IntR v r) :
    Calls Tryz.prog 49 #[u, v] w fun e w' => e = .returned (.bool (allB eqIn l r)) ∧ Below w.heap.size w w' := by
  obtain ⟨A, ca, rfl, hl, ha⟩ := sl_atM hu
  obtain ⟨D, cb, rfl, hr, hb⟩ := sl_atM hv
  by_cases hlen : l.length = r.length
  case neg =>
    have HR := Lib.hid (allB_len (f := eqIn) hlen)
    have t1 : ((l.length : Int) != (r.length : Int)) = true := by rw [bne_iff_ne]; omega
    clear hlen ha hb hu hv
    go_enter Tryz.func49, Tryz.ntmps49
    go_wp2
    go_ret
    exact ⟨ret_bool HR.out.symm, Below.refl _ w⟩
  have t1 : ((l.length : Int) != (r.length : Int)) = false := by rw [hlen]; exact bne_self_eq_false _
  have HLEN := Lib.hid hlen
  have HA := Lib.hid ha
  have HB := Lib.hid hb
  have HT := Lib.hid (allB_end (f := eqIn) hlen)
  have H0 : Hid (allB eqIn (l.drop 0) (r.drop 0) = allB eqIn l r) := Lib.hid rfl
  have hl2 : (l.length : Int) ≤ 9223372036854775807 := by omega
  have hr2 : (r.length : Int) ≤ 9223372036854775807 := by omega
  clear ha hb hu hv hlen
  generalize allB eqIn l r = res at H0 ⊢
  go_enter Tryz.func49, Tryz.ntmps49
  go_wp2
  go_loopg [13] l.length (fun q x u => ∃ k : Nat, k + q = l.length ∧ x = .int .i64 k ∧ Below w.heap.size w u ∧ allB eqIn (l.drop k) (r.drop k) = res)
  case atStart => exact ⟨0, by omega, rfl, Below.refl _ _, H0.out⟩
  case round =>
    obtain ⟨k, hk, rfl, hb, hres⟩ := hrel
    have HR := Lib.hid hres
    have HBK := Lib.hid hb
    clear hres hb
    cases gk with
    | zero =>
      obtain rfl : k = l.length := by omega
      have hge : ¬ ((l.length : Int) < (l.length : Int)) := by omega
      have HV := Lib.hid ((HR.out).symm.trans HT.out)
      clear HR
      go_wp2
      go_ret
      exact ⟨ret_bool HV.out.symm, HBK.out⟩
    | succ q =>
      have hlt : (k : Int) < (l.length : Int) := by omega
      have hlt2 : (k : Int) < (r.length : Int) := by have := HLEN.out; omega
      have hkr : k < r.length := by omega
      obtain ⟨x, hx⟩ : ∃ x, l[k]? = some x := ⟨_, List.getElem?_eq_getElem (by omega)⟩
      obtain ⟨y, hy⟩ : ∃ y, r[k]? = some y := ⟨_, List.getElem?_eq_getElem hkr⟩
      obtain ⟨b1, o1, rfl, hb1, c1⟩ := HA.out (by omega)
      obtain ⟨b2, o2, rfl, hb2, c2⟩ := HB.out (by omega)
      obtain ⟨cs, hcs, hvx⟩ := c1 k x hx
      obtain ⟨cs', hcs', hvy⟩ := c2 k y hy
      have hr1 := rangeAt_below hcs HBK.out hb1
      have hr2' := rangeAt_below hcs' HBK.out hb2
      have HV := Lib.hid ((HR.out).symm.trans (allB_at (f := eqIn) hx hy))
      obtain rfl := hvx.1
      obtain rfl := hvy.1
      clear c1 c2 hcs hcs' hvx hvy hx hy HR
      have d1 : wr.cell? ⟨b1, o1 + k, none⟩ = some (.int .i64 x) := by have := hr1 0 _ rfl; simpa using this
      have d2 : wr.cell? ⟨b2, o2 + k, none⟩ = some (.int .i64 y) := by have := hr2' 0 _ rfl; simpa using this
      clear hr1 hr2'
      cases hxy : eqIn x y with
      | true =>
        have HV2 : Hid (res = allB eqIn (l.drop (k + 1)) (r.drop (k + 1))) := Lib.hid (by rw [HV.out, hxy, Bool.true_and])
        have q1 : (x != y) = false := by rw [eqIn] at hxy; rw [bne, hxy]; rfl
        clear hxy
        go_upto_region 6 with (fail)
        go_quiet (fail)
        go_wp2
        go_roundg q
        case measure => omega
        case rel => exact ⟨k + 1, by omega, by go_num, below_drewN HBK.out _, HV2.out.symm⟩
      | false =>
        have HV2 : Hid (res = false) := Lib.hid (by rw [HV.out, hxy, Bool.false_and])
        have q1 : (x != y) = true := by rw [eqIn] at hxy; rw [bne, hxy]; rfl
        clear hxy
        go_upto_region 6 with (fail)
        go_quiet (fail)
        go_wp2
        go_ret
        exact ⟨ret_bool HV2.out.symm, below_drewN HBK.out _⟩
set_option maxHeartbeats 4000000 in
set_option maxRecDepth 100000 in
theorem eqp_any (l r : List (Int × Int)) (u v : Value) (w : World) (hu : SlAt w w.heap.size 2 PairR u l) (hv : SlAt w w.heap.size 2 PairR v r) :
    Calls Tryz.prog 17 #[u, v] w fun e w' => e = .returned (.bool (allB eqPr l r)) ∧ Below w.heap.size w w' := by
  obtain ⟨A, ca, rfl, hl, ha⟩ := sl_atM hu
  obtain ⟨D, cb, rfl, hr, hb⟩ := sl_atM hv
  by_cases hlen : l.length = r.length
  case neg =>
    have HR := Lib.hid (allB_len (f := eqPr) hlen)
    have t1 : ((l.length : Int) != (r.length : Int)) = true := by rw [bne_iff_ne]; omega
    clear hlen ha hb hu hv
    go_enter Tryz.func17, Tryz.ntmps17
    go_wp2
    go_ret
    exact ⟨ret_bool HR.out.symm, Below.refl _ w⟩
  have t1 : ((l.length : Int) != (r.length : Int)) = false := by rw [hlen]; exact bne_self_eq_false _
  have HLEN := Lib.hid hlen
  have HA := Lib.hid ha
  have HB := Lib.hid hb
  have HT := Lib.hid (allB_end (f := eqPr) hlen)
  have H0 : Hid (allB eqPr (l.drop 0) (r.drop 0) = allB eqPr l r) := Lib.hid rfl
  have hl2 : (l.length : Int) ≤ 9223372036854775807 := by omega
  have hr2 : (r.length : Int) ≤ 9223372036854775807 := by omega
  clear ha hb hu hv hlen
  generalize allB eqPr l r = res at H0 ⊢
  go_enter Tryz.func17, Tryz.ntmps17
  go_wp2
  go_loopg [13] l.length (fun q x u => ∃ k : Nat, k + q = l.length ∧ x = .int .i64 k ∧ Below w.heap.size w u ∧ allB eqPr (l.drop k) (r.drop k) = res)
  case atStart => exact ⟨0, by omega, rfl, Below.refl _ _, H0.out⟩
  case round =>
    obtain ⟨k, hk, rfl, hb, hres⟩ := hrel
    have HR := Lib.hid hres
    have HBK := Lib.hid hb
    clear hres hb
    cases gk with
    | zero =>
      obtain rfl : k = l.length := by omega
      have hge : ¬ ((l.length : Int) < (l.length : Int)) := by omega
      have HV := Lib.hid ((HR.out).symm.trans HT.out)
      clear HR
      go_wp2
      go_ret
      exact ⟨ret_bool HV.out.symm, HBK.out⟩
    | succ q =>
      have hlt : (k : Int) < (l.length : Int) := by omega
      have hlt2 : (k : Int) < (r.length : Int) := by have := HLEN.out; omega
      have hkr : k < r.length := by omega
      obtain ⟨x, hx⟩ : ∃ x, l[k]? = some x := ⟨_, List.getElem?_eq_getElem (by omega)⟩
      obtain ⟨y, hy⟩ : ∃ y, r[k]? = some y := ⟨_, List.getElem?_eq_getElem hkr⟩
      obtain ⟨b1, o1, rfl, hb1, c1⟩ := HA.out (by omega)
      obtain ⟨b2, o2, rfl, hb2, c2⟩ := HB.out (by omega)
      obtain ⟨cs, hcs, hvx⟩ := c1 k x hx
      obtain ⟨cs', hcs', hvy⟩ := c2 k y hy
      have hr1 := rangeAt_below hcs HBK.out hb1
      have hr2' := rangeAt_below hcs' HBK.out hb2
      have HV := Lib.hid ((HR.out).symm.trans (allB_at (f := eqPr) hx hy))
      obtain rfl := hvx.1
      obtain rfl := hvy.1
      clear c1 c2 hcs hcs' hvx hvy hx hy HR
      have HR1 := Lib.hid hr1
      have HR2 := Lib.hid hr2'
      clear hr1 hr2'
      cases hxy : eqPr x y with
      | true =>
        have HV2 : Hid (res = allB eqPr (l.drop (k + 1)) (r.drop (k + 1))) := Lib.hid (by rw [HV.out, hxy, Bool.true_and])
        have hxz : (x.1 == y.1 && x.2 == y.2) = true := hxy
        clear hxy
        go_upto_region 6 with (fail)
        refine wp_region_ord [(0, true), (1, true), (2, true), (3, true), (4, true), (5, true), (6, true), (7, true), (8, true)] (fun z => Below wr.heap.size wr z) (by kernel_rfl) (by kernel_rfl) (by kernel_rfl) rfl (by intro c a d v w h; cases d <;> exact h) ?_
        have hs : Below wr.heap.size wr wr.drew := (Below.refl _ _).drew
        have HRZ : Hid (∀ z, Below wr.heap.size wr z → z.rangeAt b1 (o1 + k * 2) [.int .i64 x.1, .int .i64 x.2] ∧ z.rangeAt b2 (o2 + k * 2) [.int .i64 y.1, .int .i64 y.2]) := Lib.hid fun z hz => ⟨rangeAt_below HR1.out hz (Nat.lt_of_lt_of_le hb1 HBK.out.size), rangeAt_below HR2.out hz (Nat.lt_of_lt_of_le hb2 HBK.out.size)⟩
        refine ord_load (some 16) (.slice (some ⟨b1, o1, none⟩) l.length ca) _ rfl rfl (by exact wantA rfl) hs (fun z hz => by go_simp) ?_
        go_frame
        refine ord_load (some 17) (.int .i64 k) _ rfl rfl (by exact wantA rfl) hs (fun z hz => by go_simp) ?_
        go_frame
        refine ord_load (some 18) (.pointer (some ⟨b1, o1 + k * 2, none⟩)) _ rfl rfl (by exact wantA rfl) hs (fun z hz => by go_simp) ?_
        go_frame
        refine ord_load (some 19) (.agg ⟨[.int .i64 x.1, .int .i64 x.2]⟩) _ rfl rfl (by exact wantA rfl) hs (fun z hz => exec_sload 61 rfl b1 (o1 + k * 2) [.int .i64 x.1, .int .i64 x.2] _ rfl (HRZ.out z hz).1 Tryz.underlying61 rfl (by kernel_rfl)) ?_
        go_frame
        refine ord_load (some 20) (.slice (some ⟨b2, o2, none⟩) r.length cb) _ rfl rfl (by exact wantA rfl) hs (fun z hz => by go_simp) ?_
        go_frame
        refine ord_load (some 21) (.int .i64 k) _ rfl rfl (by exact wantA rfl) hs (fun z hz => by go_simp) ?_
        go_frame
        refine ord_load (some 22) (.pointer (some ⟨b2, o2 + k * 2, none⟩)) _ rfl rfl (by exact wantA rfl) hs (fun z hz => by go_simp) ?_
        go_frame
        refine ord_load (some 23) (.agg ⟨[.int .i64 y.1, .int .i64 y.2]⟩) _ rfl rfl (by exact wantA rfl) hs (fun z hz => exec_sload 61 rfl b2 (o2 + k * 2) [.int .i64 y.1, .int .i64 y.2] _ rfl (HRZ.out z hz).2 Tryz.underlying61 rfl (by kernel_rfl)) ?_
        go_frame
        refine ord_load (some 24) (.bool false) _ rfl rfl (by exact wantA rfl) hs (fun z hz => by have hq := eqarr_pr x.1 x.2 y.1 y.2 z; rw [hxz] at hq; go_simp) ?_
        go_frame
        refine ord_end ?_
        clear HRZ hs
        go_wp2
        go_roundg q
        case measure => omega
        case rel => exact ⟨k + 1, by omega, by go_num, HBK.out.drew, HV2.out.symm⟩
      | false =>
        have HV2 : Hid (res = false) := Lib.hid (by rw [HV.out, hxy, Bool.false_and])
        have hxz : (x.1 == y.1 && x.2 == y.2) = false := hxy
        clear hxy
        go_upto_region 6 with (fail)
        refine wp_region_ord [(0, true), (1, true), (2, true), (3, true), (4, true), (5, true), (6, true), (7, true), (8, true)] (fun z => Below wr.heap.size wr z) (by kernel_rfl) (by kernel_rfl) (by kernel_rfl) rfl (by intro c a d v w h; cases d <;> exact h) ?_
        have hs : Below wr.heap.size wr wr.drew := (Below.refl _ _).drew
        have HRZ : Hid (∀ z, Below wr.heap.size wr z → z.rangeAt b1 (o1 + k * 2) [.int .i64 x.1, .int .i64 x.2] ∧ z.rangeAt b2 (o2 + k * 2) [.int .i64 y.1, .int .i64 y.2]) := Lib.hid fun z hz => ⟨rangeAt_below HR1.out hz (Nat.lt_of_lt_of_le hb1 HBK.out.size), rangeAt_below HR2.out hz (Nat.lt_of_lt_of_le hb2 HBK.out.size)⟩
        refine ord_load (some 16) (.slice (some ⟨b1, o1, none⟩) l.length ca) _ rfl rfl (by exact wantA rfl) hs (fun z hz => by go_simp) ?_
        go_frame
        refine ord_load (some 17) (.int .i64 k) _ rfl rfl (by exact wantA rfl) hs (fun z hz => by go_simp) ?_
        go_frame
        refine ord_load (some 18) (.pointer (some ⟨b1, o1 + k * 2, none⟩)) _ rfl rfl (by exact wantA rfl) hs (fun z hz => by go_simp) ?_
        go_frame
        refine ord_load (some 19) (.agg ⟨[.int .i64 x.1, .int .i64 x.2]⟩) _ rfl rfl (by exact wantA rfl) hs (fun z hz => exec_sload 61 rfl b1 (o1 + k * 2) [.int .i64 x.1, .int .i64 x.2] _ rfl (HRZ.out z hz).1 Tryz.underlying61 rfl (by kernel_rfl)) ?_
        go_frame
        refine ord_load (some 20) (.slice (some ⟨b2, o2, none⟩) r.length cb) _ rfl rfl (by exact wantA rfl) hs (fun z hz => by go_simp) ?_
        go_frame
        refine ord_load (some 21) (.int .i64 k) _ rfl rfl (by exact wantA rfl) hs (fun z hz => by go_simp) ?_
        go_frame
        refine ord_load (some 22) (.pointer (some ⟨b2, o2 + k * 2, none⟩)) _ rfl rfl (by exact wantA rfl) hs (fun z hz => by go_simp) ?_
        go_frame
        refine ord_load (some 23) (.agg ⟨[.int .i64 y.1, .int .i64 y.2]⟩) _ rfl rfl (by exact wantA rfl) hs (fun z hz => exec_sload 61 rfl b2 (o2 + k * 2) [.int .i64 y.1, .int .i64 y.2] _ rfl (HRZ.out z hz).2 Tryz.underlying61 rfl (by kernel_rfl)) ?_
        go_frame
        refine ord_load (some 24) (.bool true) _ rfl rfl (by exact wantA rfl) hs (fun z hz => by have hq := eqarr_pr x.1 x.2 y.1 y.2 z; rw [hxz] at hq; go_simp) ?_
        go_frame
        refine ord_end ?_
        clear HRZ hs
        go_wp2
        go_ret
        exact ⟨ret_bool HV2.out.symm, HBK.out.drew⟩
set_option maxHeartbeats 4000000 in
set_option maxRecDepth 100000 in
theorem rpairs_any (l r : List (Int × Int)) (u v : Value) (w : World) (hu : SlAt w w.heap.size 2 PairR u l) (hv : SlAt w w.heap.size 2 PairR v r) :
    Calls Tryz.prog 24 #[u, v] w fun e w' => e = .returned (.bool (allB eqPr l r)) ∧ Below w.heap.size w w' := by
  obtain ⟨A, ca, rfl, hl, ha⟩ := sl_atM hu
  obtain ⟨D, cb, rfl, hr, hb⟩ := sl_atM hv
  by_cases hlen : l.length = r.length
  case neg =>
    have HR := Lib.hid (allB_len (f := eqPr) hlen)
    have t1 : ((l.length : Int) != (r.length : Int)) = true := by rw [bne_iff_ne]; omega
    clear hlen ha hb hu hv
    go_enter Tryz.func24, Tryz.ntmps24
    go_wp2
    go_ret
    exact ⟨ret_bool HR.out.symm, Below.refl _ w⟩
  have t1 : ((l.length : Int) != (r.length : Int)) = false := by rw [hlen]; exact bne_self_eq_false _
  have HLEN := Lib.hid hlen
  have HA := Lib.hid ha
  have HB := Lib.hid hb
  have HT := Lib.hid (allB_end (f := eqPr) hlen)
  have H0 : Hid (allB eqPr (l.drop 0) (r.drop 0) = allB eqPr l r) := Lib.hid rfl
  have hl2 : (l.length : Int) ≤ 9223372036854775807 := by omega
  have hr2 : (r.length : Int) ≤ 9223372036854775807 := by omega
  clear ha hb hu hv hlen
  generalize allB eqPr l r = res at H0 ⊢
  go_enter Tryz.func24, Tryz.ntmps24
  go_wp2
  go_loopg [5] l.length (fun q x u => ∃ k : Nat, k + q = l.length ∧ x = .int .i64 k ∧ Below w.heap.size w u ∧ allB eqPr (l.drop k) (r.drop k) = res)
  case atStart => exact ⟨0, by omega, rfl, Below.refl _ _, H0.out⟩
  case round =>
    obtain ⟨k, hk, rfl, hb, hres⟩ := hrel
    have HR := Lib.hid hres
    have HBK := Lib.hid hb
    clear hres hb
    cases gk with
    | zero =>
      obtain rfl : k = l.length := by omega
      have hge : ¬ ((l.length : Int) < (l.length : Int)) := by omega
      have HV := Lib.hid ((HR.out).symm.trans HT.out)
      clear HR
      go_wp2
      go_ret
      exact ⟨ret_bool HV.out.symm, HBK.out⟩
    | succ q =>
      have hlt : (k : Int) < (l.length : Int) := by omega
      have hlt2 : (k : Int) < (r.length : Int) := by have := HLEN.out; omega
      have hkr : k < r.length := by omega
      obtain ⟨x, hx⟩ : ∃ x, l[k]? = some x := ⟨_, List.getElem?_eq_getElem (by omega)⟩
      obtain ⟨y, hy⟩ : ∃ y, r[k]? = some y := ⟨_, List.getElem?_eq_getElem hkr⟩
      obtain ⟨b1, o1, rfl, hb1, c1⟩ := HA.out (by omega)
      obtain ⟨b2, o2, rfl, hb2, c2⟩ := HB.out (by omega)
      obtain ⟨cs, hcs, hvx⟩ := c1 k x hx
      obtain ⟨cs', hcs', hvy⟩ := c2 k y hy
      have hr1 := rangeAt_below hcs HBK.out hb1
      have hr2' := rangeAt_below hcs' HBK.out hb2
      have HV := Lib.hid ((HR.out).symm.trans (allB_at (f := eqPr) hx hy))
      obtain rfl := hvx.1
      obtain rfl := hvy.1
      clear c1 c2 hcs hcs' hvx hvy hx hy HR
      have HR1 := Lib.hid hr1
      have HR2 := Lib.hid hr2'
      clear hr1 hr2'
      cases hxy : eqPr x y with
      | true =>
        have HV2 : Hid (res = allB eqPr (l.drop (k + 1)) (r.drop (k + 1))) := Lib.hid (by rw [HV.out, hxy, Bool.true_and])
        have hxz : (x.1 == y.1 && x.2 == y.2) = true := hxy
        clear hxy
        go_upto_region 6 with (fail)
        refine wp_region_ord [(0, true), (1, true), (2, true), (3, true), (4, true), (5, true), (6, true), (7, true), (8, true)] (fun z => Below wr.heap.size wr z) (by kernel_rfl) (by kernel_rfl) (by kernel_rfl) rfl (by intro c a d v w h; cases d <;> exact h) ?_
        have hs : Below wr.heap.size wr wr.drew := (Below.refl _ _).drew
        have HRZ : Hid (∀ z, Below wr.heap.size wr z → z.rangeAt b1 (o1 + k * 2) [.int .i64 x.1, .int .i64 x.2] ∧ z.rangeAt b2 (o2 + k * 2) [.int .i64 y.1, .int .i64 y.2]) := Lib.hid fun z hz => ⟨rangeAt_below HR1.out hz (Nat.lt_of_lt_of_le hb1 HBK.out.size), rangeAt_below HR2.out hz (Nat.lt_of_lt_of_le hb2 HBK.out.size)⟩
        refine ord_load (some 17) (.slice (some ⟨b1, o1, none⟩) l.length ca) _ rfl rfl (by exact wantA rfl) hs (fun z hz => by go_simp) ?_
        go_frame
        refine ord_load (some 18) (.int .i64 k) _ rfl rfl (by exact wantA rfl) hs (fun z hz => by go_simp) ?_
        go_frame
        refine ord_load (some 19) (.pointer (some ⟨b1, o1 + k * 2, none⟩)) _ rfl rfl (by exact wantA rfl) hs (fun z hz => by go_simp) ?_
        go_frame
        refine ord_load (some 20) (.agg ⟨[.int .i64 x.1, .int .i64 x.2]⟩) _ rfl rfl (by exact wantA rfl) hs (fun z hz => exec_sload 61 rfl b1 (o1 + k * 2) [.int .i64 x.1, .int .i64 x.2] _ rfl (HRZ.out z hz).1 Tryz.underlying61 rfl (by kernel_rfl)) ?_
        go_frame
        refine ord_load (some 21) (.slice (some ⟨b2, o2, none⟩) r.length cb) _ rfl rfl (by exact wantA rfl) hs (fun z hz => by go_simp) ?_
        go_frame
        refine ord_load (some 22) (.int .i64 k) _ rfl rfl (by exact wantA rfl) hs (fun z hz => by go_simp) ?_
        go_frame
        refine ord_load (some 23) (.pointer (some ⟨b2, o2 + k * 2, none⟩)) _ rfl rfl (by exact wantA rfl) hs (fun z hz => by go_simp) ?_
        go_frame
        refine ord_load (some 24) (.agg ⟨[.int .i64 y.1, .int .i64 y.2]⟩) _ rfl rfl (by exact wantA rfl) hs (fun z hz => exec_sload 61 rfl b2 (o2 + k * 2) [.int .i64 y.1, .int .i64 y.2] _ rfl (HRZ.out z hz).2 Tryz.underlying61 rfl (by kernel_rfl)) ?_
        go_frame
        refine ord_load (some 25) (.bool false) _ rfl rfl (by exact wantA rfl) hs (fun z hz => by have hq := eqarr_pr x.1 x.2 y.1 y.2 z; rw [hxz] at hq; go_simp) ?_
        go_frame
        refine ord_end ?_
        clear HRZ hs
        go_wp2
        go_roundg q
        case measure => omega
        case rel => exact ⟨k + 1, by omega, by go_num, HBK.out.drew, HV2.out.symm⟩
      | false =>
        have HV2 : Hid (res = false) := Lib.hid (by rw [HV.out, hxy, Bool.false_and])
        have hxz : (x.1 == y.1 && x.2 == y.2) = false := hxy
        clear hxy
        go_upto_region 6 with (fail)
        refine wp_region_ord [(0, true), (1, true), (2, true), (3, true), (4, true), (5, true), (6, true), (7, true), (8, true)] (fun z => Below wr.heap.size wr z) (by kernel_rfl) (by kernel_rfl) (by kernel_rfl) rfl (by intro c a d v w h; cases d <;> exact h) ?_
        have hs : Below wr.heap.size wr wr.drew := (Below.refl _ _).drew
        have HRZ : Hid (∀ z, Below wr.heap.size wr z → z.rangeAt b1 (o1 + k * 2) [.int .i64 x.1, .int .i64 x.2] ∧ z.rangeAt b2 (o2 + k * 2) [.int .i64 y.1, .int .i64 y.2]) := Lib.hid fun z hz => ⟨rangeAt_below HR1.out hz (Nat.lt_of_lt_of_le hb1 HBK.out.size), rangeAt_below HR2.out hz (Nat.lt_of_lt_of_le hb2 HBK.out.size)⟩
        refine ord_load (some 17) (.slice (some ⟨b1, o1, none⟩) l.length ca) _ rfl rfl (by exact wantA rfl) hs (fun z hz => by go_simp) ?_
        go_frame
        refine ord_load (some 18) (.int .i64 k) _ rfl rfl (by exact wantA rfl) hs (fun z hz => by go_simp) ?_
        go_frame
        refine ord_load (some 19) (.pointer (some ⟨b1, o1 + k * 2, none⟩)) _ rfl rfl (by exact wantA rfl) hs (fun z hz => by go_simp) ?_
        go_frame
        refine ord_load (some 20) (.agg ⟨[.int .i64 x.1, .int .i64 x.2]⟩) _ rfl rfl (by exact wantA rfl) hs (fun z hz => exec_sload 61 rfl b1 (o1 + k * 2) [.int .i64 x.1, .int .i64 x.2] _ rfl (HRZ.out z hz).1 Tryz.underlying61 rfl (by kernel_rfl)) ?_
        go_frame
        refine ord_load (some 21) (.slice (some ⟨b2, o2, none⟩) r.length cb) _ rfl rfl (by exact wantA rfl) hs (fun z hz => by go_simp) ?_
        go_frame
        refine ord_load (some 22) (.int .i64 k) _ rfl rfl (by exact wantA rfl) hs (fun z hz => by go_simp) ?_
        go_frame
        refine ord_load (some 23) (.pointer (some ⟨b2, o2 + k * 2, none⟩)) _ rfl rfl (by exact wantA rfl) hs (fun z hz => by go_simp) ?_
        go_frame
        refine ord_load (some 24) (.agg ⟨[.int .i64 y.1, .int .i64 y.2]⟩) _ rfl rfl (by exact wantA rfl) hs (fun z hz => exec_sload 61 rfl b2 (o2 + k * 2) [.int .i64 y.1, .int .i64 y.2] _ rfl (HRZ.out z hz).2 Tryz.underlying61 rfl (by kernel_rfl)) ?_
        go_frame
        refine ord_load (some 25) (.bool true) _ rfl rfl (by exact wantA rfl) hs (fun z hz => by have hq := eqarr_pr x.1 x.2 y.1 y.2 z; rw [hxz] at hq; go_simp) ?_
        go_frame
        refine ord_end ?_
        clear HRZ hs
        go_wp2
        go_ret
        exact ⟨ret_bool HV2.out.symm, HBK.out.drew⟩
end Go.Proofs.YtpmjcbjdcjjplaaGreat
end
section
namespace Go.Proofs.YtpmjcbjdcjjplaaGreat
open Go Go.RowKit
set_option linter.unusedVariables false
set_option linter.unusedSimpArgs false
set_option maxHeartbeats 8000000 in
set_option maxRecDepth 100000 in
theorem svar_any (x y : VarT) (X Y : List Value) (w : World) (hx : VarAt w w.heap.size X x) (hy : VarAt w w.heap.size Y y) :
    Calls Tryz.prog 19 #[.agg ⟨X⟩, .agg ⟨Y⟩] w fun e w' => e = .returned (.bool (sameVr x y)) ∧ Below w.heap.size w w' := by
  obtain ⟨⟨ct, ci, hX, hct, hci, hty, hin⟩, _, _⟩ := hx
  obtain ⟨⟨dt, di, hY, hdt, hdi, hty', hin'⟩, _, _⟩ := hy
  have HX : Hid (X = [.string x.name, .int .i64 x.label] ++ (ct ++ (ci ++ []))) := Lib.hid (by rw [hX]; simp)
  have HY : Hid (Y = [.string y.name, .int .i64 y.label] ++ (dt ++ (di ++ []))) := Lib.hid (by rw [hY]; simp)
  have HX2 : Hid (X = ([.string x.name, .int .i64 x.label] ++ ct) ++ (ci ++ [])) := Lib.hid (by rw [HX.out, List.append_assoc])
  have HY2 : Hid (Y = ([.string y.name, .int .i64 y.label] ++ dt) ++ (di ++ [])) := Lib.hid (by rw [HY.out, List.append_assoc])
  have HL1 : Hid (([.string x.name, .int .i64 x.label] ++ ct : List Value).length = 5) := Lib.hid (by rw [List.length_append, hct]; rfl)
  have HL2 : Hid (([.string y.name, .int .i64 y.label] ++ dt : List Value).length = 5) := Lib.hid (by rw [List.length_append, hdt]; rfl)
  have HCT := Lib.hid hct
  have HCI := Lib.hid hci
  have HDT := Lib.hid hdt
  have HDI := Lib.hid hdi
  have HTY := Lib.hid (And.intro hty hty')
  have HIN := Lib.hid (And.intro hin hin')
  have HO : Hid (sameVr x y = ((x.name.toList == y.name.toList) && ((x.label == y.label) && (sameT x.type y.type && (ordV x.init y.init == 0))))) := Lib.hid rfl
  generalize sameVr x y = res at HO ⊢
  clear hX hY hct hci hdt hdi hty hty' hin hin'
  go_enter Tryz.func19, Tryz.ntmps19
  go_upto_region 1 with (fail)
  have HTB := Lib.hid (twoP_start 47 w X Y)
  generalize (w.alloc (.cells ⟨X⟩ 47)).alloc (.cells ⟨Y⟩ 47) = W at *
  obtain ⟨pb, hpb⟩ : ∃ pb, w.heap.size + 1 = pb := ⟨_, rfl⟩
  rw [hpb] at HTB
  rw [hpb]
  clear hpb
  have d0 := HTB.out.ca 0 (v := .string x.name) (by rw [HX.out]; rfl)
  have d1 := HTB.out.ca 1 (v := .int .i64 x.label) (by rw [HX.out]; rfl)
  have b0 := HTB.out.cb 0 (v := .string y.name) (by rw [HY.out]; rfl)
  have b1 := HTB.out.cb 1 (v := .int .i64 y.label) (by rw [HY.out]; rfl)
  cases hk0 : (x.name.toList == y.name.toList) with
  | false =>
    have HV : Hid (res = false) := Lib.hid (by rw [HO.out, hk0]; rfl)
    go_wp2
    go_ret
    exact ⟨ret_bool HV.out.symm, HTB.out.bel⟩
  | true =>
  cases hk1 : (x.label == y.label) with
  | false =>
    have HV : Hid (res = false) := Lib.hid (by rw [HO.out, hk0, hk1]; rfl)
    go_wp2
    go_ret
    exact ⟨ret_bool HV.out.symm, HTB.out.bel⟩
  | true =>
  have HC2 : Hid (∀ z, Below W.heap.size W z → Calls Tryz.prog 47 #[.agg ⟨ct⟩, .agg ⟨dt⟩] z fun e w' => e = .returned (.bool (sameT x.type y.type)) ∧ Below z.heap.size z w') := Lib.hid fun z hz => by
    have hz2 := HTB.out.bel.trans (hz.mono HTB.out.bel.size)
    exact tsame_any _ _ ct dt z ((HTY.out.1.under hz2).more hz2.size) ((HTY.out.2.under hz2).more hz2.size)
  obtain ⟨s2, hk2⟩ : ∃ b, sameT x.type y.type = b := ⟨_, rfl⟩
  rw [hk2] at HC2
  cases s2 with
  | false =>
    have HV : Hid (res = false) := Lib.hid (by rw [HO.out, hk0, hk1, hk2]; rfl)
    clear hk2
    go_wp2_with (first | (go_at_call 47; refine (HC2.out W (Below.refl _ _)).mono ?_; rintro e z2 ⟨rfl, hb2⟩; have HB2 := Lib.hid hb2; clear hb2) | ((with_reducible refine wl_sload 45 _ rfl ?hwl2 (pb) (2) (dt) _ rfl (HTB.out.rb 2 HY.out rfl) Tryz.underlying45 rfl ?hil2 ?_); (case hwl2 => (exact wantA rfl)); (case hil2 => rw [HDT.out]; kernel_rfl)) | ((with_reducible refine wl_sload 45 _ rfl ?hwl1 (w.heap.size) (2) (ct) _ rfl (HTB.out.ra 2 HX.out rfl) Tryz.underlying45 rfl ?hil1 ?_); (case hwl1 => (exact wantA rfl)); (case hil1 => rw [HCT.out]; kernel_rfl)))
    go_ret
    exact ⟨ret_bool HV.out.symm, HTB.out.bel.trans (HB2.out.mono HTB.out.bel.size)⟩
  | true =>
  have HC3 : Hid (∀ z, Below W.heap.size W z → Calls Tryz.prog 48 #[.agg ⟨ci⟩, .agg ⟨di⟩] z fun e w' => e = .returned (.bool ((ordV x.init y.init == 0))) ∧ Below z.heap.size z w') := Lib.hid fun z hz => by
    have hz2 := HTB.out.bel.trans (hz.mono HTB.out.bel.size)
    exact vsame _ _ ci di z ((HIN.out.1.under hz2).more hz2.size) ((HIN.out.2.under hz2).more hz2.size)
  obtain ⟨s3, hk3⟩ : ∃ b, (ordV x.init y.init == 0) = b := ⟨_, rfl⟩
  rw [hk3] at HC3
  cases s3 with
  | false =>
    have HV : Hid (res = false) := Lib.hid (by rw [HO.out, hk0, hk1, hk2, hk3]; rfl)
    clear hk2 hk3
    go_wp2_with (first | (go_at_call 48; refine (HC3.out z2 HB2.out).mono ?_; rintro e z3 ⟨rfl, hb3⟩; have HB3 := Lib.hid (HB2.out.trans (hb3.mono HB2.out.size)); clear hb3) | ((with_reducible refine wl_sload 38 _ rfl ?hwl4 (pb) (5) (di) _ rfl ((HTB.out.on HB2.out).rb 5 HY2.out HL2.out) Tryz.underlying38 rfl ?hil4 ?_); (case hwl4 => (exact wantA rfl)); (case hil4 => rw [HDI.out]; kernel_rfl)) | ((with_reducible refine wl_sload 38 _ rfl ?hwl3 (w.heap.size) (5) (ci) _ rfl ((HTB.out.on HB2.out).ra 5 HX2.out HL1.out) Tryz.underlying38 rfl ?hil3 ?_); (case hwl3 => (exact wantA rfl)); (case hil3 => rw [HCI.out]; kernel_rfl)) | (go_at_call 47; refine (HC2.out W (Below.refl _ _)).mono ?_; rintro e z2 ⟨rfl, hb2⟩; have HB2 := Lib.hid hb2; clear hb2) | ((with_reducible refine wl_sload 45 _ rfl ?hwl2 (pb) (2) (dt) _ rfl (HTB.out.rb 2 HY.out rfl) Tryz.underlying45 rfl ?hil2 ?_); (case hwl2 => (exact wantA rfl)); (case hil2 => rw [HDT.out]; kernel_rfl)) | ((with_reducible refine wl_sload 45 _ rfl ?hwl1 (w.heap.size) (2) (ct) _ rfl (HTB.out.ra 2 HX.out rfl) Tryz.underlying45 rfl ?hil1 ?_); (case hwl1 => (exact wantA rfl)); (case hil1 => rw [HCT.out]; kernel_rfl)))
    go_ret
    exact ⟨ret_bool HV.out.symm, HTB.out.bel.trans (HB3.out.mono HTB.out.bel.size)⟩
  | true =>
  have HV : Hid (res = true) := Lib.hid (by rw [HO.out, hk0, hk1, hk2, hk3]; rfl)
  clear hk2 hk3
  go_wp2_with (first | (go_at_call 48; refine (HC3.out z2 HB2.out).mono ?_; rintro e z3 ⟨rfl, hb3⟩; have HB3 := Lib.hid (HB2.out.trans (hb3.mono HB2.out.size)); clear hb3) | ((with_reducible refine wl_sload 38 _ rfl ?hwl4 (pb) (5) (di) _ rfl ((HTB.out.on HB2.out).rb 5 HY2.out HL2.out) Tryz.underlying38 rfl ?hil4 ?_); (case hwl4 => (exact wantA rfl)); (case hil4 => rw [HDI.out]; kernel_rfl)) | ((with_reducible refine wl_sload 38 _ rfl ?hwl3 (w.heap.size) (5) (ci) _ rfl ((HTB.out.on HB2.out).ra 5 HX2.out HL1.out) Tryz.underlying38 rfl ?hil3 ?_); (case hwl3 => (exact wantA rfl)); (case hil3 => rw [HCI.out]; kernel_rfl)) | (go_at_call 47; refine (HC2.out W (Below.refl _ _)).mono ?_; rintro e z2 ⟨rfl, hb2⟩; have HB2 := Lib.hid hb2; clear hb2) | ((with_reducible refine wl_sload 45 _ rfl ?hwl2 (pb) (2) (dt) _ rfl (HTB.out.rb 2 HY.out rfl) Tryz.underlying45 rfl ?hil2 ?_); (case hwl2 => (exact wantA rfl)); (case hil2 => rw [HDT.out]; kernel_rfl)) | ((with_reducible refine wl_sload 45 _ rfl ?hwl1 (w.heap.size) (2) (ct) _ rfl (HTB.out.ra 2 HX.out rfl) Tryz.underlying45 rfl ?hil1 ?_); (case hwl1 => (exact wantA rfl)); (case hil1 => rw [HCT.out]; kernel_rfl)))
  go_ret
  exact ⟨ret_bool HV.out.symm, HTB.out.bel.trans (HB3.out.mono HTB.out.bel.size)⟩
set_option maxHeartbeats 8000000 in
set_option maxRecDepth 100000 in
theorem smsg_any (x y : MsgT) (X Y : List Value) (w : World) (hx : MsgAt w w.heap.size X x) (hy : MsgAt w w.heap.size Y y) :
    Calls Tryz.prog 21 #[.agg ⟨X⟩, .agg ⟨Y⟩] w fun e w' => e = .returned (.bool (sameMs x y)) ∧ Below w.heap.size w w' := by
  obtain ⟨⟨ct, ci, hX, hct, hci, hty, hin⟩, _, _⟩ := hx
  obtain ⟨⟨dt, di, hY, hdt, hdi, hty', hin'⟩, _, _⟩ := hy
  have HX : Hid (X = [.string x.name, .int .i64 x.label] ++ (ct ++ (ci ++ []))) := Lib.hid (by rw [hX]; simp)
  have HY : Hid (Y = [.string y.name, .int .i64 y.label] ++ (dt ++ (di ++ []))) := Lib.hid (by rw [hY]; simp)
  have HX2 : Hid (X = ([.string x.name, .int .i64 x.label] ++ ct) ++ (ci ++ [])) := Lib.hid (by rw [HX.out, List.append_assoc])
  have HY2 : Hid (Y = ([.string y.name, .int .i64 y.label] ++ dt) ++ (di ++ [])) := Lib.hid (by rw [HY.out, List.append_assoc])
  have HL1 : Hid (([.string x.name, .int .i64 x.label] ++ ct : List Value).length = 5) := Lib.hid (by rw [List.length_append, hct]; rfl)
  have HL2 : Hid (([.string y.name, .int .i64 y.label] ++ dt : List Value).length = 5) := Lib.hid (by rw [List.length_append, hdt]; rfl)
  have HCT := Lib.hid hct
  have HCI := Lib.hid hci
  have HDT := Lib.hid hdt
  have HDI := Lib.hid hdi
  have HTY := Lib.hid (And.intro hty hty')
  have HIN := Lib.hid (And.intro hin hin')
  have HO : Hid (sameMs x y = ((x.name.toList == y.name.toList) && ((x.label == y.label) && (sameT x.key y.key && sameT x.body y.body)))) := Lib.hid rfl
  generalize sameMs x y = res at HO ⊢
  clear hX hY hct hci hdt hdi hty hty' hin hin'
  go_enter Tryz.func21, Tryz.ntmps21
  go_upto_region 1 with (fail)
  have HTB := Lib.hid (twoP_start 58 w X Y)
  generalize (w.alloc (.cells ⟨X⟩ 58)).alloc (.cells ⟨Y⟩ 58) = W at *
  obtain ⟨pb, hpb⟩ : ∃ pb, w.heap.size + 1 = pb := ⟨_, rfl⟩
  rw [hpb] at HTB
  rw [hpb]
  clear hpb
  have d0 := HTB.out.ca 0 (v := .string x.name) (by rw [HX.out]; rfl)
  have d1 := HTB.out.ca 1 (v := .int .i64 x.label) (by rw [HX.out]; rfl)
  have b0 := HTB.out.cb 0 (v := .string y.name) (by rw [HY.out]; rfl)
  have b1 := HTB.out.cb 1 (v := .int .i64 y.label) (by rw [HY.out]; rfl)
  cases hk0 : (x.name.toList == y.name.toList) with
  | false =>
    have HV : Hid (res = false) := Lib.hid (by rw [HO.out, hk0]; rfl)
    go_wp2
    go_ret
    exact ⟨ret_bool HV.out.symm, HTB.out.bel⟩
  | true =>
  cases hk1 : (x.label == y.label) with
  | false =>
    have HV : Hid (res = false) := Lib.hid (by rw [HO.out, hk0, hk1]; rfl)
    go_wp2
    go_ret
    exact ⟨ret_bool HV.out.symm, HTB.out.bel⟩
  | true =>
  have HC2 : Hid (∀ z, Below W.heap.size W z → Calls Tryz.prog 47 #[.agg ⟨ct⟩, .agg ⟨dt⟩] z fun e w' => e = .returned (.bool (sameT x.key y.key)) ∧ Below z.heap.size z w') := Lib.hid fun z hz => by
    have hz2 := HTB.out.bel.trans (hz.mono HTB.out.bel.size)
    exact tsame_any _ _ ct dt z ((HTY.out.1.under hz2).more hz2.size) ((HTY.out.2.under hz2).more hz2.size)
  obtain ⟨s2, hk2⟩ : ∃ b, sameT x.key y.key = b := ⟨_, rfl⟩
  rw [hk2] at HC2
  cases s2 with
  | false =>
    have HV : Hid (res = false) := Lib.hid (by rw [HO.out, hk0, hk1, hk2]; rfl)
    clear hk2
    go_wp2_with (first | (go_at_call 47; refine (HC2.out W (Below.refl _ _)).mono ?_; rintro e z2 ⟨rfl, hb2⟩; have HB2 := Lib.hid hb2; clear hb2) | ((with_reducible refine wl_sload 45 _ rfl ?hwl6 (pb) (2) (dt) _ rfl (HTB.out.rb 2 HY.out rfl) Tryz.underlying45 rfl ?hil6 ?_); (case hwl6 => (exact wantA rfl)); (case hil6 => rw [HDT.out]; kernel_rfl)) | ((with_reducible refine wl_sload 45 _ rfl ?hwl5 (w.heap.size) (2) (ct) _ rfl (HTB.out.ra 2 HX.out rfl) Tryz.underlying45 rfl ?hil5 ?_); (case hwl5 => (exact wantA rfl)); (case hil5 => rw [HCT.out]; kernel_rfl)))
    go_ret
    exact ⟨ret_bool HV.out.symm, HTB.out.bel.trans (HB2.out.mono HTB.out.bel.size)⟩
  | true =>
  have HC3 : Hid (∀ z, Below W.heap.size W z → Calls Tryz.prog 47 #[.agg ⟨ci⟩, .agg ⟨di⟩] z fun e w' => e = .returned (.bool (sameT x.body y.body)) ∧ Below z.heap.size z w') := Lib.hid fun z hz => by
    have hz2 := HTB.out.bel.trans (hz.mono HTB.out.bel.size)
    exact tsame_any _ _ ci di z ((HIN.out.1.under hz2).more hz2.size) ((HIN.out.2.under hz2).more hz2.size)
  obtain ⟨s3, hk3⟩ : ∃ b, sameT x.body y.body = b := ⟨_, rfl⟩
  rw [hk3] at HC3
  cases s3 with
  | false =>
    have HV : Hid (res = false) := Lib.hid (by rw [HO.out, hk0, hk1, hk2, hk3]; rfl)
    clear hk2 hk3
    go_wp2_with (first | (go_at_call 47; refine (HC3.out z2 HB2.out).mono ?_; rintro e z3 ⟨rfl, hb3⟩; have HB3 := Lib.hid (HB2.out.trans (hb3.mono HB2.out.size)); clear hb3) | ((with_reducible refine wl_sload 45 _ rfl ?hwl8 (pb) (5) (di) _ rfl ((HTB.out.on HB2.out).rb 5 HY2.out HL2.out) Tryz.underlying45 rfl ?hil8 ?_); (case hwl8 => (exact wantA rfl)); (case hil8 => rw [HDI.out]; kernel_rfl)) | ((with_reducible refine wl_sload 45 _ rfl ?hwl7 (w.heap.size) (5) (ci) _ rfl ((HTB.out.on HB2.out).ra 5 HX2.out HL1.out) Tryz.underlying45 rfl ?hil7 ?_); (case hwl7 => (exact wantA rfl)); (case hil7 => rw [HCI.out]; kernel_rfl)) | (go_at_call 47; refine (HC2.out W (Below.refl _ _)).mono ?_; rintro e z2 ⟨rfl, hb2⟩; have HB2 := Lib.hid hb2; clear hb2) | ((with_reducible refine wl_sload 45 _ rfl ?hwl6 (pb) (2) (dt) _ rfl (HTB.out.rb 2 HY.out rfl) Tryz.underlying45 rfl ?hil6 ?_); (case hwl6 => (exact wantA rfl)); (case hil6 => rw [HDT.out]; kernel_rfl)) | ((with_reducible refine wl_sload 45 _ rfl ?hwl5 (w.heap.size) (2) (ct) _ rfl (HTB.out.ra 2 HX.out rfl) Tryz.underlying45 rfl ?hil5 ?_); (case hwl5 => (exact wantA rfl)); (case hil5 => rw [HCT.out]; kernel_rfl)))
    go_ret
    exact ⟨ret_bool HV.out.symm, HTB.out.bel.trans (HB3.out.mono HTB.out.bel.size)⟩
  | true =>
  have HV : Hid (res = true) := Lib.hid (by rw [HO.out, hk0, hk1, hk2, hk3]; rfl)
  clear hk2 hk3
  go_wp2_with (first | (go_at_call 47; refine (HC3.out z2 HB2.out).mono ?_; rintro e z3 ⟨rfl, hb3⟩; have HB3 := Lib.hid (HB2.out.trans (hb3.mono HB2.out.size)); clear hb3) | ((with_reducible refine wl_sload 45 _ rfl ?hwl8 (pb) (5) (di) _ rfl ((HTB.out.on HB2.out).rb 5 HY2.out HL2.out) Tryz.underlying45 rfl ?hil8 ?_); (case hwl8 => (exact wantA rfl)); (case hil8 => rw [HDI.out]; kernel_rfl)) | ((with_reducible refine wl_sload 45 _ rfl ?hwl7 (w.heap.size) (5) (ci) _ rfl ((HTB.out.on HB2.out).ra 5 HX2.out HL1.out) Tryz.underlying45 rfl ?hil7 ?_); (case hwl7 => (exact wantA rfl)); (case hil7 => rw [HCI.out]; kernel_rfl)) | (go_at_call 47; refine (HC2.out W (Below.refl _ _)).mono ?_; rintro e z2 ⟨rfl, hb2⟩; have HB2 := Lib.hid hb2; clear hb2) | ((with_reducible refine wl_sload 45 _ rfl ?hwl6 (pb) (2) (dt) _ rfl (HTB.out.rb 2 HY.out rfl) Tryz.underlying45 rfl ?hil6 ?_); (case hwl6 => (exact wantA rfl)); (case hil6 => rw [HDT.out]; kernel_rfl)) | ((with_reducible refine wl_sload 45 _ rfl ?hwl5 (w.heap.size) (2) (ct) _ rfl (HTB.out.ra 2 HX.out rfl) Tryz.underlying45 rfl ?hil5 ?_); (case hwl5 => (exact wantA rfl)); (case hil5 => rw [HCT.out]; kernel_rfl)))
  go_ret
  exact ⟨ret_bool HV.out.symm, HTB.out.bel.trans (HB3.out.mono HTB.out.bel.size)⟩
set_option maxHeartbeats 8000000 in
set_option maxRecDepth 100000 in
theorem snode_any (x y : NodeT) (X Y : List Value) (w : World) (hx : NodeAt w w.heap.size X x) (hy : NodeAt w w.heap.size Y y) :
    Calls Tryz.prog 23 #[.agg ⟨X⟩, .agg ⟨Y⟩] w fun e w' => e = .returned (.bool (sameNd x y)) ∧ Below w.heap.size w w' := by
  obtain ⟨⟨vn, vc, ce, cb, hX, hce, hcb, hnx, hcs, hcl, hex, hbd⟩, _⟩ := hx
  have HNX := Lib.hid hnx
  have HCS := Lib.hid hcs
  obtain ⟨hn1, NA, nc, rfl, hna⟩ := hnx
  obtain ⟨hn2, CA, cc, rfl, hca⟩ := hcs
  have HX : Hid (X = [.int .i64 x.kind, .int .i64 x.label, .slice NA x.next.length nc, .slice CA x.conds.length cc] ++ (ce ++ (cb ++ [.int .i64 x.var, .int .i64 x.msg, .int .i64 x.catch_, .int .i64 x.wait, .int .i64 x.from_]))) := Lib.hid (by rw [hX]; simp)
  have HX2 : Hid (X = ([.int .i64 x.kind, .int .i64 x.label, .slice NA x.next.length nc, .slice CA x.conds.length cc] ++ ce) ++ (cb ++ [.int .i64 x.var, .int .i64 x.msg, .int .i64 x.catch_, .int .i64 x.wait, .int .i64 x.from_])) := Lib.hid (by rw [HX.out, List.append_assoc])
  have HL : Hid (([.int .i64 x.kind, .int .i64 x.label, .slice NA x.next.length nc, .slice CA x.conds.length cc] ++ ce : List Value).length = 14) := Lib.hid (by rw [List.length_append, hce]; rfl)
  have HCE := Lib.hid hce
  have HCB := Lib.hid hcb
  have HEX := Lib.hid (And.intro hex hbd)
  have HCA := Lib.hid hca
  have HCN : Hid (x.conds.length ≤ maxLen) := Lib.hid hcl
  clear hX hce hcb hcl hex hbd hna hca hn1 hn2
  obtain ⟨⟨vn', vc', de, db, hY, hce', hcb', hnx', hcs', hcl', hex', hbd'⟩, _⟩ := hy
  have HNX' := Lib.hid hnx'
  have HCS' := Lib.hid hcs'
  obtain ⟨hn1', MA, nd, rfl, hna'⟩ := hnx'
  obtain ⟨hn2', DA, cd, rfl, hca'⟩ := hcs'
  have HY : Hid (Y = [.int .i64 y.kind, .int .i64 y.label, .slice MA y.next.length nd, .slice DA y.conds.length cd] ++ (de ++ (db ++ [.int .i64 y.var, .int .i64 y.msg, .int .i64 y.catch_, .int .i64 y.wait, .int .i64 y.from_]))) := Lib.hid (by rw [hY]; simp)
  have HY2 : Hid (Y = ([.int .i64 y.kind, .int .i64 y.label, .slice MA y.next.length nd, .slice DA y.conds.length cd] ++ de) ++ (db ++ [.int .i64 y.var, .int .i64 y.msg, .int .i64 y.catch_, .int .i64 y.wait, .int .i64 y.from_])) := Lib.hid (by rw [HY.out, List.append_assoc])
  have HL' : Hid (([.int .i64 y.kind, .int .i64 y.label, .slice MA y.next.length nd, .slice DA y.conds.length cd] ++ de : List Value).length = 14) := Lib.hid (by rw [List.length_append, hce']; rfl)
  have HCE' := Lib.hid hce'
  have HCB' := Lib.hid hcb'
  have HEX' := Lib.hid (And.intro hex' hbd')
  have HCA' := Lib.hid hca'
  have HCN' : Hid (y.conds.length ≤ maxLen) := Lib.hid hcl'
  clear hY hce' hcb' hcl' hex' hbd' hna' hca' hn1' hn2'
  have HP : Hid (sameNp x y = ((x.kind == y.kind) && ((x.label == y.label) && ((x.var == y.var) && ((x.msg == y.msg) && ((x.catch_ == y.catch_) && ((x.wait == y.wait) && (x.from_ == y.from_)))))))) := Lib.hid rfl
  have HO0 : Hid (sameNd x y = (sameNp x y && (allB eqIn x.next y.next && (sameEL x.conds y.conds && (sameE x.expr y.expr && sameE x.body y.body))))) := Lib.hid rfl
  generalize sameNd x y = res at HO0 ⊢
  obtain ⟨b1, hb1⟩ : ∃ b, sameNp x y = b := ⟨_, rfl⟩
  rw [hb1] at HP HO0
  clear hb1
  go_enter Tryz.func23, Tryz.ntmps23
  go_upto_region 1 with (fail)
  have HTB := Lib.hid (twoP_start 42 w X Y)
  generalize (w.alloc (.cells ⟨X⟩ 42)).alloc (.cells ⟨Y⟩ 42) = W at *
  obtain ⟨pb, hpb⟩ : ∃ pb, w.heap.size + 1 = pb := ⟨_, rfl⟩
  rw [hpb] at HTB
  rw [hpb]
  clear hpb
  have ra0 := HTB.out.ca 0 (v := .int .i64 x.kind) (by rw [HX.out]; rfl)
  have rb0 := HTB.out.cb 0 (v := .int .i64 y.kind) (by rw [HY.out]; rfl)
  have ra1 := HTB.out.ca 1 (v := .int .i64 x.label) (by rw [HX.out]; rfl)
  have rb1 := HTB.out.cb 1 (v := .int .i64 y.label) (by rw [HY.out]; rfl)
  have ra2 := HTB.out.ca 24 (v := .int .i64 x.var) (tail_atM (i := 0) HX2.out HL.out HCB.out rfl)
  have rb2 := HTB.out.cb 24 (v := .int .i64 y.var) (tail_atM (i := 0) HY2.out HL'.out HCB'.out rfl)
  have ra3 := HTB.out.ca 25 (v := .int .i64 x.msg) (tail_atM (i := 1) HX2.out HL.out HCB.out rfl)
  have rb3 := HTB.out.cb 25 (v := .int .i64 y.msg) (tail_atM (i := 1) HY2.out HL'.out HCB'.out rfl)
  have ra4 := HTB.out.ca 26 (v := .int .i64 x.catch_) (tail_atM (i := 2) HX2.out HL.out HCB.out rfl)
  have rb4 := HTB.out.cb 26 (v := .int .i64 y.catch_) (tail_atM (i := 2) HY2.out HL'.out HCB'.out rfl)
  have ra5 := HTB.out.ca 27 (v := .int .i64 x.wait) (tail_atM (i := 3) HX2.out HL.out HCB.out rfl)
  have rb5 := HTB.out.cb 27 (v := .int .i64 y.wait) (tail_atM (i := 3) HY2.out HL'.out HCB'.out rfl)
  have ra6 := HTB.out.ca 28 (v := .int .i64 x.from_) (tail_atM (i := 4) HX2.out HL.out HCB.out rfl)
  have rb6 := HTB.out.cb 28 (v := .int .i64 y.from_) (tail_atM (i := 4) HY2.out HL'.out HCB'.out rfl)
  go_cut [5] (fun v z => v = .bool b1 ∧ W = z)
  case first =>
    cases hk0 : (x.kind == y.kind) with
    | false =>
      have HV : Hid (b1 = false) := Lib.hid (by rw [HP.out, hk0]; rfl)
      go_wp2
      go_meet
      case rel => exact ⟨by rw [HV.out], rfl⟩
    | true =>
    cases hk1 : (x.label == y.label) with
    | false =>
      have HV : Hid (b1 = false) := Lib.hid (by rw [HP.out, hk0, hk1]; rfl)
      go_wp2
      go_meet
      case rel => exact ⟨by rw [HV.out], rfl⟩
    | true =>
    cases hk2 : (x.var == y.var) with
    | false =>
      have HV : Hid (b1 = false) := Lib.hid (by rw [HP.out, hk0, hk1, hk2]; rfl)
      go_wp2
      go_meet
      case rel => exact ⟨by rw [HV.out], rfl⟩
    | true =>
    cases hk3 : (x.msg == y.msg) with
    | false =>
      have HV : Hid (b1 = false) := Lib.hid (by rw [HP.out, hk0, hk1, hk2, hk3]; rfl)
      go_wp2
      go_meet
      case rel => exact ⟨by rw [HV.out], rfl⟩
    | true =>
    cases hk4 : (x.catch_ == y.catch_) with
    | false =>
      have HV : Hid (b1 = false) := Lib.hid (by rw [HP.out, hk0, hk1, hk2, hk3, hk4]; rfl)
      go_wp2
      go_meet
      case rel => exact ⟨by rw [HV.out], rfl⟩
    | true =>
    cases hk5 : (x.wait == y.wait) with
    | false =>
      have HV : Hid (b1 = false) := Lib.hid (by rw [HP.out, hk0, hk1, hk2, hk3, hk4, hk5]; rfl)
      go_wp2
      go_meet
      case rel => exact ⟨by rw [HV.out], rfl⟩
    | true =>
    cases hk6 : (x.from_ == y.from_) with
    | false =>
      have HV : Hid (b1 = false) := Lib.hid (by rw [HP.out, hk0, hk1, hk2, hk3, hk4, hk5, hk6]; rfl)
      go_wp2
      go_meet
      case rel => exact ⟨by rw [HV.out], rfl⟩
    | true =>
    have HV : Hid (b1 = true) := Lib.hid (by rw [HP.out, hk0, hk1, hk2, hk3, hk4, hk5, hk6]; rfl)
    go_wp2
    go_meet
    case rel => exact ⟨by rw [HV.out], rfl⟩
  case rest =>
  obtain ⟨rfl, rfl⟩ := hcut
  clear ra0 rb0 ra1 rb1 ra2 rb2 ra3 rb3 ra4 rb4 ra5 rb5 ra6 rb6
  cases b1 with
  | false =>
    have HV : Hid (res = false) := Lib.hid (by rw [HO0.out]; rfl)
    go_wp2
    go_ret
    exact ⟨ret_bool HV.out.symm, HTB.out.bel⟩
  | true =>
  have HO : Hid (res = (allB eqIn x.next y.next && (sameEL x.conds y.conds && (sameE x.expr y.expr && sameE x.body y.body)))) := Lib.hid (by rw [HO0.out]; rfl)
  have p2 := HTB.out.ca 2 (v := (.slice NA x.next.length nc)) (by rw [HX.out]; rfl)
  have q2 := HTB.out.cb 2 (v := (.slice MA y.next.length nd)) (by rw [HY.out]; rfl)
  have HC0 : Hid (∀ z, Below W.heap.size W z → Calls Tryz.prog 49 #[(.slice NA x.next.length nc), (.slice MA y.next.length nd)] z fun e w' => e = .returned (.bool (allB eqIn x.next y.next)) ∧ Below z.heap.size z w') := Lib.hid fun z hz => by
    have hz2 := HTB.out.bel.trans (hz.mono HTB.out.bel.size)
    exact eqi2_any x.next y.next _ _ z ((HNX.out.below hz2 (fun _ _ _ h2 => h2)).more hz2.size) ((HNX'.out.below hz2 (fun _ _ _ h2 => h2)).more hz2.size)
  obtain ⟨s0, hk0⟩ : ∃ b, allB eqIn x.next y.next = b := ⟨_, rfl⟩
  rw [hk0] at HC0
  cases s0 with
  | false =>
    have HV : Hid (res = false) := Lib.hid (by rw [HO.out, hk0]; rfl)
    clear hk0
    go_wp2_with (first | (go_at_call 49; refine (HC0.out W (Below.refl _ _)).mono ?_; rintro e z0 ⟨rfl, hb0⟩; have HB0 := Lib.hid hb0; have p3_0 := (HTB.out.on HB0.out).ca 3 (v := (.slice CA x.conds.length cc)) (by rw [HX.out]; rfl); have q3_0 := (HTB.out.on HB0.out).cb 3 (v := (.slice DA y.conds.length cd)) (by rw [HY.out]; rfl); clear hb0))
    go_ret
    exact ⟨ret_bool HV.out.symm, HTB.out.bel.trans (HB0.out.mono HTB.out.bel.size)⟩
  | true =>
  have HC1 : Hid (∀ z, Below W.heap.size W z → Calls Tryz.prog 50 #[(.slice CA x.conds.length cc), (.slice DA y.conds.length cd), .func (.func 51) #[] #[]] z fun e w' => e = .returned (.bool (sameEL x.conds y.conds)) ∧ Below z.heap.size z w') := Lib.hid fun z hz => by
    have hz2 := HTB.out.bel.trans (hz.mono HTB.out.bel.size)
    exact eqx_any x.conds y.conds _ _ z ((HCS.out.below hz2 (fun _ _ _ h2 => (h2.under hz2).more hz2.size)).more hz2.size) ((HCS'.out.below hz2 (fun _ _ _ h2 => (h2.under hz2).more hz2.size)).more hz2.size) (fun x _ y cs cs' z h h' => psame_any x y cs cs' z h h')
  obtain ⟨s1, hk1⟩ : ∃ b, sameEL x.conds y.conds = b := ⟨_, rfl⟩
  rw [hk1] at HC1
  cases s1 with
  | false =>
    have HV : Hid (res = false) := Lib.hid (by rw [HO.out, hk0, hk1]; rfl)
    clear hk0 hk1
    go_wp2_with (first | (go_at_call 50; refine (HC1.out z0 HB0.out).mono ?_; rintro e z1 ⟨rfl, hb1⟩; have HB1 := Lib.hid (HB0.out.trans (hb1.mono HB0.out.size)); clear hb1) | (go_at_call 49; refine (HC0.out W (Below.refl _ _)).mono ?_; rintro e z0 ⟨rfl, hb0⟩; have HB0 := Lib.hid hb0; have p3_0 := (HTB.out.on HB0.out).ca 3 (v := (.slice CA x.conds.length cc)) (by rw [HX.out]; rfl); have q3_0 := (HTB.out.on HB0.out).cb 3 (v := (.slice DA y.conds.length cd)) (by rw [HY.out]; rfl); clear hb0))
    go_ret
    exact ⟨ret_bool HV.out.symm, HTB.out.bel.trans (HB1.out.mono HTB.out.bel.size)⟩
  | true =>
  have HC2 : Hid (∀ z, Below W.heap.size W z → Calls Tryz.prog 51 #[.agg ⟨ce⟩, .agg ⟨de⟩] z fun e w' => e = .returned (.bool (sameE x.expr y.expr)) ∧ Below z.heap.size z w') := Lib.hid fun z hz => by
    have hz2 := HTB.out.bel.trans (hz.mono HTB.out.bel.size)
    exact psame_any _ _ ce de z ((HEX.out.1.under hz2).more hz2.size) ((HEX'.out.1.under hz2).more hz2.size)
  obtain ⟨s2, hk2⟩ : ∃ b, sameE x.expr y.expr = b := ⟨_, rfl⟩
  rw [hk2] at HC2
  cases s2 with
  | false =>
    have HV : Hid (res = false) := Lib.hid (by rw [HO.out, hk0, hk1, hk2]; rfl)
    clear hk0 hk1 hk2
    go_wp2_with (first | (go_at_call 51; refine (HC2.out z1 HB1.out).mono ?_; rintro e z2 ⟨rfl, hb2⟩; have HB2 := Lib.hid (HB1.out.trans (hb2.mono HB1.out.size)); clear hb2) | ((with_reducible refine wl_sload 40 _ rfl ?hwl10 (pb) (4) (de) _ rfl ((HTB.out.on HB1.out).rb 4 HY.out rfl) Tryz.underlying40 rfl ?hil10 ?_); (case hwl10 => (exact wantA rfl)); (case hil10 => rw [HCE'.out]; kernel_rfl)) | ((with_reducible refine wl_sload 40 _ rfl ?hwl9 (w.heap.size) (4) (ce) _ rfl ((HTB.out.on HB1.out).ra 4 HX.out rfl) Tryz.underlying40 rfl ?hil9 ?_); (case hwl9 => (exact wantA rfl)); (case hil9 => rw [HCE.out]; kernel_rfl)) | (go_at_call 50; refine (HC1.out z0 HB0.out).mono ?_; rintro e z1 ⟨rfl, hb1⟩; have HB1 := Lib.hid (HB0.out.trans (hb1.mono HB0.out.size)); clear hb1) | (go_at_call 49; refine (HC0.out W (Below.refl _ _)).mono ?_; rintro e z0 ⟨rfl, hb0⟩; have HB0 := Lib.hid hb0; have p3_0 := (HTB.out.on HB0.out).ca 3 (v := (.slice CA x.conds.length cc)) (by rw [HX.out]; rfl); have q3_0 := (HTB.out.on HB0.out).cb 3 (v := (.slice DA y.conds.length cd)) (by rw [HY.out]; rfl); clear hb0))
    go_ret
    exact ⟨ret_bool HV.out.symm, HTB.out.bel.trans (HB2.out.mono HTB.out.bel.size)⟩
  | true =>
  have HC3 : Hid (∀ z, Below W.heap.size W z → Calls Tryz.prog 51 #[.agg ⟨cb⟩, .agg ⟨db⟩] z fun e w' => e = .returned (.bool (sameE x.body y.body)) ∧ Below z.heap.size z w') := Lib.hid fun z hz => by
    have hz2 := HTB.out.bel.trans (hz.mono HTB.out.bel.size)
    exact psame_any _ _ cb db z ((HEX.out.2.under hz2).more hz2.size) ((HEX'.out.2.under hz2).more hz2.size)
  obtain ⟨s3, hk3⟩ : ∃ b, sameE x.body y.body = b := ⟨_, rfl⟩
  rw [hk3] at HC3
  cases s3 with
  | false =>
    have HV : Hid (res = false) := Lib.hid (by rw [HO.out, hk0, hk1, hk2, hk3]; rfl)
    clear hk0 hk1 hk2 hk3
    go_wp2_with (first | (go_at_call 51; refine (HC3.out z2 HB2.out).mono ?_; rintro e z3 ⟨rfl, hb3⟩; have HB3 := Lib.hid (HB2.out.trans (hb3.mono HB2.out.size)); clear hb3) | ((with_reducible refine wl_sload 40 _ rfl ?hwl12 (pb) (14) (db) _ rfl ((HTB.out.on HB2.out).rb 14 HY2.out HL'.out) Tryz.underlying40 rfl ?hil12 ?_); (case hwl12 => (exact wantA rfl)); (case hil12 => rw [HCB'.out]; kernel_rfl)) | ((with_reducible refine wl_sload 40 _ rfl ?hwl11 (w.heap.size) (14) (cb) _ rfl ((HTB.out.on HB2.out).ra 14 HX2.out HL.out) Tryz.underlying40 rfl ?hil11 ?_); (case hwl11 => (exact wantA rfl)); (case hil11 => rw [HCB.out]; kernel_rfl)) | (go_at_call 51; refine (HC2.out z1 HB1.out).mono ?_; rintro e z2 ⟨rfl, hb2⟩; have HB2 := Lib.hid (HB1.out.trans (hb2.mono HB1.out.size)); clear hb2) | ((with_reducible refine wl_sload 40 _ rfl ?hwl10 (pb) (4) (de) _ rfl ((HTB.out.on HB1.out).rb 4 HY.out rfl) Tryz.underlying40 rfl ?hil10 ?_); (case hwl10 => (exact wantA rfl)); (case hil10 => rw [HCE'.out]; kernel_rfl)) | ((with_reducible refine wl_sload 40 _ rfl ?hwl9 (w.heap.size) (4) (ce) _ rfl ((HTB.out.on HB1.out).ra 4 HX.out rfl) Tryz.underlying40 rfl ?hil9 ?_); (case hwl9 => (exact wantA rfl)); (case hil9 => rw [HCE.out]; kernel_rfl)) | (go_at_call 50; refine (HC1.out z0 HB0.out).mono ?_; rintro e z1 ⟨rfl, hb1⟩; have HB1 := Lib.hid (HB0.out.trans (hb1.mono HB0.out.size)); clear hb1) | (go_at_call 49; refine (HC0.out W (Below.refl _ _)).mono ?_; rintro e z0 ⟨rfl, hb0⟩; have HB0 := Lib.hid hb0; have p3_0 := (HTB.out.on HB0.out).ca 3 (v := (.slice CA x.conds.length cc)) (by rw [HX.out]; rfl); have q3_0 := (HTB.out.on HB0.out).cb 3 (v := (.slice DA y.conds.length cd)) (by rw [HY.out]; rfl); clear hb0))
    go_ret
    exact ⟨ret_bool HV.out.symm, HTB.out.bel.trans (HB3.out.mono HTB.out.bel.size)⟩
  | true =>
  have HV : Hid (res = true) := Lib.hid (by rw [HO.out, hk0, hk1, hk2, hk3]; rfl)
  clear hk0 hk1 hk2 hk3
  go_wp2_with (first | (go_at_call 51; refine (HC3.out z2 HB2.out).mono ?_; rintro e z3 ⟨rfl, hb3⟩; have HB3 := Lib.hid (HB2.out.trans (hb3.mono HB2.out.size)); clear hb3) | ((with_reducible refine wl_sload 40 _ rfl ?hwl12 (pb) (14) (db) _ rfl ((HTB.out.on HB2.out).rb 14 HY2.out HL'.out) Tryz.underlying40 rfl ?hil12 ?_); (case hwl12 => (exact wantA rfl)); (case hil12 => rw [HCB'.out]; kernel_rfl)) | ((with_reducible refine wl_sload 40 _ rfl ?hwl11 (w.heap.size) (14) (cb) _ rfl ((HTB.out.on HB2.out).ra 14 HX2.out HL.out) Tryz.underlying40 rfl ?hil11 ?_); (case hwl11 => (exact wantA rfl)); (case hil11 => rw [HCB.out]; kernel_rfl)) | (go_at_call 51; refine (HC2.out z1 HB1.out).mono ?_; rintro e z2 ⟨rfl, hb2⟩; have HB2 := Lib.hid (HB1.out.trans (hb2.mono HB1.out.size)); clear hb2) | ((with_reducible refine wl_sload 40 _ rfl ?hwl10 (pb) (4) (de) _ rfl ((HTB.out.on HB1.out).rb 4 HY.out rfl) Tryz.underlying40 rfl ?hil10 ?_); (case hwl10 => (exact wantA rfl)); (case hil10 => rw [HCE'.out]; kernel_rfl)) | ((with_reducible refine wl_sload 40 _ rfl ?hwl9 (w.heap.size) (4) (ce) _ rfl ((HTB.out.on HB1.out).ra 4 HX.out rfl) Tryz.underlying40 rfl ?hil9 ?_); (case hwl9 => (exact wantA rfl)); (case hil9 => rw [HCE.out]; kernel_rfl)) | (go_at_call 50; refine (HC1.out z0 HB0.out).mono ?_; rintro e z1 ⟨rfl, hb1⟩; have HB1 := Lib.hid (HB0.out.trans (hb1.mono HB0.out.size)); clear hb1) | (go_at_call 49; refine (HC0.out W (Below.refl _ _)).mono ?_; rintro e z0 ⟨rfl, hb0⟩; have HB0 := Lib.hid hb0; have p3_0 := (HTB.out.on HB0.out).ca 3 (v := (.slice CA x.conds.length cc)) (by rw [HX.out]; rfl); have q3_0 := (HTB.out.on HB0.out).cb 3 (v := (.slice DA y.conds.length cd)) (by rw [HY.out]; rfl); clear hb0))
  go_ret
  exact ⟨ret_bool HV.out.symm, HTB.out.bel.trans (HB3.out.mono HTB.out.bel.size)⟩
set_option maxHeartbeats 4000000 in
set_option maxRecDepth 100000 in
theorem eqvM_any (l r : List _) (u v : Value) (w : World) (hu : SlAt w w.heap.size 11 (VarAt w w.heap.size) u l) (hv : SlAt w w.heap.size 11 (VarAt w w.heap.size) v r)
    (hF : ∀ x ∈ l, ∀ y cs cs' z, VarAt z z.heap.size cs x → VarAt z z.heap.size cs' y → Calls Tryz.prog 19 #[.agg ⟨cs⟩, .agg ⟨cs'⟩] z fun e w' => e = .returned (.bool (sameVr x y)) ∧ Below z.heap.size z w') :
    Calls Tryz.prog 18 #[u, v, .func (.func 19) #[] #[]] w fun e w' => e = .returned (.bool (allB sameVr l r)) ∧ Below w.heap.size w w' := by
  obtain ⟨A, ca, rfl, hl, ha⟩ := sl_atM hu
  obtain ⟨D, cb, rfl, hr, hb⟩ := sl_atM hv
  by_cases hlen : l.length = r.length
  case neg =>
    have HR := Lib.hid (allB_len (f := sameVr) hlen)
    have t1 : ((l.length : Int) != (r.length : Int)) = true := by rw [bne_iff_ne]; omega
    clear hlen ha hb hu hv hF
    go_enter Tryz.func18, Tryz.ntmps18
    go_wp2
    go_ret
    exact ⟨ret_bool HR.out.symm, Below.refl _ w⟩
  have t1 : ((l.length : Int) != (r.length : Int)) = false := by rw [hlen]; exact bne_self_eq_false _
  have HLEN := Lib.hid hlen
  have HA := Lib.hid ha
  have HB := Lib.hid hb
  have HF := Lib.hid hF
  have HS := Lib.hid (fun k x y => allB_at (f := sameVr) (l := l) (r := r) (k := k) (x := x) (y := y))
  have HT := Lib.hid (allB_end (f := sameVr) hlen)
  have H0 : Hid (allB sameVr (l.drop 0) (r.drop 0) = allB sameVr l r) := Lib.hid rfl
  have hl2 : (l.length : Int) ≤ 9223372036854775807 := by omega
  have hr2 : (r.length : Int) ≤ 9223372036854775807 := by omega
  clear ha hb hu hv hF hlen
  generalize allB sameVr l r = res at H0 ⊢
  go_enter Tryz.func18, Tryz.ntmps18
  go_wp2
  go_loopg [17] l.length (fun q x u => ∃ k : Nat, k + q = l.length ∧ x = .int .i64 k ∧ Below w.heap.size w u ∧ allB sameVr (l.drop k) (r.drop k) = res)
  case atStart => exact ⟨0, by omega, rfl, Below.refl _ _, H0.out⟩
  case round =>
    obtain ⟨k, hk, rfl, hb, hres⟩ := hrel
    have HR := Lib.hid hres
    have HBK := Lib.hid hb
    clear hres hb
    cases gk with
    | zero =>
      obtain rfl : k = l.length := by omega
      have hge : ¬ ((l.length : Int) < (l.length : Int)) := by omega
      have HV := Lib.hid ((HR.out).symm.trans HT.out)
      clear HR
      go_wp2
      go_ret
      exact ⟨ret_bool HV.out.symm, HBK.out⟩
    | succ q =>
      have hlt : (k : Int) < (l.length : Int) := by omega
      have hkr : k < r.length := by have := HLEN.out; omega
      obtain ⟨x, hx⟩ : ∃ x, l[k]? = some x := ⟨_, List.getElem?_eq_getElem (by omega)⟩
      obtain ⟨b1, o1, rfl, hb1, c1⟩ := HA.out (by omega)
      obtain ⟨cs, hcs, hvx⟩ := c1 k x hx
      have HR1 := Lib.hid (rangeAt_below hcs HBK.out hb1)
      have HVX := Lib.hid ((hvx.under HBK.out).more HBK.out.size)
      have HCL := Lib.hid (var_oneM hvx)
      have HMX := Lib.hid (List.mem_of_getElem? hx)
      have HKX := Lib.hid hx
      clear c1 hcs hvx hx
      go_upto_region 6 with (first | ((with_reducible refine wl_sload 47 _ rfl ?hwl15 (b1) (o1 + k * 11) (cs) _ rfl HR1.out Tryz.underlying47 rfl ?hil15 ?_); (case hwl15 => (exact wantA rfl)); (case hil15 => rw [HCL.out.1]; kernel_rfl)) | ((with_reducible refine wl_sbox 47 _ _ rfl ?hwx16 wr ?zz16 (cs) ?hwld16 ?hz16 ?hx16 ?hy16 ?hi16 ?h116 ?_); (case hwld16 => rfl); (case hx16 => rfl); (case hy16 => rfl); (case hwx16 => (exact wantA rfl)); (case hz16 => rw [HCL.out.1]; rfl); (case hi16 => rw [HCL.out.1]; kernel_rfl); (case h116 => exact HCL.out.2); intro Z hZ; have HX := Lib.hid hZ; clear hZ))
      have HBZ := Lib.hid (HBK.out.trans (HX.out.below.mono HBK.out.size))
      have HRA := Lib.hid HX.out.range
      have HVX2 := Lib.hid ((HVX.out.under HX.out.below).more HX.out.below.size)
      obtain ⟨pa, hpa⟩ : ∃ pa, wr.heap.size = pa := ⟨_, rfl⟩
      rw [hpa] at HRA
      have HPA : Hid (pa < Z.heap.size) := Lib.hid (hpa ▸ HX.out.size)
      rw [hpa]
      clear hpa HR1 HVX HX
      obtain ⟨y, hy⟩ : ∃ y, r[k]? = some y := ⟨_, List.getElem?_eq_getElem hkr⟩
      obtain ⟨b2, o2, rfl, hb2, c2⟩ := HB.out (by omega)
      obtain ⟨cs', hcs, hvy⟩ := c2 k y hy
      have HR2 := Lib.hid (rangeAt_below hcs HBZ.out hb2)
      have HVY := Lib.hid ((hvy.under HBZ.out).more HBZ.out.size)
      have HCM := Lib.hid (var_oneM hvy)
      have hlt2 : (k : Int) < (r.length : Int) := by omega
      have HV := Lib.hid ((HR.out).symm.trans (HS.out k x y HKX.out hy))
      clear c2 hcs hvy hy hkr
      go_upto_region 7 with (first | ((with_reducible refine wl_sload 47 _ rfl ?hwl17 (b2) (o2 + k * 11) (cs') _ rfl HR2.out Tryz.underlying47 rfl ?hil17 ?_); (case hwl17 => (exact wantA rfl)); (case hil17 => rw [HCM.out.1]; kernel_rfl)) | ((with_reducible refine wl_sbox 47 _ _ rfl ?hwx18 Z ?zz18 (cs') ?hwld18 ?hz18 ?hx18 ?hy18 ?hi18 ?h118 ?_); (case hwld18 => rfl); (case hx18 => rfl); (case hy18 => rfl); (case hwx18 => (exact wantA rfl)); (case hz18 => rw [HCM.out.1]; rfl); (case hi18 => rw [HCM.out.1]; kernel_rfl); (case h118 => exact HCM.out.2); intro Z2 hZ; have HX2 := Lib.hid hZ; clear hZ))
      have HBZ2 := Lib.hid (HBZ.out.trans (HX2.out.below.mono HBZ.out.size))
      have HRA2 := Lib.hid (rangeAt_below HRA.out HX2.out.below HPA.out)
      have HRB2 := Lib.hid HX2.out.range
      have HVX3 := Lib.hid ((HVX2.out.under HX2.out.below).more HX2.out.below.size)
      have HVY3 := Lib.hid ((HVY.out.under HX2.out.below).more HX2.out.below.size)
      obtain ⟨pb, hpb⟩ : ∃ pb, Z.heap.size = pb := ⟨_, rfl⟩
      rw [hpb] at HRB2
      rw [hpb]
      have HC := Lib.hid (HF.out x HMX.out y cs cs' Z2 HVX3.out HVY3.out)
      clear hpb HX2 HR2 HVX2 HVY HRA HPA HVX3 HVY3
      obtain ⟨cv, hcv⟩ : ∃ b, sameVr x y = b := ⟨_, rfl⟩
      rw [hcv] at HC HV
      clear hcv
      cases cv with
      | true =>
        have HV2 : Hid (res = allB sameVr (l.drop (k + 1)) (r.drop (k + 1))) := Lib.hid (HV.out.trans (Bool.true_and _))
        clear HV
        go_wp2_with (first | ((with_reducible refine wl_sload 47 _ rfl ?hwl13 (pa) (0) (cs) _ rfl HRA2.out Tryz.underlying47 rfl ?hil13 ?_); (case hwl13 => (exact wantA rfl)); (case hil13 => rw [HCL.out.1]; kernel_rfl)) | ((with_reducible refine wl_sload 47 _ rfl ?hwl14 (pb) (0) (cs') _ rfl HRB2.out Tryz.underlying47 rfl ?hil14 ?_); (case hwl14 => (exact wantA rfl)); (case hil14 => rw [HCM.out.1]; kernel_rfl)) | (go_at_call 19; refine (HC.out).mono ?_; rintro e z ⟨rfl, hbz⟩; have HB3 := Lib.hid hbz; clear hbz))
        go_roundg q
        case measure => omega
        case rel => exact ⟨k + 1, by omega, by go_num, HBZ2.out.trans (HB3.out.mono HBZ2.out.size), HV2.out.symm⟩
      | false =>
        have HV2 : Hid (res = false) := Lib.hid (HV.out.trans (Bool.false_and _))
        clear HV
        go_wp2_with (first | ((with_reducible refine wl_sload 47 _ rfl ?hwl13 (pa) (0) (cs) _ rfl HRA2.out Tryz.underlying47 rfl ?hil13 ?_); (case hwl13 => (exact wantA rfl)); (case hil13 => rw [HCL.out.1]; kernel_rfl)) | ((with_reducible refine wl_sload 47 _ rfl ?hwl14 (pb) (0) (cs') _ rfl HRB2.out Tryz.underlying47 rfl ?hil14 ?_); (case hwl14 => (exact wantA rfl)); (case hil14 => rw [HCM.out.1]; kernel_rfl)) | (go_at_call 19; refine (HC.out).mono ?_; rintro e z ⟨rfl, hbz⟩; have HB3 := Lib.hid hbz; clear hbz))
        go_ret
        exact ⟨ret_bool HV2.out.symm, HBZ2.out.trans (HB3.out.mono HBZ2.out.size)⟩
set_option maxHeartbeats 4000000 in
set_option maxRecDepth 100000 in
theorem eqmM_any (l r : List _) (u v : Value) (w : World) (hu : SlAt w w.heap.size 8 (MsgAt w w.heap.size) u l) (hv : SlAt w w.heap.size 8 (MsgAt w w.heap.size) v r)
    (hF : ∀ x ∈ l, ∀ y cs cs' z, MsgAt z z.heap.size cs x → MsgAt z z.heap.size cs' y → Calls Tryz.prog 21 #[.agg ⟨cs⟩, .agg ⟨cs'⟩] z fun e w' => e = .returned (.bool (sameMs x y)) ∧ Below z.heap.size z w') :
    Calls Tryz.prog 20 #[u, v, .func (.func 21) #[] #[]] w fun e w' => e = .returned (.bool (allB sameMs l r)) ∧ Below w.heap.size w w' := by
  obtain ⟨A, ca, rfl, hl, ha⟩ := sl_atM hu
  obtain ⟨D, cb, rfl, hr, hb⟩ := sl_atM hv
  by_cases hlen : l.length = r.length
  case neg =>
    have HR := Lib.hid (allB_len (f := sameMs) hlen)
    have t1 : ((l.length : Int) != (r.length : Int)) = true := by rw [bne_iff_ne]; omega
    clear hlen ha hb hu hv hF
    go_enter Tryz.func20, Tryz.ntmps20
    go_wp2
    go_ret
    exact ⟨ret_bool HR.out.symm, Below.refl _ w⟩
  have t1 : ((l.length : Int) != (r.length : Int)) = false := by rw [hlen]; exact bne_self_eq_false _
  have HLEN := Lib.hid hlen
  have HA := Lib.hid ha
  have HB := Lib.hid hb
  have HF := Lib.hid hF
  have HS := Lib.hid (fun k x y => allB_at (f := sameMs) (l := l) (r := r) (k := k) (x := x) (y := y))
  have HT := Lib.hid (allB_end (f := sameMs) hlen)
  have H0 : Hid (allB sameMs (l.drop 0) (r.drop 0) = allB sameMs l r) := Lib.hid rfl
  have hl2 : (l.length : Int) ≤ 9223372036854775807 := by omega
  have hr2 : (r.length : Int) ≤ 9223372036854775807 := by omega
  clear ha hb hu hv hF hlen
  generalize allB sameMs l r = res at H0 ⊢
  go_enter Tryz.func20, Tryz.ntmps20
  go_wp2
  go_loopg [17] l.length (fun q x u => ∃ k : Nat, k + q = l.length ∧ x = .int .i64 k ∧ Below w.heap.size w u ∧ allB sameMs (l.drop k) (r.drop k) = res)
  case atStart => exact ⟨0, by omega, rfl, Below.refl _ _, H0.out⟩
  case round =>
    obtain ⟨k, hk, rfl, hb, hres⟩ := hrel
    have HR := Lib.hid hres
    have HBK := Lib.hid hb
    clear hres hb
    cases gk with
    | zero =>
      obtain rfl : k = l.length := by omega
      have hge : ¬ ((l.length : Int) < (l.length : Int)) := by omega
      have HV := Lib.hid ((HR.out).symm.trans HT.out)
      clear HR
      go_wp2
      go_ret
      exact ⟨ret_bool HV.out.symm, HBK.out⟩
    | succ q =>
      have hlt : (k : Int) < (l.length : Int) := by omega
      have hkr : k < r.length := by have := HLEN.out; omega
      obtain ⟨x, hx⟩ : ∃ x, l[k]? = some x := ⟨_, List.getElem?_eq_getElem (by omega)⟩
      obtain ⟨b1, o1, rfl, hb1, c1⟩ := HA.out (by omega)
      obtain ⟨cs, hcs, hvx⟩ := c1 k x hx
      have HR1 := Lib.hid (rangeAt_below hcs HBK.out hb1)
      have HVX := Lib.hid ((hvx.under HBK.out).more HBK.out.size)
      have HCL := Lib.hid (msg_oneM hvx)
      have HMX := Lib.hid (List.mem_of_getElem? hx)
      have HKX := Lib.hid hx
      clear c1 hcs hvx hx
      go_upto_region 6 with (first | ((with_reducible refine wl_sload 58 _ rfl ?hwl21 (b1) (o1 + k * 8) (cs) _ rfl HR1.out Tryz.underlying58 rfl ?hil21 ?_); (case hwl21 => (exact wantA rfl)); (case hil21 => rw [HCL.out.1]; kernel_rfl)) | ((with_reducible refine wl_sbox 58 _ _ rfl ?hwx22 wr ?zz22 (cs) ?hwld22 ?hz22 ?hx22 ?hy22 ?hi22 ?h122 ?_); (case hwld22 => rfl); (case hx22 => rfl); (case hy22 => rfl); (case hwx22 => (exact wantA rfl)); (case hz22 => rw [HCL.out.1]; rfl); (case hi22 => rw [HCL.out.1]; kernel_rfl); (case h122 => exact HCL.out.2); intro Z hZ; have HX := Lib.hid hZ; clear hZ))
      have HBZ := Lib.hid (HBK.out.trans (HX.out.below.mono HBK.out.size))
      have HRA := Lib.hid HX.out.range
      have HVX2 := Lib.hid ((HVX.out.under HX.out.below).more HX.out.below.size)
      obtain ⟨pa, hpa⟩ : ∃ pa, wr.heap.size = pa := ⟨_, rfl⟩
      rw [hpa] at HRA
      have HPA : Hid (pa < Z.heap.size) := Lib.hid (hpa ▸ HX.out.size)
      rw [hpa]
      clear hpa HR1 HVX HX
      obtain ⟨y, hy⟩ : ∃ y, r[k]? = some y := ⟨_, List.getElem?_eq_getElem hkr⟩
      obtain ⟨b2, o2, rfl, hb2, c2⟩ := HB.out (by omega)
      obtain ⟨cs', hcs, hvy⟩ := c2 k y hy
      have HR2 := Lib.hid (rangeAt_below hcs HBZ.out hb2)
      have HVY := Lib.hid ((hvy.under HBZ.out).more HBZ.out.size)
      have HCM := Lib.hid (msg_oneM hvy)
      have hlt2 : (k : Int) < (r.length : Int) := by omega
      have HV := Lib.hid ((HR.out).symm.trans (HS.out k x y HKX.out hy))
      clear c2 hcs hvy hy hkr
      go_upto_region 7 with (first | ((with_reducible refine wl_sload 58 _ rfl ?hwl23 (b2) (o2 + k * 8) (cs') _ rfl HR2.out Tryz.underlying58 rfl ?hil23 ?_); (case hwl23 => (exact wantA rfl)); (case hil23 => rw [HCM.out.1]; kernel_rfl)) | ((with_reducible refine wl_sbox 58 _ _ rfl ?hwx24 Z ?zz24 (cs') ?hwld24 ?hz24 ?hx24 ?hy24 ?hi24 ?h124 ?_); (case hwld24 => rfl); (case hx24 => rfl); (case hy24 => rfl); (case hwx24 => (exact wantA rfl)); (case hz24 => rw [HCM.out.1]; rfl); (case hi24 => rw [HCM.out.1]; kernel_rfl); (case h124 => exact HCM.out.2); intro Z2 hZ; have HX2 := Lib.hid hZ; clear hZ))
      have HBZ2 := Lib.hid (HBZ.out.trans (HX2.out.below.mono HBZ.out.size))
      have HRA2 := Lib.hid (rangeAt_below HRA.out HX2.out.below HPA.out)
      have HRB2 := Lib.hid HX2.out.range
      have HVX3 := Lib.hid ((HVX2.out.under HX2.out.below).more HX2.out.below.size)
      have HVY3 := Lib.hid ((HVY.out.under HX2.out.below).more HX2.out.below.size)
      obtain ⟨pb, hpb⟩ : ∃ pb, Z.heap.size = pb := ⟨_, rfl⟩
      rw [hpb] at HRB2
      rw [hpb]
      have HC := Lib.hid (HF.out x HMX.out y cs cs' Z2 HVX3.out HVY3.out)
      clear hpb HX2 HR2 HVX2 HVY HRA HPA HVX3 HVY3
      obtain ⟨cv, hcv⟩ : ∃ b, sameMs x y = b := ⟨_, rfl⟩
      rw [hcv] at HC HV
      clear hcv
      cases cv with
      | true =>
        have HV2 : Hid (res = allB sameMs (l.drop (k + 1)) (r.drop (k + 1))) := Lib.hid (HV.out.trans (Bool.true_and _))
        clear HV
        go_wp2_with (first | ((with_reducible refine wl_sload 58 _ rfl ?hwl19 (pa) (0) (cs) _ rfl HRA2.out Tryz.underlying58 rfl ?hil19 ?_); (case hwl19 => (exact wantA rfl)); (case hil19 => rw [HCL.out.1]; kernel_rfl)) | ((with_reducible refine wl_sload 58 _ rfl ?hwl20 (pb) (0) (cs') _ rfl HRB2.out Tryz.underlying58 rfl ?hil20 ?_); (case hwl20 => (exact wantA rfl)); (case hil20 => rw [HCM.out.1]; kernel_rfl)) | (go_at_call 21; refine (HC.out).mono ?_; rintro e z ⟨rfl, hbz⟩; have HB3 := Lib.hid hbz; clear hbz))
        go_roundg q
        case measure => omega
        case rel => exact ⟨k + 1, by omega, by go_num, HBZ2.out.trans (HB3.out.mono HBZ2.out.size), HV2.out.symm⟩
      | false =>
        have HV2 : Hid (res = false) := Lib.hid (HV.out.trans (Bool.false_and _))
        clear HV
        go_wp2_with (first | ((with_reducible refine wl_sload 58 _ rfl ?hwl19 (pa) (0) (cs) _ rfl HRA2.out Tryz.underlying58 rfl ?hil19 ?_); (case hwl19 => (exact wantA rfl)); (case hil19 => rw [HCL.out.1]; kernel_rfl)) | ((with_reducible refine wl_sload 58 _ rfl ?hwl20 (pb) (0) (cs') _ rfl HRB2.out Tryz.underlying58 rfl ?hil20 ?_); (case hwl20 => (exact wantA rfl)); (case hil20 => rw [HCM.out.1]; kernel_rfl)) | (go_at_call 21; refine (HC.out).mono ?_; rintro e z ⟨rfl, hbz⟩; have HB3 := Lib.hid hbz; clear hbz))
        go_ret
        exact ⟨ret_bool HV2.out.symm, HBZ2.out.trans (HB3.out.mono HBZ2.out.size)⟩
set_option maxHeartbeats 4000000 in
set_option maxRecDepth 100000 in
theorem eqnM_any (l r : List _) (u v : Value) (w : World) (hu : SlAt w w.heap.size 29 (NodeAt w w.heap.size) u l) (hv : SlAt w w.heap.size 29 (NodeAt w w.heap.size) v r)
    (hF : ∀ x ∈ l, ∀ y cs cs' z, NodeAt z z.heap.size cs x → NodeAt z z.heap.size cs' y → Calls Tryz.prog 23 #[.agg ⟨cs⟩, .agg ⟨cs'⟩] z fun e w' => e = .returned (.bool (sameNd x y)) ∧ Below z.heap.size z w') :
    Calls Tryz.prog 22 #[u, v, .func (.func 23) #[] #[]] w fun e w' => e = .returned (.bool (allB sameNd l r)) ∧ Below w.heap.size w w' := by
  obtain ⟨A, ca, rfl, hl, ha⟩ := sl_atM hu
  obtain ⟨D, cb, rfl, hr, hb⟩ := sl_atM hv
  by_cases hlen : l.length = r.length
  case neg =>
    have HR := Lib.hid (allB_len (f := sameNd) hlen)
    have t1 : ((l.length : Int) != (r.length : Int)) = true := by rw [bne_iff_ne]; omega
    clear hlen ha hb hu hv hF
    go_enter Tryz.func22, Tryz.ntmps22
    go_wp2
    go_ret
    exact ⟨ret_bool HR.out.symm, Below.refl _ w⟩
  have t1 : ((l.length : Int) != (r.length : Int)) = false := by rw [hlen]; exact bne_self_eq_false _
  have HLEN := Lib.hid hlen
  have HA := Lib.hid ha
  have HB := Lib.hid hb
  have HF := Lib.hid hF
  have HS := Lib.hid (fun k x y => allB_at (f := sameNd) (l := l) (r := r) (k := k) (x := x) (y := y))
  have HT := Lib.hid (allB_end (f := sameNd) hlen)
  have H0 : Hid (allB sameNd (l.drop 0) (r.drop 0) = allB sameNd l r) := Lib.hid rfl
  have hl2 : (l.length : Int) ≤ 9223372036854775807 := by omega
  have hr2 : (r.length : Int) ≤ 9223372036854775807 := by omega
  clear ha hb hu hv hF hlen
  generalize allB sameNd l r = res at H0 ⊢
  go_enter Tryz.func22, Tryz.ntmps22
  go_wp2
  go_loopg [17] l.length (fun q x u => ∃ k : Nat, k + q = l.length ∧ x = .int .i64 k ∧ Below w.heap.size w u ∧ allB sameNd (l.drop k) (r.drop k) = res)
  case atStart => exact ⟨0, by omega, rfl, Below.refl _ _, H0.out⟩
  case round =>
    obtain ⟨k, hk, rfl, hb, hres⟩ := hrel
    have HR := Lib.hid hres
    have HBK := Lib.hid hb
    clear hres hb
    cases gk with
    | zero =>
      obtain rfl : k = l.length := by omega
      have hge : ¬ ((l.length : Int) < (l.length : Int)) := by omega
      have HV := Lib.hid ((HR.out).symm.trans HT.out)
      clear HR
      go_wp2
      go_ret
      exact ⟨ret_bool HV.out.symm, HBK.out⟩
    | succ q =>
      have hlt : (k : Int) < (l.length : Int) := by omega
      have hkr : k < r.length := by have := HLEN.out; omega
      obtain ⟨x, hx⟩ : ∃ x, l[k]? = some x := ⟨_, List.getElem?_eq_getElem (by omega)⟩
      obtain ⟨b1, o1, rfl, hb1, c1⟩ := HA.out (by omega)
      obtain ⟨cs, hcs, hvx⟩ := c1 k x hx
      have HR1 := Lib.hid (rangeAt_below hcs HBK.out hb1)
      have HVX := Lib.hid ((hvx.under HBK.out).more HBK.out.size)
      have HCL := Lib.hid (node_oneM hvx)
      have HMX := Lib.hid (List.mem_of_getElem? hx)
      have HKX := Lib.hid hx
      clear c1 hcs hvx hx
      go_upto_region 6 with (first | ((with_reducible refine wl_sload 42 _ rfl ?hwl27 (b1) (o1 + k * 29) (cs) _ rfl HR1.out Tryz.underlying42 rfl ?hil27 ?_); (case hwl27 => (exact wantA rfl)); (case hil27 => rw [HCL.out.1]; kernel_rfl)) | ((with_reducible refine wl_sbox 42 _ _ rfl ?hwx28 wr ?zz28 (cs) ?hwld28 ?hz28 ?hx28 ?hy28 ?hi28 ?h128 ?_); (case hwld28 => rfl); (case hx28 => rfl); (case hy28 => rfl); (case hwx28 => (exact wantA rfl)); (case hz28 => rw [HCL.out.1]; rfl); (case hi28 => rw [HCL.out.1]; kernel_rfl); (case h128 => exact HCL.out.2); intro Z hZ; have HX := Lib.hid hZ; clear hZ))
      have HBZ := Lib.hid (HBK.out.trans (HX.out.below.mono HBK.out.size))
      have HRA := Lib.hid HX.out.range
      have HVX2 := Lib.hid ((HVX.out.under HX.out.below).more HX.out.below.size)
      obtain ⟨pa, hpa⟩ : ∃ pa, wr.heap.size = pa := ⟨_, rfl⟩
      rw [hpa] at HRA
      have HPA : Hid (pa < Z.heap.size) := Lib.hid (hpa ▸ HX.out.size)
      rw [hpa]
      clear hpa HR1 HVX HX
      obtain ⟨y, hy⟩ : ∃ y, r[k]? = some y := ⟨_, List.getElem?_eq_getElem hkr⟩
      obtain ⟨b2, o2, rfl, hb2, c2⟩ := HB.out (by omega)
      obtain ⟨cs', hcs, hvy⟩ := c2 k y hy
      have HR2 := Lib.hid (rangeAt_below hcs HBZ.out hb2)
      have HVY := Lib.hid ((hvy.under HBZ.out).more HBZ.out.size)
      have HCM := Lib.hid (node_oneM hvy)
      have hlt2 : (k : Int) < (r.length : Int) := by omega
      have HV := Lib.hid ((HR.out).symm.trans (HS.out k x y HKX.out hy))
      clear c2 hcs hvy hy hkr
      go_upto_region 7 with (first | ((with_reducible refine wl_sload 42 _ rfl ?hwl29 (b2) (o2 + k * 29) (cs') _ rfl HR2.out Tryz.underlying42 rfl ?hil29 ?_); (case hwl29 => (exact wantA rfl)); (case hil29 => rw [HCM.out.1]; kernel_rfl)) | ((with_reducible refine wl_sbox 42 _ _ rfl ?hwx30 Z ?zz30 (cs') ?hwld30 ?hz30 ?hx30 ?hy30 ?hi30 ?h130 ?_); (case hwld30 => rfl); (case hx30 => rfl); (case hy30 => rfl); (case hwx30 => (exact wantA rfl)); (case hz30 => rw [HCM.out.1]; rfl); (case hi30 => rw [HCM.out.1]; kernel_rfl); (case h130 => exact HCM.out.2); intro Z2 hZ; have HX2 := Lib.hid hZ; clear hZ))
      have HBZ2 := Lib.hid (HBZ.out.trans (HX2.out.below.mono HBZ.out.size))
      have HRA2 := Lib.hid (rangeAt_below HRA.out HX2.out.below HPA.out)
      have HRB2 := Lib.hid HX2.out.range
      have HVX3 := Lib.hid ((HVX2.out.under HX2.out.below).more HX2.out.below.size)
      have HVY3 := Lib.hid ((HVY.out.under HX2.out.below).more HX2.out.below.size)
      obtain ⟨pb, hpb⟩ : ∃ pb, Z.heap.size = pb := ⟨_, rfl⟩
      rw [hpb] at HRB2
      rw [hpb]
      have HC := Lib.hid (HF.out x HMX.out y cs cs' Z2 HVX3.out HVY3.out)
      clear hpb HX2 HR2 HVX2 HVY HRA HPA HVX3 HVY3
      obtain ⟨cv, hcv⟩ : ∃ b, sameNd x y = b := ⟨_, rfl⟩
      rw [hcv] at HC HV
      clear hcv
      cases cv with
      | true =>
        have HV2 : Hid (res = allB sameNd (l.drop (k + 1)) (r.drop (k + 1))) := Lib.hid (HV.out.trans (Bool.true_and _))
        clear HV
        go_wp2_with (first | ((with_reducible refine wl_sload 42 _ rfl ?hwl25 (pa) (0) (cs) _ rfl HRA2.out Tryz.underlying42 rfl ?hil25 ?_); (case hwl25 => (exact wantA rfl)); (case hil25 => rw [HCL.out.1]; kernel_rfl)) | ((with_reducible refine wl_sload 42 _ rfl ?hwl26 (pb) (0) (cs') _ rfl HRB2.out Tryz.underlying42 rfl ?hil26 ?_); (case hwl26 => (exact wantA rfl)); (case hil26 => rw [HCM.out.1]; kernel_rfl)) | (go_at_call 23; refine (HC.out).mono ?_; rintro e z ⟨rfl, hbz⟩; have HB3 := Lib.hid hbz; clear hbz))
        go_roundg q
        case measure => omega
        case rel => exact ⟨k + 1, by omega, by go_num, HBZ2.out.trans (HB3.out.mono HBZ2.out.size), HV2.out.symm⟩
      | false =>
        have HV2 : Hid (res = false) := Lib.hid (HV.out.trans (Bool.false_and _))
        clear HV
        go_wp2_with (first | ((with_reducible refine wl_sload 42 _ rfl ?hwl25 (pa) (0) (cs) _ rfl HRA2.out Tryz.underlying42 rfl ?hil25 ?_); (case hwl25 => (exact wantA rfl)); (case hil25 => rw [HCL.out.1]; kernel_rfl)) | ((with_reducible refine wl_sload 42 _ rfl ?hwl26 (pb) (0) (cs') _ rfl HRB2.out Tryz.underlying42 rfl ?hil26 ?_); (case hwl26 => (exact wantA rfl)); (case hil26 => rw [HCM.out.1]; kernel_rfl)) | (go_at_call 23; refine (HC.out).mono ?_; rintro e z ⟨rfl, hbz⟩; have HB3 := Lib.hid hbz; clear hbz))
        go_ret
        exact ⟨ret_bool HV2.out.symm, HBZ2.out.trans (HB3.out.mono HBZ2.out.size)⟩
set_option maxHeartbeats 8000000 in
set_option maxRecDepth 100000 in
theorem msame_any (x y : ModelT) (X Y : List Value) (w : World) (hx : ModelAt w w.heap.size X x) (hy : ModelAt w w.heap.size Y y) :
    Calls Tryz.prog 6 #[.agg ⟨X⟩, .agg ⟨Y⟩] w fun e w' => e = .returned (.bool (sameM x y)) ∧ Below w.heap.size w w' := by
  obtain ⟨⟨v1, v2, v3, v4, v5, hX, h1, h2, h3, h4, h5⟩, _⟩ := hx
  have H1 := Lib.hid h1
  obtain ⟨hl1, A1, a1, rfl, ha1⟩ := h1
  have H2 := Lib.hid h2
  obtain ⟨hl2, A2, a2, rfl, ha2⟩ := h2
  have H3 := Lib.hid h3
  obtain ⟨hl3, A3, a3, rfl, ha3⟩ := h3
  have H4 := Lib.hid h4
  obtain ⟨hl4, A4, a4, rfl, ha4⟩ := h4
  have H5 := Lib.hid h5
  obtain ⟨hl5, A5, a5, rfl, ha5⟩ := h5
  have HX := Lib.hid hX
  clear hX hl1 ha1 hl2 ha2 hl3 ha3 hl4 ha4 hl5 ha5
  obtain ⟨⟨v1', v2', v3', v4', v5', hY, h1', h2', h3', h4', h5'⟩, _⟩ := hy
  have H1' := Lib.hid h1'
  obtain ⟨hl1', B1, b1, rfl, ha1'⟩ := h1'
  have H2' := Lib.hid h2'
  obtain ⟨hl2', B2, b2, rfl, ha2'⟩ := h2'
  have H3' := Lib.hid h3'
  obtain ⟨hl3', B3, b3, rfl, ha3'⟩ := h3'
  have H4' := Lib.hid h4'
  obtain ⟨hl4', B4, b4, rfl, ha4'⟩ := h4'
  have H5' := Lib.hid h5'
  obtain ⟨hl5', B5, b5, rfl, ha5'⟩ := h5'
  have HY := Lib.hid hY
  clear hY hl1' ha1' hl2' ha2' hl3' ha3' hl4' ha4' hl5' ha5'
  have HO : Hid (sameM x y = ((x.labels == y.labels) && (allB eqPr x.order y.order && (allB eqPr x.grants y.grants && (allB sameVr x.vars y.vars && (allB sameMs x.msgs y.msgs && allB sameNd x.nodes y.nodes)))))) := Lib.hid rfl
  generalize sameM x y = res at HO ⊢
  go_enter Tryz.func6, Tryz.ntmps6
  go_upto_region 1 with (fail)
  have HTB := Lib.hid (twoP_start 27 w X Y)
  generalize (w.alloc (.cells ⟨X⟩ 27)).alloc (.cells ⟨Y⟩ 27) = W at *
  obtain ⟨pb, hpb⟩ : ∃ pb, w.heap.size + 1 = pb := ⟨_, rfl⟩
  rw [hpb] at HTB
  rw [hpb]
  clear hpb
  have a0_ := HTB.out.ca 0 (v := .int .i64 x.labels) (by rw [HX.out]; rfl)
  have b0_ := HTB.out.cb 0 (v := .int .i64 y.labels) (by rw [HY.out]; rfl)
  have p1_ := HTB.out.ca 1 (v := (.slice A1 x.order.length a1)) (by rw [HX.out]; rfl)
  have q1_ := HTB.out.cb 1 (v := (.slice B1 y.order.length b1)) (by rw [HY.out]; rfl)
  cases hk0 : (x.labels == y.labels) with
  | false =>
    have HV : Hid (res = false) := Lib.hid (by rw [HO.out, hk0]; rfl)
    go_wp2
    go_ret
    exact ⟨ret_bool HV.out.symm, HTB.out.bel⟩
  | true =>
  have HC1 : Hid (∀ z, Below W.heap.size W z → Calls Tryz.prog 17 #[(.slice A1 x.order.length a1), (.slice B1 y.order.length b1)] z fun e w' => e = .returned (.bool (allB eqPr x.order y.order)) ∧ Below z.heap.size z w') := Lib.hid fun z hz => by
    have hz2 := HTB.out.bel.trans (hz.mono HTB.out.bel.size)
    exact eqp_any _ _ _ _ z ((H1.out.below hz2 (fun _ _ _ h2 => h2)).more hz2.size) ((H1'.out.below hz2 (fun _ _ _ h2 => h2)).more hz2.size)
  obtain ⟨s1, hk1⟩ : ∃ b, allB eqPr x.order y.order = b := ⟨_, rfl⟩
  rw [hk1] at HC1
  cases s1 with
  | false =>
    have HV : Hid (res = false) := Lib.hid (by rw [HO.out, hk0, hk1]; rfl)
    clear hk1
    go_wp2_with (first | (go_at_call 17; refine (HC1.out W (Below.refl _ _)).mono ?_; rintro e z1 ⟨rfl, hb1⟩; have HB1 := Lib.hid hb1; have p2_1 := (HTB.out.on HB1.out).ca 2 (v := (.slice A2 x.grants.length a2)) (by rw [HX.out]; rfl); have q2_1 := (HTB.out.on HB1.out).cb 2 (v := (.slice B2 y.grants.length b2)) (by rw [HY.out]; rfl); clear hb1))
    go_ret
    exact ⟨ret_bool HV.out.symm, HTB.out.bel.trans (HB1.out.mono HTB.out.bel.size)⟩
  | true =>
  have HC2 : Hid (∀ z, Below W.heap.size W z → Calls Tryz.prog 17 #[(.slice A2 x.grants.length a2), (.slice B2 y.grants.length b2)] z fun e w' => e = .returned (.bool (allB eqPr x.grants y.grants)) ∧ Below z.heap.size z w') := Lib.hid fun z hz => by
    have hz2 := HTB.out.bel.trans (hz.mono HTB.out.bel.size)
    exact eqp_any _ _ _ _ z ((H2.out.below hz2 (fun _ _ _ h2 => h2)).more hz2.size) ((H2'.out.below hz2 (fun _ _ _ h2 => h2)).more hz2.size)
  obtain ⟨s2, hk2⟩ : ∃ b, allB eqPr x.grants y.grants = b := ⟨_, rfl⟩
  rw [hk2] at HC2
  cases s2 with
  | false =>
    have HV : Hid (res = false) := Lib.hid (by rw [HO.out, hk0, hk1, hk2]; rfl)
    clear hk1 hk2
    go_wp2_with (first | (go_at_call 17; refine (HC2.out z1 HB1.out).mono ?_; rintro e z2 ⟨rfl, hb2⟩; have HB2 := Lib.hid (HB1.out.trans (hb2.mono HB1.out.size)); have p3_2 := (HTB.out.on HB2.out).ca 3 (v := (.slice A3 x.vars.length a3)) (by rw [HX.out]; rfl); have q3_2 := (HTB.out.on HB2.out).cb 3 (v := (.slice B3 y.vars.length b3)) (by rw [HY.out]; rfl); clear hb2) | (go_at_call 17; refine (HC1.out W (Below.refl _ _)).mono ?_; rintro e z1 ⟨rfl, hb1⟩; have HB1 := Lib.hid hb1; have p2_1 := (HTB.out.on HB1.out).ca 2 (v := (.slice A2 x.grants.length a2)) (by rw [HX.out]; rfl); have q2_1 := (HTB.out.on HB1.out).cb 2 (v := (.slice B2 y.grants.length b2)) (by rw [HY.out]; rfl); clear hb1))
    go_ret
    exact ⟨ret_bool HV.out.symm, HTB.out.bel.trans (HB2.out.mono HTB.out.bel.size)⟩
  | true =>
  have HC3 : Hid (∀ z, Below W.heap.size W z → Calls Tryz.prog 18 #[(.slice A3 x.vars.length a3), (.slice B3 y.vars.length b3), .func (.func 19) #[] #[]] z fun e w' => e = .returned (.bool (allB sameVr x.vars y.vars)) ∧ Below z.heap.size z w') := Lib.hid fun z hz => by
    have hz2 := HTB.out.bel.trans (hz.mono HTB.out.bel.size)
    exact eqvM_any _ _ _ _ z ((H3.out.below hz2 (fun _ _ _ h2 => (h2.under hz2).more hz2.size)).more hz2.size) ((H3'.out.below hz2 (fun _ _ _ h2 => (h2.under hz2).more hz2.size)).more hz2.size) (fun x _ y cs cs' z h h' => svar_any x y cs cs' z h h')
  obtain ⟨s3, hk3⟩ : ∃ b, allB sameVr x.vars y.vars = b := ⟨_, rfl⟩
  rw [hk3] at HC3
  cases s3 with
  | false =>
    have HV : Hid (res = false) := Lib.hid (by rw [HO.out, hk0, hk1, hk2, hk3]; rfl)
    clear hk1 hk2 hk3
    go_wp2_with (first | (go_at_call 18; refine (HC3.out z2 HB2.out).mono ?_; rintro e z3 ⟨rfl, hb3⟩; have HB3 := Lib.hid (HB2.out.trans (hb3.mono HB2.out.size)); have p4_3 := (HTB.out.on HB3.out).ca 4 (v := (.slice A4 x.msgs.length a4)) (by rw [HX.out]; rfl); have q4_3 := (HTB.out.on HB3.out).cb 4 (v := (.slice B4 y.msgs.length b4)) (by rw [HY.out]; rfl); clear hb3) | (go_at_call 17; refine (HC2.out z1 HB1.out).mono ?_; rintro e z2 ⟨rfl, hb2⟩; have HB2 := Lib.hid (HB1.out.trans (hb2.mono HB1.out.size)); have p3_2 := (HTB.out.on HB2.out).ca 3 (v := (.slice A3 x.vars.length a3)) (by rw [HX.out]; rfl); have q3_2 := (HTB.out.on HB2.out).cb 3 (v := (.slice B3 y.vars.length b3)) (by rw [HY.out]; rfl); clear hb2) | (go_at_call 17; refine (HC1.out W (Below.refl _ _)).mono ?_; rintro e z1 ⟨rfl, hb1⟩; have HB1 := Lib.hid hb1; have p2_1 := (HTB.out.on HB1.out).ca 2 (v := (.slice A2 x.grants.length a2)) (by rw [HX.out]; rfl); have q2_1 := (HTB.out.on HB1.out).cb 2 (v := (.slice B2 y.grants.length b2)) (by rw [HY.out]; rfl); clear hb1))
    go_ret
    exact ⟨ret_bool HV.out.symm, HTB.out.bel.trans (HB3.out.mono HTB.out.bel.size)⟩
  | true =>
  have HC4 : Hid (∀ z, Below W.heap.size W z → Calls Tryz.prog 20 #[(.slice A4 x.msgs.length a4), (.slice B4 y.msgs.length b4), .func (.func 21) #[] #[]] z fun e w' => e = .returned (.bool (allB sameMs x.msgs y.msgs)) ∧ Below z.heap.size z w') := Lib.hid fun z hz => by
    have hz2 := HTB.out.bel.trans (hz.mono HTB.out.bel.size)
    exact eqmM_any _ _ _ _ z ((H4.out.below hz2 (fun _ _ _ h2 => (h2.under hz2).more hz2.size)).more hz2.size) ((H4'.out.below hz2 (fun _ _ _ h2 => (h2.under hz2).more hz2.size)).more hz2.size) (fun x _ y cs cs' z h h' => smsg_any x y cs cs' z h h')
  obtain ⟨s4, hk4⟩ : ∃ b, allB sameMs x.msgs y.msgs = b := ⟨_, rfl⟩
  rw [hk4] at HC4
  cases s4 with
  | false =>
    have HV : Hid (res = false) := Lib.hid (by rw [HO.out, hk0, hk1, hk2, hk3, hk4]; rfl)
    clear hk1 hk2 hk3 hk4
    go_wp2_with (first | (go_at_call 20; refine (HC4.out z3 HB3.out).mono ?_; rintro e z4 ⟨rfl, hb4⟩; have HB4 := Lib.hid (HB3.out.trans (hb4.mono HB3.out.size)); have p5_4 := (HTB.out.on HB4.out).ca 5 (v := (.slice A5 x.nodes.length a5)) (by rw [HX.out]; rfl); have q5_4 := (HTB.out.on HB4.out).cb 5 (v := (.slice B5 y.nodes.length b5)) (by rw [HY.out]; rfl); clear hb4) | (go_at_call 18; refine (HC3.out z2 HB2.out).mono ?_; rintro e z3 ⟨rfl, hb3⟩; have HB3 := Lib.hid (HB2.out.trans (hb3.mono HB2.out.size)); have p4_3 := (HTB.out.on HB3.out).ca 4 (v := (.slice A4 x.msgs.length a4)) (by rw [HX.out]; rfl); have q4_3 := (HTB.out.on HB3.out).cb 4 (v := (.slice B4 y.msgs.length b4)) (by rw [HY.out]; rfl); clear hb3) | (go_at_call 17; refine (HC2.out z1 HB1.out).mono ?_; rintro e z2 ⟨rfl, hb2⟩; have HB2 := Lib.hid (HB1.out.trans (hb2.mono HB1.out.size)); have p3_2 := (HTB.out.on HB2.out).ca 3 (v := (.slice A3 x.vars.length a3)) (by rw [HX.out]; rfl); have q3_2 := (HTB.out.on HB2.out).cb 3 (v := (.slice B3 y.vars.length b3)) (by rw [HY.out]; rfl); clear hb2) | (go_at_call 17; refine (HC1.out W (Below.refl _ _)).mono ?_; rintro e z1 ⟨rfl, hb1⟩; have HB1 := Lib.hid hb1; have p2_1 := (HTB.out.on HB1.out).ca 2 (v := (.slice A2 x.grants.length a2)) (by rw [HX.out]; rfl); have q2_1 := (HTB.out.on HB1.out).cb 2 (v := (.slice B2 y.grants.length b2)) (by rw [HY.out]; rfl); clear hb1))
    go_ret
    exact ⟨ret_bool HV.out.symm, HTB.out.bel.trans (HB4.out.mono HTB.out.bel.size)⟩
  | true =>
  have HC5 : Hid (∀ z, Below W.heap.size W z → Calls Tryz.prog 22 #[(.slice A5 x.nodes.length a5), (.slice B5 y.nodes.length b5), .func (.func 23) #[] #[]] z fun e w' => e = .returned (.bool (allB sameNd x.nodes y.nodes)) ∧ Below z.heap.size z w') := Lib.hid fun z hz => by
    have hz2 := HTB.out.bel.trans (hz.mono HTB.out.bel.size)
    exact eqnM_any _ _ _ _ z ((H5.out.below hz2 (fun _ _ _ h2 => (h2.under hz2).more hz2.size)).more hz2.size) ((H5'.out.below hz2 (fun _ _ _ h2 => (h2.under hz2).more hz2.size)).more hz2.size) (fun x _ y cs cs' z h h' => snode_any x y cs cs' z h h')
  obtain ⟨s5, hk5⟩ : ∃ b, allB sameNd x.nodes y.nodes = b := ⟨_, rfl⟩
  rw [hk5] at HC5
  cases s5 with
  | false =>
    have HV : Hid (res = false) := Lib.hid (by rw [HO.out, hk0, hk1, hk2, hk3, hk4, hk5]; rfl)
    clear hk1 hk2 hk3 hk4 hk5
    go_wp2_with (first | (go_at_call 22; refine (HC5.out z4 HB4.out).mono ?_; rintro e z5 ⟨rfl, hb5⟩; have HB5 := Lib.hid (HB4.out.trans (hb5.mono HB4.out.size)); clear hb5) | (go_at_call 20; refine (HC4.out z3 HB3.out).mono ?_; rintro e z4 ⟨rfl, hb4⟩; have HB4 := Lib.hid (HB3.out.trans (hb4.mono HB3.out.size)); have p5_4 := (HTB.out.on HB4.out).ca 5 (v := (.slice A5 x.nodes.length a5)) (by rw [HX.out]; rfl); have q5_4 := (HTB.out.on HB4.out).cb 5 (v := (.slice B5 y.nodes.length b5)) (by rw [HY.out]; rfl); clear hb4) | (go_at_call 18; refine (HC3.out z2 HB2.out).mono ?_; rintro e z3 ⟨rfl, hb3⟩; have HB3 := Lib.hid (HB2.out.trans (hb3.mono HB2.out.size)); have p4_3 := (HTB.out.on HB3.out).ca 4 (v := (.slice A4 x.msgs.length a4)) (by rw [HX.out]; rfl); have q4_3 := (HTB.out.on HB3.out).cb 4 (v := (.slice B4 y.msgs.length b4)) (by rw [HY.out]; rfl); clear hb3) | (go_at_call 17; refine (HC2.out z1 HB1.out).mono ?_; rintro e z2 ⟨rfl, hb2⟩; have HB2 := Lib.hid (HB1.out.trans (hb2.mono HB1.out.size)); have p3_2 := (HTB.out.on HB2.out).ca 3 (v := (.slice A3 x.vars.length a3)) (by rw [HX.out]; rfl); have q3_2 := (HTB.out.on HB2.out).cb 3 (v := (.slice B3 y.vars.length b3)) (by rw [HY.out]; rfl); clear hb2) | (go_at_call 17; refine (HC1.out W (Below.refl _ _)).mono ?_; rintro e z1 ⟨rfl, hb1⟩; have HB1 := Lib.hid hb1; have p2_1 := (HTB.out.on HB1.out).ca 2 (v := (.slice A2 x.grants.length a2)) (by rw [HX.out]; rfl); have q2_1 := (HTB.out.on HB1.out).cb 2 (v := (.slice B2 y.grants.length b2)) (by rw [HY.out]; rfl); clear hb1))
    go_ret
    exact ⟨ret_bool HV.out.symm, HTB.out.bel.trans (HB5.out.mono HTB.out.bel.size)⟩
  | true =>
  have HV : Hid (res = true) := Lib.hid (by rw [HO.out, hk0, hk1, hk2, hk3, hk4, hk5]; rfl)
  clear hk1 hk2 hk3 hk4 hk5
  go_wp2_with (first | (go_at_call 22; refine (HC5.out z4 HB4.out).mono ?_; rintro e z5 ⟨rfl, hb5⟩; have HB5 := Lib.hid (HB4.out.trans (hb5.mono HB4.out.size)); clear hb5) | (go_at_call 20; refine (HC4.out z3 HB3.out).mono ?_; rintro e z4 ⟨rfl, hb4⟩; have HB4 := Lib.hid (HB3.out.trans (hb4.mono HB3.out.size)); have p5_4 := (HTB.out.on HB4.out).ca 5 (v := (.slice A5 x.nodes.length a5)) (by rw [HX.out]; rfl); have q5_4 := (HTB.out.on HB4.out).cb 5 (v := (.slice B5 y.nodes.length b5)) (by rw [HY.out]; rfl); clear hb4) | (go_at_call 18; refine (HC3.out z2 HB2.out).mono ?_; rintro e z3 ⟨rfl, hb3⟩; have HB3 := Lib.hid (HB2.out.trans (hb3.mono HB2.out.size)); have p4_3 := (HTB.out.on HB3.out).ca 4 (v := (.slice A4 x.msgs.length a4)) (by rw [HX.out]; rfl); have q4_3 := (HTB.out.on HB3.out).cb 4 (v := (.slice B4 y.msgs.length b4)) (by rw [HY.out]; rfl); clear hb3) | (go_at_call 17; refine (HC2.out z1 HB1.out).mono ?_; rintro e z2 ⟨rfl, hb2⟩; have HB2 := Lib.hid (HB1.out.trans (hb2.mono HB1.out.size)); have p3_2 := (HTB.out.on HB2.out).ca 3 (v := (.slice A3 x.vars.length a3)) (by rw [HX.out]; rfl); have q3_2 := (HTB.out.on HB2.out).cb 3 (v := (.slice B3 y.vars.length b3)) (by rw [HY.out]; rfl); clear hb2) | (go_at_call 17; refine (HC1.out W (Below.refl _ _)).mono ?_; rintro e z1 ⟨rfl, hb1⟩; have HB1 := Lib.hid hb1; have p2_1 := (HTB.out.on HB1.out).ca 2 (v := (.slice A2 x.grants.length a2)) (by rw [HX.out]; rfl); have q2_1 := (HTB.out.on HB1.out).cb 2 (v := (.slice B2 y.grants.length b2)) (by rw [HY.out]; rfl); clear hb1))
  go_ret
  exact ⟨ret_bool HV.out.symm, HTB.out.bel.trans (HB5.out.mono HTB.out.bel.size)⟩
end Go.Proofs.YtpmjcbjdcjjplaaGreat
end
