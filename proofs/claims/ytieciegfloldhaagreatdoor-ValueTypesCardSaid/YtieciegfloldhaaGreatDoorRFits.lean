/- ref04.fits; value.Fits, ref04.Fits. -/
import Derived.Test.YtieciegfloldhaaGreatDoorFits
namespace Go.Proofs.YtieciegfloldhaaGreatDoor
open Go Go.RowKit
set_option linter.unusedVariables false
set_option linter.unusedSimpArgs false

set_option maxHeartbeats 8000000 in
set_option maxRecDepth 100000 in
theorem rfits_any : ∀ (x : VT) (t : TT) (d e : Nat) (cs cs' : List Value) (w : World), rightV x d = true → typedT t e = true → ValAt w w.heap.size cs x → TypAt w w.heap.size cs' t →
    Calls Tryz.prog 44 #[.agg ⟨cs⟩, .agg ⟨cs'⟩] w fun en w' => en = .returned (.bool (fitsV x t)) ∧ Below w.heap.size w w' := by
  intro x
  induction x using VT.ind with
  | h k n f s ns its ih =>
    intro t d e cs cs' w hrx hty hv hv'
    cases t with
    | mk k' ns' ts =>
    have IH := Lib.hid ih
    obtain ⟨vn, vi, rfl, _, _, _, _, hn, _, hi⟩ := hv.inv
    obtain ⟨A, c, rfl, hil, hA⟩ := vals_at hi
    obtain ⟨vn', vi', rfl, _, hn', _, hi'⟩ := hv'.inv
    obtain ⟨A', c', rfl, hil', hA'⟩ := typs_at hi'
    have HN := Lib.hid hn
    have HN' := Lib.hid hn'
    have HA := Lib.hid hA
    have HA' := Lib.hid hA'
    have HO : Hid (fitsV (.mk k n f s ns its) (.mk k' ns' ts) = ((k == k') && (if k = 5 then fitsA its ts else if k = 6 then decide (ns = ns') && fitsL its ts else true))) := Lib.hid (by rw [fitsV])
    generalize hres : fitsV (.mk k n f s ns its) (.mk k' ns' ts) = res at *
    have HRX := Lib.hid hrx
    have HTY := Lib.hid hty
    have hk7 : k ≠ 7 := by rintro rfl; rw [right_not7] at hrx; cases hrx
    clear ih hv hv' hn hn' hi hi' hA hA' hres hrx hty
    by_cases hck : k = k'
    case neg =>
      have HR : Hid (res = false) := Lib.hid (HO.out.trans (by rw [beq_eq_false_iff_ne.2 hck]; exact Bool.false_and _))
      have t2 : (k != k') = true := by simpa using hck
      clear hck HO hk7
      go_enter Tryz.func44, Tryz.ntmps44
      go_upto_region 1 with (fail)
      have HA0 := Lib.hid (range_box w [.int .i64 k, .int .i64 n, .float .f64 f, .string s, vn, .slice A its.length c] 26)
      have HB1 := Lib.hid (box_below w (.cells ⟨[.int .i64 k, .int .i64 n, .float .f64 f, .string s, vn, .slice A its.length c]⟩ 26))
      have HS1 := Lib.hid (box_size w (.cells ⟨[.int .i64 k, .int .i64 n, .float .f64 f, .string s, vn, .slice A its.length c]⟩ 26))
      have HSE : Hid ((w.alloc (.cells ⟨[.int .i64 k, .int .i64 n, .float .f64 f, .string s, vn, .slice A its.length c]⟩ 26)).heap.size = w.heap.size + 1) := Lib.hid (by simp)
      generalize w.alloc (.cells ⟨[.int .i64 k, .int .i64 n, .float .f64 f, .string s, vn, .slice A its.length c]⟩ 26) = W1 at *
      have HB := Lib.hid (range_box W1 [.int .i64 k', vn', .slice A' ts.length c'] 36)
      have HB2 := Lib.hid (box_below W1 (.cells ⟨[.int .i64 k', vn', .slice A' ts.length c']⟩ 36))
      have HS2 := Lib.hid (box_size W1 (.cells ⟨[.int .i64 k', vn', .slice A' ts.length c']⟩ 36))
      generalize W1.alloc (.cells ⟨[.int .i64 k', vn', .slice A' ts.length c']⟩ 36) = W at *
      have HAW := Lib.hid (rangeAt_below HA0.out HB2.out HS1.out)
      have HBW := Lib.hid (HB1.out.trans (HB2.out.mono HB1.out.size))
      have HLT := Lib.hid (Nat.lt_of_lt_of_le HS1.out HB2.out.size)
      rw [HSE.out] at HB HS2
      obtain ⟨pb, hpb⟩ : ∃ pb, w.heap.size + 1 = pb := ⟨_, rfl⟩
      rw [hpb] at HB HS2
      rw [hpb]
      clear HA0 HB1 HS1 HSE HB2 hpb
      have d0 : W.cell? ⟨w.heap.size, 0, none⟩ = some (.int .i64 k) := by have := HAW.out 0 _ rfl; simpa using this
      have e0 : W.cell? ⟨pb, 0, none⟩ = some (.int .i64 k') := by have := HB.out 0 _ rfl; simpa using this
      have D5 : Hid (W.cell? ⟨w.heap.size, 5, none⟩ = some (.slice A its.length c)) := Lib.hid (by have := HAW.out 5 _ rfl; simpa using this)
      have E2 : Hid (W.cell? ⟨pb, 2, none⟩ = some (.slice A' ts.length c')) := Lib.hid (by have := HB.out 2 _ rfl; simpa using this)
      go_wp2
      go_ret
      exact ⟨ret_bool HR.out.symm, HBW.out⟩
    subst hck
    have HO1 := Lib.hid (HO.out.trans (by rw [beq_self_eq_true, Bool.true_and]))
    clear HO
    by_cases k5 : k = 5
    · subst k5
      have HR : Hid (res = fitsA its ts) := Lib.hid (HO1.out.trans (if_pos rfl))
      clear HO1 hk7
      go_enter Tryz.func44, Tryz.ntmps44
      go_upto_region 1 with (fail)
      have HA0 := Lib.hid (range_box w [.int .i64 5, .int .i64 n, .float .f64 f, .string s, vn, .slice A its.length c] 26)
      have HB1 := Lib.hid (box_below w (.cells ⟨[.int .i64 5, .int .i64 n, .float .f64 f, .string s, vn, .slice A its.length c]⟩ 26))
      have HS1 := Lib.hid (box_size w (.cells ⟨[.int .i64 5, .int .i64 n, .float .f64 f, .string s, vn, .slice A its.length c]⟩ 26))
      have HSE : Hid ((w.alloc (.cells ⟨[.int .i64 5, .int .i64 n, .float .f64 f, .string s, vn, .slice A its.length c]⟩ 26)).heap.size = w.heap.size + 1) := Lib.hid (by simp)
      generalize w.alloc (.cells ⟨[.int .i64 5, .int .i64 n, .float .f64 f, .string s, vn, .slice A its.length c]⟩ 26) = W1 at *
      have HB := Lib.hid (range_box W1 [.int .i64 5, vn', .slice A' ts.length c'] 36)
      have HB2 := Lib.hid (box_below W1 (.cells ⟨[.int .i64 5, vn', .slice A' ts.length c']⟩ 36))
      have HS2 := Lib.hid (box_size W1 (.cells ⟨[.int .i64 5, vn', .slice A' ts.length c']⟩ 36))
      generalize W1.alloc (.cells ⟨[.int .i64 5, vn', .slice A' ts.length c']⟩ 36) = W at *
      have HAW := Lib.hid (rangeAt_below HA0.out HB2.out HS1.out)
      have HBW := Lib.hid (HB1.out.trans (HB2.out.mono HB1.out.size))
      have HLT := Lib.hid (Nat.lt_of_lt_of_le HS1.out HB2.out.size)
      rw [HSE.out] at HB HS2
      obtain ⟨pb, hpb⟩ : ∃ pb, w.heap.size + 1 = pb := ⟨_, rfl⟩
      rw [hpb] at HB HS2
      rw [hpb]
      clear HA0 HB1 HS1 HSE HB2 hpb
      have d0 : W.cell? ⟨w.heap.size, 0, none⟩ = some (.int .i64 5) := by have := HAW.out 0 _ rfl; simpa using this
      have e0 : W.cell? ⟨pb, 0, none⟩ = some (.int .i64 5) := by have := HB.out 0 _ rfl; simpa using this
      have D5 : Hid (W.cell? ⟨w.heap.size, 5, none⟩ = some (.slice A its.length c)) := Lib.hid (by have := HAW.out 5 _ rfl; simpa using this)
      have E2 : Hid (W.cell? ⟨pb, 2, none⟩ = some (.slice A' ts.length c')) := Lib.hid (by have := HB.out 2 _ rfl; simpa using this)
      have D0 := Lib.hid d0
      have c5 := D5.out
      go_wp2
      clear d0 e0 c5
      go_loopg [5] its.length (fun g x u => ∃ j : Nat, j + g = its.length ∧ x = .int .i64 j ∧ Below W.heap.size W u ∧ fitsA (its.drop j) ts = res)
      case atStart => exact ⟨0, by omega, rfl, Below.refl _ _, HR.out.symm⟩
      case round =>
        obtain ⟨j, hj, rfl, hb, hres⟩ := hrel
        have HR2 := Lib.hid hres
        have HBK := Lib.hid hb
        have c0 : wr.cell? ⟨w.heap.size, 0, none⟩ = some (.int .i64 5) := (hb.cell (p := ⟨w.heap.size, 0, none⟩) HLT.out).trans D0.out
        have c5 := (hb.cell (p := ⟨w.heap.size, 5, none⟩) HLT.out).trans D5.out
        clear hres hb
        cases gk with
        | zero =>
          obtain rfl : j = its.length := by omega
          have hge : ¬ ((its.length : Int) < (its.length : Int)) := by omega
          have HVE := Lib.hid (HR2.out.symm.trans fitsA_end)
          go_wp2
          go_ret
          exact ⟨ret_bool HVE.out.symm, HBW.out.trans (HBK.out.mono HBW.out.size)⟩
        | succ g =>
          have hlt : (j : Int) < (its.length : Int) := by omega
          obtain ⟨x, hx⟩ : ∃ x, its[j]? = some x := ⟨_, List.getElem?_eq_getElem (by omega)⟩
          obtain ⟨b, o', rfl, hbl, hc⟩ := HA.out (by omega)
          obtain ⟨ks, hks, hvx⟩ := hc j x hx
          obtain ⟨y, hy⟩ : ∃ y, ts[0]? = some y := ⟨_, List.getElem?_eq_getElem (by have := (typed_five HTY.out).1; omega)⟩
          obtain ⟨b', o'', rfl, hbl', hc'⟩ := HA'.out (by have := (typed_five HTY.out).1; omega)
          obtain ⟨ks', hks0, hvy⟩ := hc' 0 y hy
          have hks' : w.rangeAt b' o'' ks' := by simpa using hks0
          have hlt1 : (0 : Int) < (ts.length : Int) := by have := (typed_five HTY.out).1; omega
          have hne : ts ≠ [] := fun h => by rw [h] at hlt1; simp at hlt1
          have HVS := Lib.hid (HR2.out.symm.trans (fitsA_step hx hy))
          have HKS := Lib.hid (rangeAt_below hks HBW.out hbl)
          have HKS' := Lib.hid (rangeAt_below hks' HBW.out hbl')
          have HKB := Lib.hid (Nat.lt_of_lt_of_le hbl HBW.out.size)
          have HKB' := Lib.hid (Nat.lt_of_lt_of_le hbl' HBW.out.size)
          have HKL := Lib.hid (val_one hvx)
          have HKL' := Lib.hid (typ_one hvy)
          have HC := Lib.hid (fun (z : World) (hz : Below W.heap.size W z) => IH.out x (List.mem_of_getElem? hx) y (d + 1) (e + 1) ks ks' z (right_five HRX.out x (List.mem_of_getElem? hx)) ((typed_five HTY.out).2 y (List.mem_of_getElem? hy)) (hvx.next (HBW.out.trans (hz.mono HBW.out.size))) (hvy.next (HBW.out.trans (hz.mono HBW.out.size))))
          clear hc hks hvx hx hc' hks0 hks' hvy hy
          generalize fitsV x y = rx at *
          go_upto_region 7 with (fail)
          clear c0 c5
          cases rx with
          | true =>
            have HV2 := Lib.hid (HVS.out.trans (Bool.true_and _))
            clear HVS
            refine wp_region_ord [(0, true), (1, true), (2, true), (3, true), (4, true), (5, true), (6, true), (7, true), (8, true), (9, false), (10, true)]
              (fun z => Below W.heap.size W z) (by kernel_rfl) (by kernel_rfl) (by kernel_rfl) rfl (by intro c a d v w h; cases d <;> exact h) ?_
            have hs : Below W.heap.size W wr.drew := HBK.out.drew
            refine ord_load (some 27) (.pointer (some ⟨w.heap.size, 5, none⟩)) _ rfl rfl (by first | exact wanted_none rfl | exact wanted_if rfl rfl rfl rfl) hs (fun z hz => by go_simp) ?_
            go_frame
            refine ord_load (some 28) (.slice (some ⟨b, o', none⟩) its.length c) _ rfl rfl (by first | exact wanted_none rfl | exact wanted_if rfl rfl rfl rfl) hs (fun z hz => by have dd := (hz.cell (p := ⟨w.heap.size, 5, none⟩) HLT.out).trans D5.out; go_simp) ?_
            go_frame
            refine ord_move (some 29) (.int .i64 j) _ _ rfl rfl rfl (by first | exact wanted_none rfl | exact wanted_if rfl rfl rfl rfl) hs rfl ?_
            go_frame
            refine ord_load (some 30) (.pointer (some ⟨b, o' + j * 6, none⟩)) _ rfl rfl (by first | exact wanted_none rfl | exact wanted_if rfl rfl rfl rfl) hs (fun z hz => by go_simp) ?_
            go_frame
            refine ord_load (some 31) (.agg ⟨ks⟩) _ rfl rfl (by first | exact wanted_none rfl | exact wanted_if rfl rfl rfl rfl) hs (fun z hz => exec_sload 26 rfl b (o' + j * 6) ks _ rfl (rangeAt_below HKS.out hz HKB.out) Tryz.underlying26 rfl (by rw [HKL.out.1]; kernel_rfl)) ?_
            go_frame
            refine ord_load (some 32) (.pointer (some ⟨pb, 2, none⟩)) _ rfl rfl (by first | exact wanted_none rfl | exact wanted_if rfl rfl rfl rfl) hs (fun z hz => by go_simp) ?_
            go_frame
            refine ord_load (some 33) (.slice (some ⟨b', o'', none⟩) ts.length c') _ rfl rfl (by first | exact wanted_none rfl | exact wanted_if rfl rfl rfl rfl) hs (fun z hz => by have dd := (hz.cell (p := ⟨pb, 2, none⟩) HS2.out).trans E2.out; go_simp) ?_
            go_frame
            refine ord_load (some 34) (.pointer (some ⟨b', o'', none⟩)) _ rfl rfl (by first | exact wanted_none rfl | exact wanted_if rfl rfl rfl rfl) hs (fun z hz => by go_simp) ?_
            go_frame
            refine ord_load (some 35) (.agg ⟨ks'⟩) _ rfl rfl (by first | exact wanted_none rfl | exact wanted_if rfl rfl rfl rfl) hs (fun z hz => exec_sload 36 rfl b' o'' ks' _ rfl (rangeAt_below HKS'.out hz HKB'.out) Tryz.underlying36 rfl (by rw [HKL'.out.1]; kernel_rfl)) ?_
            go_frame
            refine ord_to (some 36) 44 Tryz.func44 (by kernel_rfl) (by kernel_rfl) [.agg ⟨ks⟩, .agg ⟨ks'⟩] _ _ _ rfl rfl rfl (by first | exact wanted_none rfl | exact wanted_if rfl rfl rfl rfl) rfl ?_
            refine (HC.out _ hs).mono ?_
            rintro e z1 ⟨rfl, hb1⟩
            have hs2 : Below W.heap.size W z1 := hs.trans (hb1.mono hs.size)
            refine ⟨.bool true, rfl, hs2, ?_⟩
            clear hb1
            go_frame
            refine ord_load (some 37) (.bool false) _ rfl rfl (by first | exact wanted_none rfl | exact wanted_if rfl rfl rfl rfl) hs2 (fun z hz => by go_simp) ?_
            go_frame
            refine ord_end ?_
            have HB3 := Lib.hid hs2
            clear hs hs2
            go_wp2
            go_roundg g
            case measure => omega
            case rel => exact ⟨j + 1, by omega, by go_num, HB3.out, HV2.out.symm⟩
          | false =>
            have HV2 : Hid (res = false) := Lib.hid (HVS.out.trans (Bool.false_and _))
            clear HVS
            refine wp_region_ord [(0, true), (1, true), (2, true), (3, true), (4, true), (5, true), (6, true), (7, true), (8, true), (9, false), (10, true)]
              (fun z => Below W.heap.size W z) (by kernel_rfl) (by kernel_rfl) (by kernel_rfl) rfl (by intro c a d v w h; cases d <;> exact h) ?_
            have hs : Below W.heap.size W wr.drew := HBK.out.drew
            refine ord_load (some 27) (.pointer (some ⟨w.heap.size, 5, none⟩)) _ rfl rfl (by first | exact wanted_none rfl | exact wanted_if rfl rfl rfl rfl) hs (fun z hz => by go_simp) ?_
            go_frame
            refine ord_load (some 28) (.slice (some ⟨b, o', none⟩) its.length c) _ rfl rfl (by first | exact wanted_none rfl | exact wanted_if rfl rfl rfl rfl) hs (fun z hz => by have dd := (hz.cell (p := ⟨w.heap.size, 5, none⟩) HLT.out).trans D5.out; go_simp) ?_
            go_frame
            refine ord_move (some 29) (.int .i64 j) _ _ rfl rfl rfl (by first | exact wanted_none rfl | exact wanted_if rfl rfl rfl rfl) hs rfl ?_
            go_frame
            refine ord_load (some 30) (.pointer (some ⟨b, o' + j * 6, none⟩)) _ rfl rfl (by first | exact wanted_none rfl | exact wanted_if rfl rfl rfl rfl) hs (fun z hz => by go_simp) ?_
            go_frame
            refine ord_load (some 31) (.agg ⟨ks⟩) _ rfl rfl (by first | exact wanted_none rfl | exact wanted_if rfl rfl rfl rfl) hs (fun z hz => exec_sload 26 rfl b (o' + j * 6) ks _ rfl (rangeAt_below HKS.out hz HKB.out) Tryz.underlying26 rfl (by rw [HKL.out.1]; kernel_rfl)) ?_
            go_frame
            refine ord_load (some 32) (.pointer (some ⟨pb, 2, none⟩)) _ rfl rfl (by first | exact wanted_none rfl | exact wanted_if rfl rfl rfl rfl) hs (fun z hz => by go_simp) ?_
            go_frame
            refine ord_load (some 33) (.slice (some ⟨b', o'', none⟩) ts.length c') _ rfl rfl (by first | exact wanted_none rfl | exact wanted_if rfl rfl rfl rfl) hs (fun z hz => by have dd := (hz.cell (p := ⟨pb, 2, none⟩) HS2.out).trans E2.out; go_simp) ?_
            go_frame
            refine ord_load (some 34) (.pointer (some ⟨b', o'', none⟩)) _ rfl rfl (by first | exact wanted_none rfl | exact wanted_if rfl rfl rfl rfl) hs (fun z hz => by go_simp) ?_
            go_frame
            refine ord_load (some 35) (.agg ⟨ks'⟩) _ rfl rfl (by first | exact wanted_none rfl | exact wanted_if rfl rfl rfl rfl) hs (fun z hz => exec_sload 36 rfl b' o'' ks' _ rfl (rangeAt_below HKS'.out hz HKB'.out) Tryz.underlying36 rfl (by rw [HKL'.out.1]; kernel_rfl)) ?_
            go_frame
            refine ord_to (some 36) 44 Tryz.func44 (by kernel_rfl) (by kernel_rfl) [.agg ⟨ks⟩, .agg ⟨ks'⟩] _ _ _ rfl rfl rfl (by first | exact wanted_none rfl | exact wanted_if rfl rfl rfl rfl) rfl ?_
            refine (HC.out _ hs).mono ?_
            rintro e z1 ⟨rfl, hb1⟩
            have hs2 : Below W.heap.size W z1 := hs.trans (hb1.mono hs.size)
            refine ⟨.bool false, rfl, hs2, ?_⟩
            clear hb1
            go_frame
            refine ord_load (some 37) (.bool true) _ rfl rfl (by first | exact wanted_none rfl | exact wanted_if rfl rfl rfl rfl) hs2 (fun z hz => by go_simp) ?_
            go_frame
            refine ord_end ?_
            have HB3 := Lib.hid hs2
            clear hs hs2
            go_wp2
            go_ret
            exact ⟨ret_bool HV2.out.symm, HBW.out.trans (HB3.out.mono HBW.out.size)⟩
    have HO2 := Lib.hid (HO1.out.trans (if_neg k5))
    clear HO1
    by_cases k6 : k = 6
    · subst k6
      have HV : Hid (res = (decide (ns = ns') && fitsL its ts)) := Lib.hid (HO2.out.trans (if_pos rfl))
      clear HO2 hk7
      go_enter Tryz.func44, Tryz.ntmps44
      go_upto_region 1 with (fail)
      have HA0 := Lib.hid (range_box w [.int .i64 6, .int .i64 n, .float .f64 f, .string s, vn, .slice A its.length c] 26)
      have HB1 := Lib.hid (box_below w (.cells ⟨[.int .i64 6, .int .i64 n, .float .f64 f, .string s, vn, .slice A its.length c]⟩ 26))
      have HS1 := Lib.hid (box_size w (.cells ⟨[.int .i64 6, .int .i64 n, .float .f64 f, .string s, vn, .slice A its.length c]⟩ 26))
      have HSE : Hid ((w.alloc (.cells ⟨[.int .i64 6, .int .i64 n, .float .f64 f, .string s, vn, .slice A its.length c]⟩ 26)).heap.size = w.heap.size + 1) := Lib.hid (by simp)
      generalize w.alloc (.cells ⟨[.int .i64 6, .int .i64 n, .float .f64 f, .string s, vn, .slice A its.length c]⟩ 26) = W1 at *
      have HB := Lib.hid (range_box W1 [.int .i64 6, vn', .slice A' ts.length c'] 36)
      have HB2 := Lib.hid (box_below W1 (.cells ⟨[.int .i64 6, vn', .slice A' ts.length c']⟩ 36))
      have HS2 := Lib.hid (box_size W1 (.cells ⟨[.int .i64 6, vn', .slice A' ts.length c']⟩ 36))
      generalize W1.alloc (.cells ⟨[.int .i64 6, vn', .slice A' ts.length c']⟩ 36) = W at *
      have HAW := Lib.hid (rangeAt_below HA0.out HB2.out HS1.out)
      have HBW := Lib.hid (HB1.out.trans (HB2.out.mono HB1.out.size))
      have HLT := Lib.hid (Nat.lt_of_lt_of_le HS1.out HB2.out.size)
      rw [HSE.out] at HB HS2
      obtain ⟨pb, hpb⟩ : ∃ pb, w.heap.size + 1 = pb := ⟨_, rfl⟩
      rw [hpb] at HB HS2
      rw [hpb]
      clear HA0 HB1 HS1 HSE HB2 hpb
      have d0 : W.cell? ⟨w.heap.size, 0, none⟩ = some (.int .i64 6) := by have := HAW.out 0 _ rfl; simpa using this
      have e0 : W.cell? ⟨pb, 0, none⟩ = some (.int .i64 6) := by have := HB.out 0 _ rfl; simpa using this
      have D5 : Hid (W.cell? ⟨w.heap.size, 5, none⟩ = some (.slice A its.length c)) := Lib.hid (by have := HAW.out 5 _ rfl; simpa using this)
      have E2 : Hid (W.cell? ⟨pb, 2, none⟩ = some (.slice A' ts.length c')) := Lib.hid (by have := HB.out 2 _ rfl; simpa using this)
      have D0 := Lib.hid d0
      have c4 : W.cell? ⟨w.heap.size, 4, none⟩ = some vn := by have := HAW.out 4 _ rfl; simpa using this
      have f1 : W.cell? ⟨pb, 1, none⟩ = some vn' := by have := HB.out 1 _ rfl; simpa using this
      have c5 := D5.out
      have HSE := Lib.hid (rrows_any vn vn' ns ns' W ((HN.out.below HBW.out fun _ _ _ h => h).more HBW.out.size) ((HN'.out.below HBW.out fun _ _ _ h => h).more HBW.out.size))
      by_cases hnn : ns = ns'
      · have hz0 : listC cmpS ns ns' = 0 := namesC_zero.2 hnn
        have HR : Hid (res = fitsL its ts) := Lib.hid (HV.out.trans (by rw [decide_eq_true hnn]; exact Bool.true_and _))
        have HLN : Hid (its.length = ts.length) := Lib.hid (by rw [← (right_six HRX.out).1, ← (typed_six HTY.out).1, hnn])
        rw [hz0] at HSE
        clear hnn HV hz0
        go_wp2_with (go_at_call 68; refine HSE.out.mono ?_; rintro en z ⟨rfl, hzm⟩; have HB4 : Hid (Below W.heap.size W z) := Lib.hid (by obtain ⟨m, rfl⟩ := hzm; exact below_drewN (Below.refl _ _) _); clear hzm; have c5' := (HB4.out.cell (p := ⟨w.heap.size, 5, none⟩) HLT.out).trans D5.out)
        clear d0 e0 c4 f1 c5 c5'
        go_loopg [6] its.length (fun g x u => ∃ j : Nat, j + g = its.length ∧ x = .int .i64 j ∧ Below W.heap.size W u ∧ fitsL (its.drop j) (ts.drop j) = res)
        case atStart => exact ⟨0, by omega, rfl, HB4.out, HR.out.symm⟩
        case round =>
          obtain ⟨j, hj, rfl, hb, hres⟩ := hrel
          have HR2 := Lib.hid hres
          have HBK := Lib.hid hb
          have c0 : wr.cell? ⟨w.heap.size, 0, none⟩ = some (.int .i64 6) := (hb.cell (p := ⟨w.heap.size, 0, none⟩) HLT.out).trans D0.out
          have c5 := (hb.cell (p := ⟨w.heap.size, 5, none⟩) HLT.out).trans D5.out
          clear hres hb
          cases gk with
          | zero =>
            obtain rfl : j = its.length := by omega
            have hge : ¬ ((its.length : Int) < (its.length : Int)) := by omega
            have HVE := Lib.hid (HR2.out.symm.trans fitsL_end)
            go_wp2
            go_ret
            exact ⟨ret_bool HVE.out.symm, HBW.out.trans (HBK.out.mono HBW.out.size)⟩
          | succ g =>
            have hlt : (j : Int) < (its.length : Int) := by omega
            obtain ⟨x, hx⟩ : ∃ x, its[j]? = some x := ⟨_, List.getElem?_eq_getElem (by omega)⟩
            obtain ⟨b, o', rfl, hbl, hc⟩ := HA.out (by omega)
            obtain ⟨ks, hks, hvx⟩ := hc j x hx
            have hjt : j < ts.length := HLN.out ▸ (by omega : j < its.length)
            have hlt1 : (j : Int) < (ts.length : Int) := by omega
            obtain ⟨y, hy⟩ : ∃ y, ts[j]? = some y := ⟨_, List.getElem?_eq_getElem hjt⟩
            obtain ⟨b', o'', rfl, hbl', hc'⟩ := HA'.out (by omega)
            obtain ⟨ks', hks', hvy⟩ := hc' j y hy
            have HVS := Lib.hid (HR2.out.symm.trans (fitsL_step hx hy))
            have HKS := Lib.hid (rangeAt_below hks HBW.out hbl)
            have HKS' := Lib.hid (rangeAt_below hks' HBW.out hbl')
            have HKB := Lib.hid (Nat.lt_of_lt_of_le hbl HBW.out.size)
            have HKB' := Lib.hid (Nat.lt_of_lt_of_le hbl' HBW.out.size)
            have HKL := Lib.hid (val_one hvx)
            have HKL' := Lib.hid (typ_one hvy)
            have HC := Lib.hid (fun (z : World) (hz : Below W.heap.size W z) => IH.out x (List.mem_of_getElem? hx) y (d + 1) (e + 1) ks ks' z ((right_six HRX.out).2 x (List.mem_of_getElem? hx)) ((typed_six HTY.out).2 y (List.mem_of_getElem? hy)) (hvx.next (HBW.out.trans (hz.mono HBW.out.size))) (hvy.next (HBW.out.trans (hz.mono HBW.out.size))))
            clear hc hks hvx hx hc' hks' hvy hy
            generalize fitsV x y = rx at *
            go_upto_region 15 with (fail)
            clear c0 c5
            cases rx with
            | true =>
              have HV2 := Lib.hid (HVS.out.trans (Bool.true_and _))
              clear HVS
              refine wp_region_ord [(0, true), (1, true), (2, true), (3, true), (4, true), (5, true), (6, true), (7, true), (8, true), (9, true), (10, false), (11, true)]
                (fun z => Below W.heap.size W z) (by kernel_rfl) (by kernel_rfl) (by kernel_rfl) rfl (by intro c a d v w h; cases d <;> exact h) ?_
              have hs : Below W.heap.size W wr.drew := HBK.out.drew
              refine ord_load (some 54) (.pointer (some ⟨w.heap.size, 5, none⟩)) _ rfl rfl (by first | exact wanted_none rfl | exact wanted_if rfl rfl rfl rfl) hs (fun z hz => by go_simp) ?_
              go_frame
              refine ord_load (some 55) (.slice (some ⟨b, o', none⟩) its.length c) _ rfl rfl (by first | exact wanted_none rfl | exact wanted_if rfl rfl rfl rfl) hs (fun z hz => by have dd := (hz.cell (p := ⟨w.heap.size, 5, none⟩) HLT.out).trans D5.out; go_simp) ?_
              go_frame
              refine ord_move (some 56) (.int .i64 j) _ _ rfl rfl rfl (by first | exact wanted_none rfl | exact wanted_if rfl rfl rfl rfl) hs rfl ?_
              go_frame
              refine ord_load (some 57) (.pointer (some ⟨b, o' + j * 6, none⟩)) _ rfl rfl (by first | exact wanted_none rfl | exact wanted_if rfl rfl rfl rfl) hs (fun z hz => by go_simp) ?_
              go_frame
              refine ord_load (some 58) (.agg ⟨ks⟩) _ rfl rfl (by first | exact wanted_none rfl | exact wanted_if rfl rfl rfl rfl) hs (fun z hz => exec_sload 26 rfl b (o' + j * 6) ks _ rfl (rangeAt_below HKS.out hz HKB.out) Tryz.underlying26 rfl (by rw [HKL.out.1]; kernel_rfl)) ?_
              go_frame
              refine ord_load (some 59) (.pointer (some ⟨pb, 2, none⟩)) _ rfl rfl (by first | exact wanted_none rfl | exact wanted_if rfl rfl rfl rfl) hs (fun z hz => by go_simp) ?_
              go_frame
              refine ord_load (some 60) (.slice (some ⟨b', o'', none⟩) ts.length c') _ rfl rfl (by first | exact wanted_none rfl | exact wanted_if rfl rfl rfl rfl) hs (fun z hz => by have dd := (hz.cell (p := ⟨pb, 2, none⟩) HS2.out).trans E2.out; go_simp) ?_
              go_frame
              refine ord_move (some 61) (.int .i64 j) _ _ rfl rfl rfl (by first | exact wanted_none rfl | exact wanted_if rfl rfl rfl rfl) hs rfl ?_
              go_frame
              refine ord_load (some 62) (.pointer (some ⟨b', (o'' + j * 3), none⟩)) _ rfl rfl (by first | exact wanted_none rfl | exact wanted_if rfl rfl rfl rfl) hs (fun z hz => by go_simp) ?_
              go_frame
              refine ord_load (some 63) (.agg ⟨ks'⟩) _ rfl rfl (by first | exact wanted_none rfl | exact wanted_if rfl rfl rfl rfl) hs (fun z hz => exec_sload 36 rfl b' (o'' + j * 3) ks' _ rfl (rangeAt_below HKS'.out hz HKB'.out) Tryz.underlying36 rfl (by rw [HKL'.out.1]; kernel_rfl)) ?_
              go_frame
              refine ord_to (some 64) 44 Tryz.func44 (by kernel_rfl) (by kernel_rfl) [.agg ⟨ks⟩, .agg ⟨ks'⟩] _ _ _ rfl rfl rfl (by first | exact wanted_none rfl | exact wanted_if rfl rfl rfl rfl) rfl ?_
              refine (HC.out _ hs).mono ?_
              rintro e z1 ⟨rfl, hb1⟩
              have hs2 : Below W.heap.size W z1 := hs.trans (hb1.mono hs.size)
              refine ⟨.bool true, rfl, hs2, ?_⟩
              clear hb1
              go_frame
              refine ord_load (some 65) (.bool false) _ rfl rfl (by first | exact wanted_none rfl | exact wanted_if rfl rfl rfl rfl) hs2 (fun z hz => by go_simp) ?_
              go_frame
              refine ord_end ?_
              have HB3 := Lib.hid hs2
              clear hs hs2
              go_wp2
              go_roundg g
              case measure => omega
              case rel => exact ⟨j + 1, by omega, by go_num, HB3.out, HV2.out.symm⟩
            | false =>
              have HV2 : Hid (res = false) := Lib.hid (HVS.out.trans (Bool.false_and _))
              clear HVS
              refine wp_region_ord [(0, true), (1, true), (2, true), (3, true), (4, true), (5, true), (6, true), (7, true), (8, true), (9, true), (10, false), (11, true)]
                (fun z => Below W.heap.size W z) (by kernel_rfl) (by kernel_rfl) (by kernel_rfl) rfl (by intro c a d v w h; cases d <;> exact h) ?_
              have hs : Below W.heap.size W wr.drew := HBK.out.drew
              refine ord_load (some 54) (.pointer (some ⟨w.heap.size, 5, none⟩)) _ rfl rfl (by first | exact wanted_none rfl | exact wanted_if rfl rfl rfl rfl) hs (fun z hz => by go_simp) ?_
              go_frame
              refine ord_load (some 55) (.slice (some ⟨b, o', none⟩) its.length c) _ rfl rfl (by first | exact wanted_none rfl | exact wanted_if rfl rfl rfl rfl) hs (fun z hz => by have dd := (hz.cell (p := ⟨w.heap.size, 5, none⟩) HLT.out).trans D5.out; go_simp) ?_
              go_frame
              refine ord_move (some 56) (.int .i64 j) _ _ rfl rfl rfl (by first | exact wanted_none rfl | exact wanted_if rfl rfl rfl rfl) hs rfl ?_
              go_frame
              refine ord_load (some 57) (.pointer (some ⟨b, o' + j * 6, none⟩)) _ rfl rfl (by first | exact wanted_none rfl | exact wanted_if rfl rfl rfl rfl) hs (fun z hz => by go_simp) ?_
              go_frame
              refine ord_load (some 58) (.agg ⟨ks⟩) _ rfl rfl (by first | exact wanted_none rfl | exact wanted_if rfl rfl rfl rfl) hs (fun z hz => exec_sload 26 rfl b (o' + j * 6) ks _ rfl (rangeAt_below HKS.out hz HKB.out) Tryz.underlying26 rfl (by rw [HKL.out.1]; kernel_rfl)) ?_
              go_frame
              refine ord_load (some 59) (.pointer (some ⟨pb, 2, none⟩)) _ rfl rfl (by first | exact wanted_none rfl | exact wanted_if rfl rfl rfl rfl) hs (fun z hz => by go_simp) ?_
              go_frame
              refine ord_load (some 60) (.slice (some ⟨b', o'', none⟩) ts.length c') _ rfl rfl (by first | exact wanted_none rfl | exact wanted_if rfl rfl rfl rfl) hs (fun z hz => by have dd := (hz.cell (p := ⟨pb, 2, none⟩) HS2.out).trans E2.out; go_simp) ?_
              go_frame
              refine ord_move (some 61) (.int .i64 j) _ _ rfl rfl rfl (by first | exact wanted_none rfl | exact wanted_if rfl rfl rfl rfl) hs rfl ?_
              go_frame
              refine ord_load (some 62) (.pointer (some ⟨b', (o'' + j * 3), none⟩)) _ rfl rfl (by first | exact wanted_none rfl | exact wanted_if rfl rfl rfl rfl) hs (fun z hz => by go_simp) ?_
              go_frame
              refine ord_load (some 63) (.agg ⟨ks'⟩) _ rfl rfl (by first | exact wanted_none rfl | exact wanted_if rfl rfl rfl rfl) hs (fun z hz => exec_sload 36 rfl b' (o'' + j * 3) ks' _ rfl (rangeAt_below HKS'.out hz HKB'.out) Tryz.underlying36 rfl (by rw [HKL'.out.1]; kernel_rfl)) ?_
              go_frame
              refine ord_to (some 64) 44 Tryz.func44 (by kernel_rfl) (by kernel_rfl) [.agg ⟨ks⟩, .agg ⟨ks'⟩] _ _ _ rfl rfl rfl (by first | exact wanted_none rfl | exact wanted_if rfl rfl rfl rfl) rfl ?_
              refine (HC.out _ hs).mono ?_
              rintro e z1 ⟨rfl, hb1⟩
              have hs2 : Below W.heap.size W z1 := hs.trans (hb1.mono hs.size)
              refine ⟨.bool false, rfl, hs2, ?_⟩
              clear hb1
              go_frame
              refine ord_load (some 65) (.bool true) _ rfl rfl (by first | exact wanted_none rfl | exact wanted_if rfl rfl rfl rfl) hs2 (fun z hz => by go_simp) ?_
              go_frame
              refine ord_end ?_
              have HB3 := Lib.hid hs2
              clear hs hs2
              go_wp2
              go_ret
              exact ⟨ret_bool HV2.out.symm, HBW.out.trans (HB3.out.mono HBW.out.size)⟩
      · have hz0 : listC cmpS ns ns' ≠ 0 := fun h => hnn (namesC_zero.1 h)
        have HR : Hid (res = false) := Lib.hid (HV.out.trans (by rw [decide_eq_false hnn]; exact Bool.false_and _))
        generalize listC cmpS ns ns' = cv at *
        have t2 : (cv != 0) = true := by simpa using hz0
        clear hnn HV hz0
        go_wp2_with (go_at_call 68; refine HSE.out.mono ?_; rintro en z ⟨rfl, hzm⟩; have HB4 : Hid (Below W.heap.size W z) := Lib.hid (by obtain ⟨m, rfl⟩ := hzm; exact below_drewN (Below.refl _ _) _); clear hzm; have c5' := (HB4.out.cell (p := ⟨w.heap.size, 5, none⟩) HLT.out).trans D5.out)
        go_ret
        exact ⟨ret_bool HR.out.symm, HBW.out.trans (HB4.out.mono HBW.out.size)⟩
    have HR : Hid (res = true) := Lib.hid (HO2.out.trans (if_neg k6))
    have s5 : (k == 5) = false := by simpa using k5
    have s6 : (k == 6) = false := by simpa using k6
    have s7 : (k == 7) = false := by simpa using hk7
    clear HO2 k5 k6 hk7
    go_enter Tryz.func44, Tryz.ntmps44
    go_upto_region 1 with (fail)
    have HA0 := Lib.hid (range_box w [.int .i64 k, .int .i64 n, .float .f64 f, .string s, vn, .slice A its.length c] 26)
    have HB1 := Lib.hid (box_below w (.cells ⟨[.int .i64 k, .int .i64 n, .float .f64 f, .string s, vn, .slice A its.length c]⟩ 26))
    have HS1 := Lib.hid (box_size w (.cells ⟨[.int .i64 k, .int .i64 n, .float .f64 f, .string s, vn, .slice A its.length c]⟩ 26))
    have HSE : Hid ((w.alloc (.cells ⟨[.int .i64 k, .int .i64 n, .float .f64 f, .string s, vn, .slice A its.length c]⟩ 26)).heap.size = w.heap.size + 1) := Lib.hid (by simp)
    generalize w.alloc (.cells ⟨[.int .i64 k, .int .i64 n, .float .f64 f, .string s, vn, .slice A its.length c]⟩ 26) = W1 at *
    have HB := Lib.hid (range_box W1 [.int .i64 k, vn', .slice A' ts.length c'] 36)
    have HB2 := Lib.hid (box_below W1 (.cells ⟨[.int .i64 k, vn', .slice A' ts.length c']⟩ 36))
    have HS2 := Lib.hid (box_size W1 (.cells ⟨[.int .i64 k, vn', .slice A' ts.length c']⟩ 36))
    generalize W1.alloc (.cells ⟨[.int .i64 k, vn', .slice A' ts.length c']⟩ 36) = W at *
    have HAW := Lib.hid (rangeAt_below HA0.out HB2.out HS1.out)
    have HBW := Lib.hid (HB1.out.trans (HB2.out.mono HB1.out.size))
    have HLT := Lib.hid (Nat.lt_of_lt_of_le HS1.out HB2.out.size)
    rw [HSE.out] at HB HS2
    obtain ⟨pb, hpb⟩ : ∃ pb, w.heap.size + 1 = pb := ⟨_, rfl⟩
    rw [hpb] at HB HS2
    rw [hpb]
    clear HA0 HB1 HS1 HSE HB2 hpb
    have d0 : W.cell? ⟨w.heap.size, 0, none⟩ = some (.int .i64 k) := by have := HAW.out 0 _ rfl; simpa using this
    have e0 : W.cell? ⟨pb, 0, none⟩ = some (.int .i64 k) := by have := HB.out 0 _ rfl; simpa using this
    have D5 : Hid (W.cell? ⟨w.heap.size, 5, none⟩ = some (.slice A its.length c)) := Lib.hid (by have := HAW.out 5 _ rfl; simpa using this)
    have E2 : Hid (W.cell? ⟨pb, 2, none⟩ = some (.slice A' ts.length c')) := Lib.hid (by have := HB.out 2 _ rfl; simpa using this)
    go_wp2
    go_ret
    exact ⟨ret_bool HR.out.symm, HBW.out⟩
def rightT (x : VT) : Bool := decide (cntV x 0 ≤ 200) && rightV x 1
def typeT (t : TT) : Bool := decide (cntT t 0 ≤ 200) && typedT t 1
def fitT (x : VT) (t : TT) : Bool := rightT x && (typeT t && fitsV x t)
set_option maxHeartbeats 2000000 in
set_option maxRecDepth 100000 in
theorem fits_top (x : VT) (t : TT) (cs cs' : List Value) (w : World) (hv : ValAt w w.heap.size cs x) (hv' : TypAt w w.heap.size cs' t) :
    Calls Tryz.prog 16 #[.agg ⟨cs⟩, .agg ⟨cs'⟩] w fun en w' => en = .returned (.bool (fitT x t)) ∧ Below w.heap.size w w' := by
  have HV := Lib.hid hv
  have HV' := Lib.hid hv'
  have HL := Lib.hid (val_one hv)
  have HL' := Lib.hid (typ_one hv')
  have HO : Hid (fitT x t = (rightT x && (typeT t && fitsV x t))) := Lib.hid rfl
  generalize hres : fitT x t = res at *
  clear hv hv' hres
  go_enter Tryz.func16, Tryz.ntmps16
  go_upto_region 1 with (fail)
  have HA0 := Lib.hid (range_box w cs 26)
  have HB1 := Lib.hid (box_below w (.cells ⟨cs⟩ 26))
  have HS1 := Lib.hid (box_size w (.cells ⟨cs⟩ 26))
  have HSE : Hid ((w.alloc (.cells ⟨cs⟩ 26)).heap.size = w.heap.size + 1) := Lib.hid (by simp)
  generalize w.alloc (.cells ⟨cs⟩ 26) = W1 at *
  have HB := Lib.hid (range_box W1 cs' 36)
  have HB2 := Lib.hid (box_below W1 (.cells ⟨cs'⟩ 36))
  have HS2 := Lib.hid (box_size W1 (.cells ⟨cs'⟩ 36))
  generalize W1.alloc (.cells ⟨cs'⟩ 36) = W at *
  have HAW := Lib.hid (rangeAt_below HA0.out HB2.out HS1.out)
  have HBW := Lib.hid (HB1.out.trans (HB2.out.mono HB1.out.size))
  have HLT := Lib.hid (Nat.lt_of_lt_of_le HS1.out HB2.out.size)
  rw [HSE.out] at HB HS2
  obtain ⟨pb, hpb⟩ : ∃ pb, w.heap.size + 1 = pb := ⟨_, rfl⟩
  rw [hpb] at HB HS2
  rw [hpb]
  clear HA0 HB1 HS1 HSE HB2 hpb
  have HVW := Lib.hid (HV.out.next HBW.out)
  have HC1 := Lib.hid (right_top x cs W HVW.out)
  change Hid (Calls _ _ _ _ fun e w' => e = .returned (.bool (rightT x)) ∧ _) at HC1
  have HC2 := Lib.hid (fun (z : World) (hz : Below W.heap.size W z) => typeRight_any t cs' z (HV'.out.next (HBW.out.trans (hz.mono HBW.out.size))))
  change Hid (∀ z : World, _ → Calls _ _ _ _ fun e w' => e = .returned (.bool (typeT t)) ∧ _) at HC2
  cases hr1 : rightT x with
  | false =>
    have HR : Hid (res = false) := Lib.hid (HO.out.trans (by simp [hr1]))
    rw [hr1] at HC1
    go_wp2_with (first | ((with_reducible refine wl_sload 26 _ rfl ?hwa w.heap.size 0 cs _ rfl HAW.out Tryz.underlying26 rfl ?hia ?_); (case hwa => (first | exact wanted_none rfl | exact wanted_if rfl rfl rfl rfl)); (case hia => rw [HL.out.1]; kernel_rfl)) | (go_at_call 8; refine HC1.out.mono ?_; rintro e z1 ⟨rfl, hbz⟩; have HBA := Lib.hid hbz; clear hbz))
    go_ret
    first | exact ⟨ret_bool HR.out.symm, HBW.out.trans (HBA.out.mono HBW.out.size)⟩ | exact ⟨rfl, HBW.out.trans (HBA.out.mono HBW.out.size)⟩
  | true =>
    have HO2 : Hid (res = (typeT t && fitsV x t)) := Lib.hid (by rw [HO.out, hr1, Bool.true_and])
    rw [hr1] at HC1
    cases ht2 : typeT t with
    | false =>
      have HR : Hid (res = false) := Lib.hid (HO2.out.trans (by simp [ht2]))
      rw [ht2] at HC2
      go_wp2_with (first | ((with_reducible refine wl_sload 26 _ rfl ?hwa w.heap.size 0 cs _ rfl HAW.out Tryz.underlying26 rfl ?hia ?_); (case hwa => (first | exact wanted_none rfl | exact wanted_if rfl rfl rfl rfl)); (case hia => rw [HL.out.1]; kernel_rfl)) | (go_at_call 8; refine HC1.out.mono ?_; rintro e z1 ⟨rfl, hbz⟩; have HBA := Lib.hid hbz; clear hbz) | ((with_reducible refine wl_sload 36 _ rfl ?hwb pb 0 cs' _ rfl (rangeAt_below HB.out HBA.out HS2.out) Tryz.underlying36 rfl ?hib ?_); (case hwb => (first | exact wanted_none rfl | exact wanted_if rfl rfl rfl rfl)); (case hib => rw [HL'.out.1]; kernel_rfl)) | (go_at_call 14; refine (HC2.out _ HBA.out).mono ?_; rintro e z2 ⟨rfl, hbz⟩; have HBC := Lib.hid (HBA.out.trans (hbz.mono HBA.out.size)); clear hbz))
      go_ret
      first | exact ⟨ret_bool HR.out.symm, HBW.out.trans (HBC.out.mono HBW.out.size)⟩ | exact ⟨rfl, HBW.out.trans (HBC.out.mono HBW.out.size)⟩
    | true =>
      have HR : Hid (res = fitsV x t) := Lib.hid (HO2.out.trans (by rw [ht2]; exact Bool.true_and _))
      rw [ht2] at HC2
      have hx1 : rightV x 1 = true := by unfold rightT at hr1; rw [Bool.and_eq_true] at hr1; exact hr1.2
      have ht1 : typedT t 1 = true := by unfold typeT at ht2; rw [Bool.and_eq_true] at ht2; exact ht2.2
      have HC3 := Lib.hid (fun (z : World) (hz : Below W.heap.size W z) => fits_any x t 1 1 cs cs' w.heap.size 0 pb 0 z hx1 ht1 (rangeAt_below HAW.out hz HLT.out) (rangeAt_below HB.out hz HS2.out) (HVW.out.next hz) (HV'.out.next (HBW.out.trans (hz.mono HBW.out.size))))
      clear hx1 ht1 hr1 ht2
      go_wp2_with (first | ((with_reducible refine wl_sload 26 _ rfl ?hwa w.heap.size 0 cs _ rfl HAW.out Tryz.underlying26 rfl ?hia ?_); (case hwa => (first | exact wanted_none rfl | exact wanted_if rfl rfl rfl rfl)); (case hia => rw [HL.out.1]; kernel_rfl)) | (go_at_call 8; refine HC1.out.mono ?_; rintro e z1 ⟨rfl, hbz⟩; have HBA := Lib.hid hbz; clear hbz) | ((with_reducible refine wl_sload 36 _ rfl ?hwb pb 0 cs' _ rfl (rangeAt_below HB.out HBA.out HS2.out) Tryz.underlying36 rfl ?hib ?_); (case hwb => (first | exact wanted_none rfl | exact wanted_if rfl rfl rfl rfl)); (case hib => rw [HL'.out.1]; kernel_rfl)) | (go_at_call 14; refine (HC2.out _ HBA.out).mono ?_; rintro e z2 ⟨rfl, hbz⟩; have HBC := Lib.hid (HBA.out.trans (hbz.mono HBA.out.size)); clear hbz) | (go_at_call 43; refine (HC3.out _ HBC.out).mono ?_; rintro e z3 ⟨rfl, hzm⟩; have HBD : Hid (Below W.heap.size W z3) := Lib.hid (by obtain ⟨m, rfl⟩ := hzm; exact below_drewN HBC.out _); clear hzm))
      go_ret
      exact ⟨ret_bool HR.out.symm, HBW.out.trans (HBD.out.mono HBW.out.size)⟩
set_option maxHeartbeats 2000000 in
set_option maxRecDepth 100000 in
theorem rfits_top (x : VT) (t : TT) (cs cs' : List Value) (w : World) (hv : ValAt w w.heap.size cs x) (hv' : TypAt w w.heap.size cs' t) :
    Calls Tryz.prog 17 #[.agg ⟨cs⟩, .agg ⟨cs'⟩] w fun en w' => en = .returned (.bool (fitT x t)) ∧ Below w.heap.size w w' := by
  have HV := Lib.hid hv
  have HV' := Lib.hid hv'
  have HL := Lib.hid (val_one hv)
  have HL' := Lib.hid (typ_one hv')
  have HO : Hid (fitT x t = (rightT x && (typeT t && fitsV x t))) := Lib.hid rfl
  generalize hres : fitT x t = res at *
  clear hv hv' hres
  go_enter Tryz.func17, Tryz.ntmps17
  go_upto_region 1 with (fail)
  have HA0 := Lib.hid (range_box w cs 26)
  have HB1 := Lib.hid (box_below w (.cells ⟨cs⟩ 26))
  have HS1 := Lib.hid (box_size w (.cells ⟨cs⟩ 26))
  have HSE : Hid ((w.alloc (.cells ⟨cs⟩ 26)).heap.size = w.heap.size + 1) := Lib.hid (by simp)
  generalize w.alloc (.cells ⟨cs⟩ 26) = W1 at *
  have HB := Lib.hid (range_box W1 cs' 36)
  have HB2 := Lib.hid (box_below W1 (.cells ⟨cs'⟩ 36))
  have HS2 := Lib.hid (box_size W1 (.cells ⟨cs'⟩ 36))
  generalize W1.alloc (.cells ⟨cs'⟩ 36) = W at *
  have HAW := Lib.hid (rangeAt_below HA0.out HB2.out HS1.out)
  have HBW := Lib.hid (HB1.out.trans (HB2.out.mono HB1.out.size))
  have HLT := Lib.hid (Nat.lt_of_lt_of_le HS1.out HB2.out.size)
  rw [HSE.out] at HB HS2
  obtain ⟨pb, hpb⟩ : ∃ pb, w.heap.size + 1 = pb := ⟨_, rfl⟩
  rw [hpb] at HB HS2
  rw [hpb]
  clear HA0 HB1 HS1 HSE HB2 hpb
  have HVW := Lib.hid (HV.out.next HBW.out)
  have HC1 := Lib.hid (rright_top x cs W HVW.out)
  change Hid (Calls _ _ _ _ fun e w' => e = .returned (.bool (rightT x)) ∧ _) at HC1
  have HC2 := Lib.hid (fun (z : World) (hz : Below W.heap.size W z) => rtypeRight_any t cs' z (HV'.out.next (HBW.out.trans (hz.mono HBW.out.size))))
  change Hid (∀ z : World, _ → Calls _ _ _ _ fun e w' => e = .returned (.bool (typeT t)) ∧ _) at HC2
  cases hr1 : rightT x with
  | false =>
    have HR : Hid (res = false) := Lib.hid (HO.out.trans (by simp [hr1]))
    rw [hr1] at HC1
    go_wp2_with (first | ((with_reducible refine wl_sload 26 _ rfl ?hwa w.heap.size 0 cs _ rfl HAW.out Tryz.underlying26 rfl ?hia ?_); (case hwa => (first | exact wanted_none rfl | exact wanted_if rfl rfl rfl rfl)); (case hia => rw [HL.out.1]; kernel_rfl)) | (go_at_call 9; refine HC1.out.mono ?_; rintro e z1 ⟨rfl, hbz⟩; have HBA := Lib.hid hbz; clear hbz))
    go_ret
    first | exact ⟨ret_bool HR.out.symm, HBW.out.trans (HBA.out.mono HBW.out.size)⟩ | exact ⟨rfl, HBW.out.trans (HBA.out.mono HBW.out.size)⟩
  | true =>
    have HO2 : Hid (res = (typeT t && fitsV x t)) := Lib.hid (by rw [HO.out, hr1, Bool.true_and])
    rw [hr1] at HC1
    cases ht2 : typeT t with
    | false =>
      have HR : Hid (res = false) := Lib.hid (HO2.out.trans (by simp [ht2]))
      rw [ht2] at HC2
      go_wp2_with (first | ((with_reducible refine wl_sload 26 _ rfl ?hwa w.heap.size 0 cs _ rfl HAW.out Tryz.underlying26 rfl ?hia ?_); (case hwa => (first | exact wanted_none rfl | exact wanted_if rfl rfl rfl rfl)); (case hia => rw [HL.out.1]; kernel_rfl)) | (go_at_call 9; refine HC1.out.mono ?_; rintro e z1 ⟨rfl, hbz⟩; have HBA := Lib.hid hbz; clear hbz) | ((with_reducible refine wl_sload 36 _ rfl ?hwb pb 0 cs' _ rfl (rangeAt_below HB.out HBA.out HS2.out) Tryz.underlying36 rfl ?hib ?_); (case hwb => (first | exact wanted_none rfl | exact wanted_if rfl rfl rfl rfl)); (case hib => rw [HL'.out.1]; kernel_rfl)) | (go_at_call 15; refine (HC2.out _ HBA.out).mono ?_; rintro e z2 ⟨rfl, hbz⟩; have HBC := Lib.hid (HBA.out.trans (hbz.mono HBA.out.size)); clear hbz))
      go_ret
      first | exact ⟨ret_bool HR.out.symm, HBW.out.trans (HBC.out.mono HBW.out.size)⟩ | exact ⟨rfl, HBW.out.trans (HBC.out.mono HBW.out.size)⟩
    | true =>
      have HR : Hid (res = fitsV x t) := Lib.hid (HO2.out.trans (by rw [ht2]; exact Bool.true_and _))
      rw [ht2] at HC2
      have hx1 : rightV x 1 = true := by unfold rightT at hr1; rw [Bool.and_eq_true] at hr1; exact hr1.2
      have ht1 : typedT t 1 = true := by unfold typeT at ht2; rw [Bool.and_eq_true] at ht2; exact ht2.2
      have HC3 := Lib.hid (fun (z : World) (hz : Below W.heap.size W z) => rfits_any x t 1 1 cs cs' z hx1 ht1 (HVW.out.next hz) (HV'.out.next (HBW.out.trans (hz.mono HBW.out.size))))
      clear hx1 ht1 hr1 ht2
      go_wp2_with (first | ((with_reducible refine wl_sload 26 _ rfl ?hwc w.heap.size 0 cs _ rfl (rangeAt_below HAW.out HBC.out HLT.out) Tryz.underlying26 rfl ?hic ?_); (case hwc => (first | exact wanted_none rfl | exact wanted_if rfl rfl rfl rfl)); (case hic => rw [HL.out.1]; kernel_rfl)) | ((with_reducible refine wl_sload 36 _ rfl ?hwd pb 0 cs' _ rfl (rangeAt_below HB.out HBC.out HS2.out) Tryz.underlying36 rfl ?hid ?_); (case hwd => (first | exact wanted_none rfl | exact wanted_if rfl rfl rfl rfl)); (case hid => rw [HL'.out.1]; kernel_rfl)) | ((with_reducible refine wl_sload 26 _ rfl ?hwa w.heap.size 0 cs _ rfl HAW.out Tryz.underlying26 rfl ?hia ?_); (case hwa => (first | exact wanted_none rfl | exact wanted_if rfl rfl rfl rfl)); (case hia => rw [HL.out.1]; kernel_rfl)) | (go_at_call 9; refine HC1.out.mono ?_; rintro e z1 ⟨rfl, hbz⟩; have HBA := Lib.hid hbz; clear hbz) | ((with_reducible refine wl_sload 36 _ rfl ?hwb pb 0 cs' _ rfl (rangeAt_below HB.out HBA.out HS2.out) Tryz.underlying36 rfl ?hib ?_); (case hwb => (first | exact wanted_none rfl | exact wanted_if rfl rfl rfl rfl)); (case hib => rw [HL'.out.1]; kernel_rfl)) | (go_at_call 15; refine (HC2.out _ HBA.out).mono ?_; rintro e z2 ⟨rfl, hbz⟩; have HBC := Lib.hid (HBA.out.trans (hbz.mono HBA.out.size)); clear hbz) | (go_at_call 44; refine (HC3.out _ HBC.out).mono ?_; rintro e z3 ⟨rfl, hbz⟩; have HBD := Lib.hid (HBC.out.trans (hbz.mono HBC.out.size)); clear hbz))
      go_ret
      exact ⟨ret_bool HR.out.symm, HBW.out.trans (HBD.out.mono HBW.out.size)⟩
end Go.Proofs.YtieciegfloldhaaGreatDoor
