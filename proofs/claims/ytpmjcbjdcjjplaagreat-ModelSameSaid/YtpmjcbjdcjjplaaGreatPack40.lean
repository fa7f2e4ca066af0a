/- Parts of a proof: RKey, ROrd, RESame. -/
import Derived.Test.YtpmjcbjdcjjplaaGreatPack4
import Derived.Test.YtpmjcbjdcjjplaaGreatPack12
import Derived.Test.YtpmjcbjdcjjplaaGreatPack13
import Derived.Test.YtpmjcbjdcjjplaaGreatPack17
import Derived.Test.YtpmjcbjdcjjplaaGreatPack18
import Derived.Test.YtpmjcbjdcjjplaaGreatPack21
section
namespace Go.Proofs.YtpmjcbjdcjjplaaGreat
open Go Go.RowKit
set_option linter.unusedVariables false
set_option linter.unusedSimpArgs false
theorem nanR_iff {f : Nat} (hf : f < 2 ^ 64) : nanR f = decide (9218868437227405312 < f % 9223372036854775808) := by
  unfold nanR
  rw [IntKind.wrap_u64]
  by_cases h : 9218868437227405312 < f % 9223372036854775808
  · rw [decide_eq_true h, decide_eq_true (by omega)]
  · rw [decide_eq_false h, decide_eq_false (by omega)]
set_option maxHeartbeats 1000000 in
set_option maxRecDepth 100000 in
theorem rkey_any (f : Nat) (hf : f < 2 ^ 64) (w : World) : Calls Tryz.prog 77 #[.float .f64 f] w fun e w' => e = .returned (.int .i64 (keyZ f)) ∧ w' = w := by
  have e1 : ∀ W : World, (callFunc 96 #[.float .f64 f]).run Tryz.prog W = .ok (.value (.int .u64 f)) W := fun W => by
    rw [run_callFunc_extern Tryz.func96 (by kernel_rfl) (by kernel_rfl) (by kernel_rfl) (e := Extern.MathFloatBits.float64bits) (by kernel_rfl)]
    rfl
  have HC := Lib.hid (fun w => rnan_any f hf w)
  have hn := nanR_iff hf
  by_cases h : 9218868437227405312 < f % 9223372036854775808
  · have HV : Hid (keyZ f = 9223372036854775807) := Lib.hid (by unfold keyZ; rw [if_pos h])
    rw [hn, decide_eq_true h] at HC
    clear hn h hf
    go_enter Tryz.func77, Tryz.ntmps77
    go_wp2_with (go_at_call 95; refine (HC.out _).mono ?_; rintro e z ⟨rfl, rfl⟩)
    go_ret
    exact ⟨by rw [HV.out]; rfl, rfl⟩
  · rw [hn, decide_eq_false h] at HC
    by_cases h2 : 9223372036854775808 ≤ f
    · have HV : Hid (keyZ f = -1 - ((f : Int) - 9223372036854775808)) := Lib.hid (by unfold keyZ; rw [if_neg h, if_pos h2])
      have t1 : (9223372036854775808 : Int) ≤ (f : Int) := by omega
      have t2 : (f : Int) < 18446744073709551616 := by omega
      clear hn h hf h2
      go_enter Tryz.func77, Tryz.ntmps77
      go_wp2_with (go_at_call 95; refine (HC.out _).mono ?_; rintro e z ⟨rfl, rfl⟩)
      go_ret
      exact ⟨by rw [HV.out]; rfl, rfl⟩
    · have HV : Hid (keyZ f = f) := Lib.hid (by unfold keyZ; rw [if_neg h, if_neg h2])
      have t1 : decide ((9223372036854775808 : Int) ≤ (f : Int)) = false := decide_eq_false (by omega)
      have t2 : IntKind.i64.wrap (f : Int) = f := by rw [IntKind.wrap_i64]; omega
      clear hn h hf h2
      go_enter Tryz.func77, Tryz.ntmps77
      go_wp2_with (go_at_call 95; refine (HC.out _).mono ?_; rintro e z ⟨rfl, rfl⟩)
      go_ret
      exact ⟨by rw [HV.out]; rfl, rfl⟩
set_option maxHeartbeats 1000000 in
set_option maxRecDepth 100000 in
theorem rforder_any (f g : Nat) (hf : f < 2 ^ 64) (hg : g < 2 ^ 64) (w : World) : Calls Tryz.prog 66 #[.float .f64 f, .float .f64 g] w fun e w' => e = .returned (.int .i64 (cmpF f g)) ∧ w' = w := by
  have HF := Lib.hid (fun w => rkey_any f hf w)
  have HG := Lib.hid (fun w => rkey_any g hg w)
  have HV := Lib.hid (cmpF_keyZ hf hg)
  clear hf hg
  generalize keyZ f = a at *
  generalize keyZ g = b at *
  rcases cmpI_val a b with ⟨h1, h2⟩ | ⟨h1, h2⟩ | ⟨h1, h2⟩
  · rw [h1] at HV
    clear h1
    go_enter Tryz.func66, Tryz.ntmps66
    go_wp2_with (first | (go_at_call 77; with_reducible refine (HF.out _).mono ?_; rintro e z ⟨rfl, rfl⟩) | (go_at_call 77; with_reducible refine (HG.out _).mono ?_; rintro e z ⟨rfl, rfl⟩))
    go_ret
    exact ⟨by rw [HV.out]; rfl, rfl⟩
  · rw [h1] at HV
    subst h2
    clear h1
    have t1 : ¬ a < a := by omega
    go_enter Tryz.func66, Tryz.ntmps66
    go_wp2_with (first | (go_at_call 77; with_reducible refine (HF.out _).mono ?_; rintro e z ⟨rfl, rfl⟩) | (go_at_call 77; with_reducible refine (HG.out _).mono ?_; rintro e z ⟨rfl, rfl⟩))
    go_ret
    exact ⟨by rw [HV.out]; rfl, rfl⟩
  · rw [h1] at HV
    clear h1
    have t1 : ¬ a < b := by omega
    go_enter Tryz.func66, Tryz.ntmps66
    go_wp2_with (first | (go_at_call 77; with_reducible refine (HF.out _).mono ?_; rintro e z ⟨rfl, rfl⟩) | (go_at_call 77; with_reducible refine (HG.out _).mono ?_; rintro e z ⟨rfl, rfl⟩))
    go_ret
    exact ⟨by rw [HV.out]; rfl, rfl⟩
end Go.Proofs.YtpmjcbjdcjjplaaGreat
end
section
namespace Go.Proofs.YtpmjcbjdcjjplaaGreat
open Go Go.RowKit
set_option linter.unusedVariables false
set_option linter.unusedSimpArgs false
theorem listC_at {α : Type} {f : α → α → Int} {l r : List α} {k : Nat} {x y : α} (h : l[k]? = some x) (h' : r[k]? = some y) : listC f (l.drop k) (r.drop k) = if f x y ≠ 0 then f x y else listC f (l.drop (k + 1)) (r.drop (k + 1)) := by
  obtain ⟨h1, h2⟩ := List.getElem?_eq_some_iff.1 h
  obtain ⟨h3, h4⟩ := List.getElem?_eq_some_iff.1 h'
  rw [List.drop_eq_getElem_cons h1, List.drop_eq_getElem_cons h3, h2, h4, listC]
theorem rowV_rest {k n n' : Int} {f f' : Nat} {s s' : ByteArray} {ns ns' : List ByteArray} (h1 : ¬ (k = 1 ∨ k = 2)) (h3 : ¬ k = 3) (h4 : ¬ k = 4) :
    rowV k n n' f f' s s' ns ns' = if k = 5 then (if k = 5 ∨ k = 6 then 0 else if cmpI n n' ≠ 0 then cmpI n n' else cmpS s s') else
      if (if k = 5 ∨ k = 6 then 0 else if cmpI n n' ≠ 0 then cmpI n n' else cmpS s s') ≠ 0 then (if k = 5 ∨ k = 6 then 0 else if cmpI n n' ≠ 0 then cmpI n n' else cmpS s s') else listC cmpS ns ns' := by
  unfold rowV
  rw [if_neg h1, if_neg h3, if_neg h4]
  by_cases h5 : k = 5
  · rw [if_pos h5, if_pos h5, if_pos (Or.inl h5)]
  · rw [if_neg h5, if_neg h5]
    by_cases h6 : k = 6
    · have h56 : k = 5 ∨ k = 6 := Or.inr h6
      rw [if_pos h6]
      simp only [if_pos h56]
      simp
    · have h56 : ¬ (k = 5 ∨ k = 6) := fun h => h.elim h5 h6
      rw [if_neg h6]
      simp only [if_neg h56]
      unfold or3
      by_cases h0 : cmpI n n' = 0
      · simp [h0]
      · simp [h0]
theorem vlen6 {w : World} {B : Nat} {cs : List Value} {t : VT} (h : ValAt w B cs t) : cs.length = 6 := (val_one h).1
set_option maxHeartbeats 8000000 in
set_option maxRecDepth 100000 in
theorem rorder_any : ∀ (t t' : VT) (cs cs' : List Value) (w : World), ValAt w w.heap.size cs t → ValAt w w.heap.size cs' t' →
    Calls Tryz.prog 52 #[.agg ⟨cs⟩, .agg ⟨cs'⟩] w fun e w' => e = .returned (.int .i64 (ordV t t')) ∧ Below w.heap.size w w' := by
  intro t
  induction t using VT.ind with
  | h k n f s ns its ih =>
    intro t' cs cs' w hv hv'
    cases t' with
    | mk k' n' f' s' ns' its' =>
    have IH := Lib.hid ih
    obtain ⟨vn, vi, rfl, _, _, hf, _, hn, _, hi⟩ := hv.inv
    obtain ⟨A, c, rfl, hil, hA⟩ := vals_at hi
    obtain ⟨vn', vi', rfl, _, _, hf', _, hn', _, hi'⟩ := hv'.inv
    obtain ⟨A', c', rfl, hil', hA'⟩ := vals_at hi'
    have HF := Lib.hid (wf64 hf)
    have HF' := Lib.hid (wf64 hf')
    have HN := Lib.hid hn
    have HN' := Lib.hid hn'
    have HA := Lib.hid hA
    have HA' := Lib.hid hA'
    have HO : Hid (ordV (.mk k n f s ns its) (.mk k' n' f' s' ns' its') = if cmpI k k' ≠ 0 then cmpI k k' else if rowV k n n' f f' s s' ns ns' ≠ 0 ∨ leafK k = true then rowV k n n' f f' s s' ns ns' else listC ordV its its') := Lib.hid (by rw [ordV, ordL_eq])
    generalize ordV (.mk k n f s ns its) (.mk k' n' f' s' ns' its') = res at *
    have hB0 := box_below w (.cells ⟨[.int .i64 k, .int .i64 n, .float .f64 f, .string s, vn, .slice A its.length c]⟩ 38)
    have hB1 := box_below (w.alloc (.cells ⟨[.int .i64 k, .int .i64 n, .float .f64 f, .string s, vn, .slice A its.length c]⟩ 38)) (.cells ⟨[.int .i64 k', .int .i64 n', .float .f64 f', .string s', vn', .slice A' its'.length c']⟩ 38)
    have HB := Lib.hid (hB0.trans (hB1.mono hB0.size))
    have HSB : Hid (w.heap.size + 1 < ((w.alloc (.cells ⟨[.int .i64 k, .int .i64 n, .float .f64 f, .string s, vn, .slice A its.length c]⟩ 38)).alloc (.cells ⟨[.int .i64 k', .int .i64 n', .float .f64 f', .string s', vn', .slice A' its'.length c']⟩ 38)).heap.size) := Lib.hid (by simp)
    have hRA := rangeAt_below (range_box w [.int .i64 k, .int .i64 n, .float .f64 f, .string s, vn, .slice A its.length c] 38) hB1 (box_size w _)
    have hRB := range_box (w.alloc (.cells ⟨[.int .i64 k, .int .i64 n, .float .f64 f, .string s, vn, .slice A its.length c]⟩ 38)) [.int .i64 k', .int .i64 n', .float .f64 f', .string s', vn', .slice A' its'.length c'] 38
    rw [World.size_alloc] at hRB
    have HRA := Lib.hid hRA
    have HRB := Lib.hid hRB
    clear ih hv hn hi hA hf hv' hn' hi' hA' hf' hB0 hB1 hRA hRB
    go_enter Tryz.func52, Tryz.ntmps52
    go_upto_region 1 with (fail)
    generalize (w.alloc (.cells ⟨[.int .i64 k, .int .i64 n, .float .f64 f, .string s, vn, .slice A its.length c]⟩ 38)).alloc (.cells ⟨[.int .i64 k', .int .i64 n', .float .f64 f', .string s', vn', .slice A' its'.length c']⟩ 38) = W at *
    obtain ⟨pb, hpb⟩ : ∃ pb, w.heap.size + 1 = pb := ⟨_, rfl⟩
    rw [hpb] at HRB HSB
    rw [hpb]
    have HPB : Hid (w.heap.size < pb) := Lib.hid (by omega)
    clear hpb
    have d0 : W.cell? ⟨w.heap.size, 0, none⟩ = some (.int .i64 k) := by have := HRA.out 0 _ rfl; simpa using this
    have d1 : W.cell? ⟨w.heap.size, 1, none⟩ = some (.int .i64 n) := by have := HRA.out 1 _ rfl; simpa using this
    have d2 : W.cell? ⟨w.heap.size, 2, none⟩ = some (.float .f64 f) := by have := HRA.out 2 _ rfl; simpa using this
    have d3 : W.cell? ⟨w.heap.size, 3, none⟩ = some (.string s) := by have := HRA.out 3 _ rfl; simpa using this
    have d4 : W.cell? ⟨w.heap.size, 4, none⟩ = some vn := by have := HRA.out 4 _ rfl; simpa using this
    have d5 : W.cell? ⟨w.heap.size, 5, none⟩ = some (.slice A its.length c) := by have := HRA.out 5 _ rfl; simpa using this
    have e0 : W.cell? ⟨pb, 0, none⟩ = some (.int .i64 k') := by have := HRB.out 0 _ rfl; simpa using this
    have e1 : W.cell? ⟨pb, 1, none⟩ = some (.int .i64 n') := by have := HRB.out 1 _ rfl; simpa using this
    have e2 : W.cell? ⟨pb, 2, none⟩ = some (.float .f64 f') := by have := HRB.out 2 _ rfl; simpa using this
    have e3 : W.cell? ⟨pb, 3, none⟩ = some (.string s') := by have := HRB.out 3 _ rfl; simpa using this
    have e4 : W.cell? ⟨pb, 4, none⟩ = some vn' := by have := HRB.out 4 _ rfl; simpa using this
    have e5 : W.cell? ⟨pb, 5, none⟩ = some (.slice A' its'.length c') := by have := HRB.out 5 _ rfl; simpa using this
    have D5 := Lib.hid d5
    have E5 := Lib.hid e5
    clear HRA HRB
    have HSG := Lib.hid rsign_any
    have HTX := Lib.hid rtext_any
    by_cases hk : k = k'
    · subst hk
      have hkk : (k != k) = false := by simp
      have HO1 : Hid (res = if rowV k n n' f f' s s' ns ns' ≠ 0 ∨ leafK k = true then rowV k n n' f f' s s' ns ns' else listC ordV its its') := Lib.hid (by rw [HO.out]; simp [cmpI])
      clear HO
      by_cases k1 : k = 1
      · subst k1
        have HV : Hid (res = cmpI n n') := Lib.hid (by rw [HO1.out, if_pos (.inr rfl)]; rfl)
        go_wp2_with (go_at_call 65; refine (HSG.out _ _ _).mono ?_; rintro en z ⟨rfl, h⟩; rw [h]; clear h z)
        go_ret
        exact ⟨ret_int HV.out.symm, HB.out⟩
      by_cases k2 : k = 2
      · subst k2
        have HV : Hid (res = cmpI n n') := Lib.hid (by rw [HO1.out, if_pos (.inr rfl)]; rfl)
        go_wp2_with (go_at_call 65; refine (HSG.out _ _ _).mono ?_; rintro en z ⟨rfl, h⟩; rw [h]; clear h z)
        go_ret
        exact ⟨ret_int HV.out.symm, HB.out⟩
      by_cases k3 : k = 3
      · subst k3
        have HV : Hid (res = cmpF f f') := Lib.hid (by rw [HO1.out, if_pos (.inr rfl)]; rfl)
        have HFO := Lib.hid (fun z => rforder_any f f' HF.out HF'.out z)
        go_wp2_with (go_at_call 66; refine (HFO.out _).mono ?_; rintro en z ⟨rfl, h⟩; rw [h]; clear h z)
        go_ret
        exact ⟨ret_int HV.out.symm, HB.out⟩
      by_cases k4 : k = 4
      · subst k4
        have HV : Hid (res = cmpS s s') := Lib.hid (by rw [HO1.out, if_pos (.inr rfl)]; rfl)
        go_wp2_with (go_at_call 67; refine (HTX.out _ _ _).mono ?_; rintro en z ⟨rfl, h⟩; rw [h]; clear h z)
        go_ret
        exact ⟨ret_int HV.out.symm, HB.out⟩
      have q1 : (k == 1) = false := by simpa using k1
      have q2 : (k == 2) = false := by simpa using k2
      have q3 : (k == 3) = false := by simpa using k3
      have q4 : (k == 4) = false := by simpa using k4
      have hlf : leafK k = false := by
        unfold leafK
        cases h1 : decide (1 ≤ k) with
        | false => rfl
        | true => rw [Bool.true_and, decide_eq_false_iff_not]; have := of_decide_eq_true h1; omega
      obtain ⟨rv, hrv⟩ : ∃ rv, rowV k n n' f f' s s' ns ns' = rv := ⟨_, rfl⟩
      have HRV := Lib.hid hrv
      have HO2 : Hid (res = if rv ≠ 0 then rv else listC ordV its its') := Lib.hid (by rw [HO1.out, hrv, hlf]; simp)
      have HKN := Lib.hid (show ¬ (k = 1 ∨ k = 2) ∧ ¬ k = 3 ∧ ¬ k = 4 from ⟨fun h => h.elim k1 k2, k3, k4⟩)
      clear HO1 hlf hrv k1 k2 k3 k4
      obtain ⟨ca, hca⟩ : ∃ ca, (if k = 5 ∨ k = 6 then 0 else if cmpI n n' ≠ 0 then cmpI n n' else cmpS s s') = ca := ⟨_, rfl⟩
      have HCA := Lib.hid hca
      clear hca d2 e2
      go_upto_region 12 with (fail)
      go_cut [48] (fun v z => v = .bool (!decide (k = 5) && !decide (k = 6)) ∧ z = W)
      case first =>
        by_cases h5 : k = 5
        · have h5a : (k != 5) = false := by simpa using h5
          have HV : Hid ((!decide (k = 5) && !decide (k = 6)) = false) := Lib.hid (by rw [decide_eq_true h5]; rfl)
          clear h5
          go_wp2
          go_meet
          case rel => exact ⟨by rw [HV.out], rfl⟩
        · have h5a : (k != 5) = true := by simpa using h5
          by_cases h6 : k = 6
          · have h6a : (k != 6) = false := by simpa using h6
            have HV : Hid ((!decide (k = 5) && !decide (k = 6)) = false) := Lib.hid (by rw [decide_eq_true h6]; simp)
            clear h5 h6
            go_wp2
            go_meet
            case rel => exact ⟨by rw [HV.out], rfl⟩
          · have h6a : (k != 6) = true := by simpa using h6
            have HV : Hid ((!decide (k = 5) && !decide (k = 6)) = true) := Lib.hid (by rw [decide_eq_false h6, decide_eq_false h5]; rfl)
            clear h5 h6
            go_wp2
            go_meet
            case rel => exact ⟨by rw [HV.out], rfl⟩
      case rest =>
      obtain ⟨rfl, rfl⟩ := hcut
      obtain ⟨b48, hb48⟩ : ∃ b, (!decide (k = 5) && !decide (k = 6)) = b := ⟨_, rfl⟩
      have HB48 := Lib.hid hb48
      rw [hb48]
      clear hb48
      go_upto_if 48 with (fail)
      go_cut [5] (fun v z => v = .int .i64 ca ∧ z = wc)
      case first =>
        cases b48 with
        | false =>
          have HV : Hid (ca = 0) := Lib.hid (by
            rw [← HCA.out, if_pos]
            have := HB48.out
            by_cases h5 : k = 5
            · exact .inl h5
            · rw [decide_eq_false h5] at this; simp at this; exact .inr this)
          go_wp2
          go_meet
          case rel => exact ⟨by rw [HV.out], rfl⟩
        | true =>
            have HV : Hid (ca = if cmpI n n' ≠ 0 then cmpI n n' else cmpS s s') := Lib.hid (by
              have := HB48.out
              simp at this
              rw [← HCA.out, if_neg (by omega)])
            have HSN := Lib.hid (rsign_any n n')
            generalize cmpI n n' = c1 at *
            by_cases h0 : c1 = 0
            · have HV2 : Hid (ca = cmpS s s') := Lib.hid (by rw [HV.out, if_neg (by omega)])
              subst h0
              go_wp2_with (first | (go_at_call 65; refine (HSN.out _).mono ?_; rintro en z ⟨rfl, h⟩; rw [h]; clear h z) | (go_at_call 67; refine (HTX.out _ _ _).mono ?_; rintro en z ⟨rfl, h⟩; rw [h]; clear h z))
              go_meet
              case rel => exact ⟨by rw [HV2.out], rfl⟩
            · have HV2 : Hid (ca = c1) := Lib.hid (by rw [HV.out, if_pos h0])
              have h0a : (c1 == 0) = false := by simpa using h0
              clear h0
              go_wp2_with (first | (go_at_call 65; refine (HSN.out _).mono ?_; rintro en z ⟨rfl, h⟩; rw [h]; clear h z))
              go_meet
              case rel => exact ⟨by rw [HV2.out], rfl⟩
      case rest =>
      obtain ⟨rfl, rfl⟩ := hcut
      have HCB : Hid (rv = if k = 5 then ca else if ca ≠ 0 then ca else listC cmpS ns ns') := Lib.hid (by rw [← HRV.out, ← HCA.out]; exact rowV_rest HKN.out.1 HKN.out.2.1 HKN.out.2.2)
      clear HCA HRV HKN d1 d3 e1 e3
      have HRW := Lib.hid (rrows_any vn vn' ns ns' wc ((HN.out.below HB.out (R' := StrR) fun _ _ _ h => h).more HB.out.size) ((HN'.out.below HB.out (R' := StrR) fun _ _ _ h => h).more HB.out.size))
      go_upto_region 16 with (fail)
      go_cut [67] (fun v z => v = .bool (decide (ca = 0) && !decide (k = 5)) ∧ z = wc)
      case first =>
        by_cases h0 : ca = 0
        · have h0b : (ca == 0) = true := by simpa using h0
          by_cases h5 : k = 5
          · have h5a : (k != 5) = false := by simpa using h5
            have HV : Hid ((decide (ca = 0) && !decide (k = 5)) = false) := Lib.hid (by rw [decide_eq_true h5]; simp)
            clear h5 h0
            go_wp2
            go_meet
            case rel => exact ⟨by rw [HV.out], rfl⟩
          · have h5a : (k != 5) = true := by simpa using h5
            have HV : Hid ((decide (ca = 0) && !decide (k = 5)) = true) := Lib.hid (by rw [decide_eq_false h5, decide_eq_true h0]; rfl)
            clear h5 h0
            go_wp2
            go_meet
            case rel => exact ⟨by rw [HV.out], rfl⟩
        · have h0b : (ca == 0) = false := by simpa using h0
          have HV : Hid ((decide (ca = 0) && !decide (k = 5)) = false) := Lib.hid (by rw [decide_eq_false h0]; rfl)
          clear h0
          go_wp2
          go_meet
          case rel => exact ⟨by rw [HV.out], rfl⟩
      case rest =>
      obtain ⟨rfl, rfl⟩ := hcut
      obtain ⟨b67, hb67⟩ : ∃ b, (decide (ca = 0) && !decide (k = 5)) = b := ⟨_, rfl⟩
      have HB67 := Lib.hid hb67
      rw [hb67]
      clear hb67
      go_upto_if 67 with (fail)
      go_cut [5] (fun v z => v = .int .i64 rv ∧ Below wc.heap.size wc z)
      case first =>
        cases b67 with
        | false =>
          have HV : Hid (rv = ca) := Lib.hid (by
            rw [HCB.out]
            by_cases h5 : k = 5
            · rw [if_pos h5]
            · rw [if_neg h5]
              have := HB67.out
              rw [decide_eq_false h5] at this
              simp at this
              rw [if_pos this])
          go_wp2
          go_meet
          case rel => exact ⟨by rw [HV.out], Below.refl _ _⟩
        | true =>
          have HV2 : Hid (rv = listC cmpS ns ns') := Lib.hid (by
            have := HB67.out
            simp at this
            rw [HCB.out, if_neg this.2, if_neg (by rw [this.1]; simp)])
          go_wp2_with (go_at_call 68; refine HRW.out.mono ?_; rintro en z ⟨rfl, m, h⟩; have HZ : Hid (Below wc.heap.size wc z) := Lib.hid (by rw [h]; exact below_drewN (Below.refl _ _) _); clear h)
          go_meet
          case rel => exact ⟨by rw [HV2.out], HZ.out⟩
      case rest =>
      obtain ⟨rfl, hbc⟩ := hcut
      have hB2 := HB.out.trans (hbc.mono HB.out.size)
      have HB2 := Lib.hid hB2
      have HSP : Hid (pb < wc.heap.size) := Lib.hid (Nat.lt_of_lt_of_le HSB.out hbc.size)
      have HX5 := Lib.hid ((hbc.cell (p := ⟨w.heap.size, 5, none⟩) (Nat.lt_trans HPB.out HSB.out)).trans D5.out)
      have HY5 := Lib.hid ((hbc.cell (p := ⟨pb, 5, none⟩) HSB.out).trans E5.out)
      clear hbc hB2 HCB HRW d0 d4 d5 e4 e5 D5 E5 HTX
      go_upto_region 19 with (fail)
      go_loopg [5, 6] its.length (fun g v i wr => ∃ (j : Nat) (cv : Int), j + g = its.length ∧ j ≤ its'.length ∧ i = .int .i64 j ∧ v = .int .i64 cv ∧ Below wc.heap.size wc wr ∧ ((cv = 0 ∧ listC ordV (its.drop j) (its'.drop j) = res) ∨ (cv ≠ 0 ∧ cv = res)))
      case atStart => exact ⟨0, rv, by omega, by omega, rfl, rfl, Below.refl _ _, by
        by_cases h0 : rv = 0
        · refine .inl ⟨h0, ?_⟩; rw [HO2.out, if_neg (by omega)]; rfl
        · refine .inr ⟨h0, ?_⟩; rw [HO2.out, if_pos h0]⟩
      case round =>
        obtain ⟨j, cv, hj, hjl, rfl, rfl, hb, hc⟩ := hrel
        have HBW := Lib.hid hb
        have HBK := Lib.hid (HB2.out.trans (hb.mono HB2.out.size))
        have x5 := (hb.cell (p := ⟨w.heap.size, 5, none⟩) (Nat.lt_trans HPB.out HSP.out)).trans HX5.out
        have y5 := (hb.cell (p := ⟨pb, 5, none⟩) HSP.out).trans HY5.out
        have HSR : Hid (pb < wr.heap.size) := Lib.hid (Nat.lt_of_lt_of_le HSP.out hb.size)
        clear hb
        have hil2 : (its.length : Int) ≤ 9223372036854775807 := by omega
        have hil3 : (its'.length : Int) ≤ 9223372036854775807 := by omega
        have HTL := Lib.hid (fun h h2 h3 => listC_tail (f := ordV) (l := its) (r := its') (k := j) h h2 h3)
        rcases hc with ⟨rfl, hc⟩ | ⟨hc0, hc⟩
        · have HC := Lib.hid hc
          clear hc
          by_cases hl1 : j < its.length
          · have hlt : (j : Int) < (its.length : Int) := by omega
            by_cases hl2 : j < its'.length
            · have hlt2 : (j : Int) < (its'.length : Int) := by omega
              cases gk with
              | zero => omega
              | succ g =>
              obtain ⟨x, hx⟩ : ∃ x, its[j]? = some x := ⟨_, List.getElem?_eq_getElem hl1⟩
              obtain ⟨y, hy⟩ : ∃ x, its'[j]? = some x := ⟨_, List.getElem?_eq_getElem hl2⟩
              obtain ⟨b1, o1, rfl, hb1, hc1⟩ := HA.out (by omega)
              obtain ⟨b2, o2, rfl, hb2, hc2⟩ := HA'.out (by omega)
              obtain ⟨ks, hks, hvx⟩ := hc1 j x hx
              obtain ⟨ks', hks', hvy⟩ := hc2 j y hy
              have HL1 := Lib.hid (vlen6 hvx)
              have HL2 := Lib.hid (vlen6 hvy)
              have HK1 := Lib.hid (rangeAt_below hks HBK.out hb1)
              have HK2 := Lib.hid (rangeAt_below hks' HBK.out hb2)
              have HST := Lib.hid (listC_at (f := ordV) hx hy)
              have HMX := Lib.hid (List.mem_of_getElem? hx)
              have HVX := Lib.hid hvx
              have HVY := Lib.hid hvy
              have HBB := Lib.hid (And.intro hb1 hb2)
              clear hx hy hc1 hc2 hks hks' hvx hvy hb1 hb2 hl1 hl2
              go_upto_region 21 with (fail)
              refine wp_region_ord [(0, true), (1, true), (2, true), (3, true), (4, true), (5, true), (6, true), (7, true), (8, true), (9, true), (10, false), (11, true)] (fun z => z.cell? ⟨w.heap.size, 5, none⟩ = some (.slice (some ⟨b1, o1, none⟩) its.length c) ∧ z.cell? ⟨pb, 5, none⟩ = some (.slice (some ⟨b2, o2, none⟩) its'.length c') ∧ z.rangeAt b1 (o1 + j * 6) ks ∧ z.rangeAt b2 (o2 + j * 6) ks') (by kernel_rfl) (by kernel_rfl) (by kernel_rfl) rfl (by intro c a d v w h; cases d <;> exact h) ?_
              have hs9 : (fun z => z.cell? ⟨w.heap.size, 5, none⟩ = some (.slice (some ⟨b1, o1, none⟩) its.length c) ∧ z.cell? ⟨pb, 5, none⟩ = some (.slice (some ⟨b2, o2, none⟩) its'.length c') ∧ z.rangeAt b1 (o1 + j * 6) ks ∧ z.rangeAt b2 (o2 + j * 6) ks') wr.drew := ⟨x5, y5, HK1.out, HK2.out⟩
              have HWD : Hid (Below wc.heap.size wc wr.drew) := Lib.hid HBW.out.drew
              have HSd : Hid (pb < wr.drew.heap.size) := HSR
              have HBKd : Hid (Below w.heap.size w wr.drew) := Lib.hid HBK.out.drew
              clear x5 y5
              generalize wr.drew = wd at *
              refine ord_load (some 91) (.pointer (some ⟨w.heap.size, 5, none⟩)) _ rfl rfl (by exact wantA rfl) hs9 (fun z _ => by go_simp) ?_
              go_frame
              refine ord_load (some 92) (.slice (some ⟨b1, o1, none⟩) its.length c) _ rfl rfl (by exact wantA rfl) hs9 (fun z hz => by have dd := hz.1; go_simp) ?_
              go_frame
              refine ord_move (some 93) (.int .i64 j) _ _ rfl rfl rfl (by exact wantA rfl) hs9 rfl ?_
              go_frame
              refine ord_load (some 94) (.pointer (some ⟨b1, o1 + j * 6, none⟩)) _ rfl rfl (by exact wantA rfl) hs9 (fun z _ => by go_simp) ?_
              go_frame
              refine ord_load (some 95) (.agg ks.toArray) _ rfl rfl (by exact wantA rfl) hs9 (fun z hz => exec_sload 38 rfl b1 (o1 + j * 6) ks _ rfl hz.2.2.1 Tryz.underlying38 rfl (by rw [HL1.out]; kernel_rfl)) ?_
              go_frame
              refine ord_load (some 96) (.pointer (some ⟨pb, 5, none⟩)) _ rfl rfl (by exact wantA rfl) hs9 (fun z _ => by go_simp) ?_
              go_frame
              refine ord_load (some 97) (.slice (some ⟨b2, o2, none⟩) its'.length c') _ rfl rfl (by exact wantA rfl) hs9 (fun z hz => by have dd := hz.2.1; go_simp) ?_
              go_frame
              refine ord_move (some 98) (.int .i64 j) _ _ rfl rfl rfl (by exact wantA rfl) hs9 rfl ?_
              go_frame
              refine ord_load (some 99) (.pointer (some ⟨b2, o2 + j * 6, none⟩)) _ rfl rfl (by exact wantA rfl) hs9 (fun z _ => by go_simp) ?_
              go_frame
              refine ord_load (some 100) (.agg ks'.toArray) _ rfl rfl (by exact wantA rfl) hs9 (fun z hz => exec_sload 38 rfl b2 (o2 + j * 6) ks' _ rfl hz.2.2.2 Tryz.underlying38 rfl (by rw [HL2.out]; kernel_rfl)) ?_
              go_frame
              refine ord_to (some 101) 52 Tryz.func52 (by kernel_rfl) (by kernel_rfl) [.agg ks.toArray, .agg ks'.toArray] _ _ _ rfl rfl rfl (by exact wantA rfl) rfl ?_
              refine (IH.out x HMX.out y ks ks' wd ((HVX.out.under HBKd.out).more HBKd.out.size) ((HVY.out.under HBKd.out).more HBKd.out.size)).mono ?_
              rintro e z2 ⟨rfl, hb⟩
              have hs8 : (fun z => z.cell? ⟨w.heap.size, 5, none⟩ = some (.slice (some ⟨b1, o1, none⟩) its.length c) ∧ z.cell? ⟨pb, 5, none⟩ = some (.slice (some ⟨b2, o2, none⟩) its'.length c') ∧ z.rangeAt b1 (o1 + j * 6) ks ∧ z.rangeAt b2 (o2 + j * 6) ks') z2 := ⟨(hb.cell (p := ⟨w.heap.size, 5, none⟩) (Nat.lt_trans HPB.out HSd.out)).trans hs9.1, (hb.cell (p := ⟨pb, 5, none⟩) HSd.out).trans hs9.2.1, rangeAt_below hs9.2.2.1 hb (by have := HBB.out; have := HBKd.out.size; omega), rangeAt_below hs9.2.2.2 hb (by have := HBB.out; have := HBKd.out.size; omega)⟩
              refine ⟨_, rfl, hs8, ?_⟩
              go_frame
              have HZB := Lib.hid (HWD.out.trans (hb.mono HWD.out.size))
              clear hb hs9
              refine ord_assign (some 5) (.int .i64 (ordV x y)) _ _ rfl rfl rfl (by exact wantA rfl) hs8 rfl ?_
              go_frame
              refine ord_end ?_
              clear hs8
              have HNX : Hid ((ordV x y = 0 ∧ listC ordV (its.drop (j + 1)) (its'.drop (j + 1)) = res) ∨ (ordV x y ≠ 0 ∧ ordV x y = res)) := Lib.hid (by
                have h := HC.out
                rw [HST.out] at h
                by_cases h0 : ordV x y = 0
                · rw [if_neg (by omega)] at h; exact .inl ⟨h0, h⟩
                · rw [if_pos h0] at h; exact .inr ⟨h0, h⟩)
              generalize ordV x y = nv at *
              go_wp2
              go_roundg g
              case measure => omega
              case rel => exact ⟨j + 1, nv, by omega, by omega, by go_num, rfl, HZB.out, HNX.out⟩
            · have hge2 : ¬ ((j : Int) < (its'.length : Int)) := by omega
              have HV : Hid (cmpI (its.length : Int) (its'.length : Int) = res) := Lib.hid ((HTL.out (by omega) (by omega) (.inr (by omega))).symm.trans HC.out)
              clear hl1 hl2 HTL
              go_wp2_with (go_at_call 65; refine (HSG.out _ _ _).mono ?_; rintro en z ⟨rfl, h⟩; rw [h]; clear h z)
              go_ret
              exact ⟨ret_int HV.out, HBK.out⟩
          · have hge1 : ¬ ((j : Int) < (its.length : Int)) := by omega
            have HV : Hid (cmpI (its.length : Int) (its'.length : Int) = res) := Lib.hid ((HTL.out (by omega) (by omega) (.inl (by omega))).symm.trans HC.out)
            clear hl1 HTL
            go_wp2_with (go_at_call 65; refine (HSG.out _ _ _).mono ?_; rintro en z ⟨rfl, h⟩; rw [h]; clear h z)
            go_ret
            exact ⟨ret_int HV.out, HBK.out⟩
        · have HC := Lib.hid hc
          have hc0b : (cv == 0) = false := by simpa using hc0
          clear hc hc0 HTL
          by_cases hl1 : j < its.length
          · have hlt : (j : Int) < (its.length : Int) := by omega
            by_cases hl2 : j < its'.length
            · have hlt2 : (j : Int) < (its'.length : Int) := by omega
              go_wp2
              go_ret
              exact ⟨ret_int HC.out, HBK.out⟩
            · have hge2 : ¬ ((j : Int) < (its'.length : Int)) := by omega
              go_wp2
              go_ret
              exact ⟨ret_int HC.out, HBK.out⟩
          · have hge1 : ¬ ((j : Int) < (its.length : Int)) := by omega
            go_wp2
            go_ret
            exact ⟨ret_int HC.out, HBK.out⟩
    · have hkk : (k != k') = true := by simpa using hk
      have HV : Hid (res = cmpI k k') := Lib.hid (by rw [HO.out, if_pos]; have := cmpI_val k k'; omega)
      clear HO hk
      go_wp2_with (go_at_call 65; refine (HSG.out _ _ _).mono ?_; rintro en z ⟨rfl, h⟩; rw [h]; clear h z)
      go_ret
      exact ⟨ret_int HV.out.symm, HB.out⟩
set_option maxHeartbeats 1000000 in
set_option maxRecDepth 100000 in
theorem rsameV (t t' : VT) (cs cs' : List Value) (w : World) (hv : ValAt w w.heap.size cs t) (hv' : ValAt w w.heap.size cs' t') :
    Calls Tryz.prog 26 #[.agg ⟨cs⟩, .agg ⟨cs'⟩] w fun e w' => e = .returned (.bool (ordV t t' == 0)) ∧ Below w.heap.size w w' := by
  have HC1 := Lib.hid (vlen6 hv)
  have HC2 := Lib.hid (vlen6 hv')
  have hB0 := box_below w (.cells ⟨cs⟩ 38)
  have hB1 := box_below (w.alloc (.cells ⟨cs⟩ 38)) (.cells ⟨cs'⟩ 38)
  have HB := Lib.hid (hB0.trans (hB1.mono hB0.size))
  have hRA := rangeAt_below (range_box w cs 38) hB1 (box_size w _)
  have hRB := range_box (w.alloc (.cells ⟨cs⟩ 38)) cs' 38
  rw [World.size_alloc] at hRB
  have HRA := Lib.hid hRA
  have HRB := Lib.hid hRB
  have HV1 := Lib.hid ((hv.under HB.out).more HB.out.size)
  have HV2 := Lib.hid ((hv'.under HB.out).more HB.out.size)
  clear hv hv' hB0 hB1 hRA hRB
  go_enter Tryz.func26, Tryz.ntmps26
  go_upto_region 1 with (fail)
  generalize (w.alloc (.cells ⟨cs⟩ 38)).alloc (.cells ⟨cs'⟩ 38) = W at *
  obtain ⟨pb, hpb⟩ : ∃ pb, w.heap.size + 1 = pb := ⟨_, rfl⟩
  rw [hpb] at HRB
  rw [hpb]
  clear hpb
  have HC := Lib.hid (rorder_any t t' cs cs' W HV1.out HV2.out)
  obtain ⟨r, hr⟩ : ∃ r, ordV t t' = r := ⟨_, rfl⟩
  have HRr := Lib.hid hr
  rw [hr] at HC
  clear hr
  go_wp2_with (first | ((with_reducible refine wl_sload 38 _ rfl ?hwa w.heap.size 0 cs _ rfl HRA.out Tryz.underlying38 rfl ?hia ?_); (case hwa => (exact wantA rfl)); (case hia => rw [HC1.out]; kernel_rfl)) | ((with_reducible refine wl_sload 38 _ rfl ?hwb pb 0 cs' _ rfl HRB.out Tryz.underlying38 rfl ?hib ?_); (case hwb => (exact wantA rfl)); (case hib => rw [HC2.out]; kernel_rfl)) | (go_at_call 52; refine HC.out.mono ?_; rintro e z ⟨rfl, hb⟩; have HB2 := Lib.hid hb; clear hb))
  go_ret
  exact ⟨by rw [HRr.out]; rfl, HB.out.trans (HB2.out.mono HB.out.size)⟩
end Go.Proofs.YtpmjcbjdcjjplaaGreat
end
section
namespace Go.Proofs.YtpmjcbjdcjjplaaGreat
open Go Go.RowKit
set_option linter.unusedVariables false
set_option linter.unusedSimpArgs false
theorem erangeS {w : World} {p o i : Nat} {cs ds : List Value} (h : w.rangeAt p o cs) (hd : ∀ j v, ds[j]? = some v → cs[i + j]? = some v) : w.rangeAt p (o + i) ds := fun j v hv => by
  have := h (i + j) v (hd j v hv)
  rw [show o + i + j = o + (i + j) by omega]; exact this
theorem strcell {w : World} {b o : Nat} {l : List ByteArray} (hc : ∀ (i : Nat) x, l[i]? = some x → ∃ cs : List Value, cs.length = 1 ∧ w.rangeAt b (o + i * 1) cs ∧ StrR cs x) {j : Nat} {x : ByteArray} (hx : l[j]? = some x) :
    w.cell? ⟨b, o + j, none⟩ = some (.string x) := by
  obtain ⟨cs, _, hr, he⟩ := hc j x hx
  have := hr 0 (.string x) (by rw [he.1]; rfl)
  simpa using this
set_option maxHeartbeats 8000000 in
set_option maxRecDepth 100000 in
theorem resame_any : ∀ (t t' : ET) (cs cs' : List Value) (w : World), ExpAt w w.heap.size cs t → ExpAt w w.heap.size cs' t' →
    Calls Tryz.prog 53 #[.agg ⟨cs⟩, .agg ⟨cs'⟩] w fun e w' => e = .returned (.bool (sameE t t')) ∧ Below w.heap.size w w' := by
  intro t
  induction t using ET.ind with
  | h k s v ns its ih =>
    intro t' cs cs' w hv hv'
    cases t' with
    | mk k' s' v' ns' its' =>
    have IH := Lib.hid ih
    obtain ⟨v0, v1, v2, v3, v4, v5, vn0, vi0, rfl, _, _, hvv, hns, hil, hi⟩ := hv.inv
    obtain ⟨_, A, c, rfl, hA⟩ := hi
    obtain ⟨hnl, NA, nc, rfl, hN⟩ := hns
    cases v with
    | mk vk vn vf vs vxs vits =>
    obtain ⟨vns, vis, hcv, _, _, hvf, _, hvns, _, hvi⟩ := hvv.inv
    simp only [List.cons.injEq, and_true] at hcv
    obtain ⟨rfl, rfl, rfl, rfl, rfl, rfl⟩ := hcv
    obtain ⟨v0', v1', v2', v3', v4', v5', vn0', vi0', rfl, _, _, hvv', hns', hil', hi'⟩ := hv'.inv
    obtain ⟨_, A', c', rfl, hA'⟩ := hi'
    obtain ⟨hnl', NA', nc', rfl, hN'⟩ := hns'
    cases v' with
    | mk vk' vn' vf' vs' vxs' vits' =>
    obtain ⟨vns', vis', hcv', _, _, hvf', _, hvns', _, hvi'⟩ := hvv'.inv
    simp only [List.cons.injEq, and_true] at hcv'
    obtain ⟨rfl, rfl, rfl, rfl, rfl, rfl⟩ := hcv'
    have HA := Lib.hid hA
    have HA' := Lib.hid hA'
    have HN := Lib.hid hN
    have HN' := Lib.hid hN'
    have HVV := Lib.hid hvv
    have HVV' := Lib.hid hvv'
    have HO : Hid (sameE (.mk k s (.mk vk vn vf vs vxs vits) ns its) (.mk k' s' (.mk vk' vn' vf' vs' vxs' vits') ns' its') = ((k == k') && ((s.toList == s'.toList) && ((ordV (.mk vk vn vf vs vxs vits) (.mk vk' vn' vf' vs' vxs' vits') == 0) && (((ns.length : Int) == ns'.length) && (((its.length : Int) == its'.length) && (eqN ns ns' && sameEL its its'))))))) := Lib.hid (by rw [sameE])
    generalize sameE (.mk k s (.mk vk vn vf vs vxs vits) ns its) (.mk k' s' (.mk vk' vn' vf' vs' vxs' vits') ns' its') = res at *
    have hB0 := box_below w (.cells ⟨[.int .i64 k, .string s, .int .i64 vk, .int .i64 vn, .float .f64 vf, .string vs, v4, v5, .slice NA ns.length nc, .slice A its.length c]⟩ 40)
    have hB1 := box_below (w.alloc (.cells ⟨[.int .i64 k, .string s, .int .i64 vk, .int .i64 vn, .float .f64 vf, .string vs, v4, v5, .slice NA ns.length nc, .slice A its.length c]⟩ 40)) (.cells ⟨[.int .i64 k', .string s', .int .i64 vk', .int .i64 vn', .float .f64 vf', .string vs', v4', v5', .slice NA' ns'.length nc', .slice A' its'.length c']⟩ 40)
    have HB := Lib.hid (hB0.trans (hB1.mono hB0.size))
    have HSB : Hid (w.heap.size + 1 < ((w.alloc (.cells ⟨[.int .i64 k, .string s, .int .i64 vk, .int .i64 vn, .float .f64 vf, .string vs, v4, v5, .slice NA ns.length nc, .slice A its.length c]⟩ 40)).alloc (.cells ⟨[.int .i64 k', .string s', .int .i64 vk', .int .i64 vn', .float .f64 vf', .string vs', v4', v5', .slice NA' ns'.length nc', .slice A' its'.length c']⟩ 40)).heap.size) := Lib.hid (by simp)
    have hRA := rangeAt_below (range_box w [.int .i64 k, .string s, .int .i64 vk, .int .i64 vn, .float .f64 vf, .string vs, v4, v5, .slice NA ns.length nc, .slice A its.length c] 40) hB1 (box_size w _)
    have hRB := range_box (w.alloc (.cells ⟨[.int .i64 k, .string s, .int .i64 vk, .int .i64 vn, .float .f64 vf, .string vs, v4, v5, .slice NA ns.length nc, .slice A its.length c]⟩ 40)) [.int .i64 k', .string s', .int .i64 vk', .int .i64 vn', .float .f64 vf', .string vs', v4', v5', .slice NA' ns'.length nc', .slice A' its'.length c'] 40
    rw [World.size_alloc] at hRB
    have HRA := Lib.hid hRA
    have HRB := Lib.hid hRB
    unfold maxLen at hil hil'
    clear ih hv hA hN hv' hA' hN' hB0 hB1 hRA hRB hvv hvv' hvf hvf' hvns hvi hvns' hvi'
    go_enter Tryz.func53, Tryz.ntmps53
    go_upto_region 1 with (fail)
    generalize (w.alloc (.cells ⟨[.int .i64 k, .string s, .int .i64 vk, .int .i64 vn, .float .f64 vf, .string vs, v4, v5, .slice NA ns.length nc, .slice A its.length c]⟩ 40)).alloc (.cells ⟨[.int .i64 k', .string s', .int .i64 vk', .int .i64 vn', .float .f64 vf', .string vs', v4', v5', .slice NA' ns'.length nc', .slice A' its'.length c']⟩ 40) = W at *
    obtain ⟨pb, hpb⟩ : ∃ pb, w.heap.size + 1 = pb := ⟨_, rfl⟩
    rw [hpb] at HRB HSB
    rw [hpb]
    have HPB : Hid (w.heap.size < pb) := Lib.hid (by omega)
    clear hpb
    have d0 : W.cell? ⟨w.heap.size, 0, none⟩ = some (.int .i64 k) := by have := HRA.out 0 _ rfl; simpa using this
    have d1 : W.cell? ⟨w.heap.size, 1, none⟩ = some (.string s) := by have := HRA.out 1 _ rfl; simpa using this
    have d8 : W.cell? ⟨w.heap.size, 8, none⟩ = some (.slice NA ns.length nc) := by have := HRA.out 8 _ rfl; simpa using this
    have d9 : W.cell? ⟨w.heap.size, 9, none⟩ = some (.slice A its.length c) := by have := HRA.out 9 _ rfl; simpa using this
    have e0 : W.cell? ⟨pb, 0, none⟩ = some (.int .i64 k') := by have := HRB.out 0 _ rfl; simpa using this
    have e1 : W.cell? ⟨pb, 1, none⟩ = some (.string s') := by have := HRB.out 1 _ rfl; simpa using this
    have e8 : W.cell? ⟨pb, 8, none⟩ = some (.slice NA' ns'.length nc') := by have := HRB.out 8 _ rfl; simpa using this
    have e9 : W.cell? ⟨pb, 9, none⟩ = some (.slice A' its'.length c') := by have := HRB.out 9 _ rfl; simpa using this
    have HRV : Hid (W.rangeAt w.heap.size 2 [.int .i64 vk, .int .i64 vn, .float .f64 vf, .string vs, v4, v5]) := Lib.hid (by have := erangeS (i := 2) (ds := [.int .i64 vk, .int .i64 vn, .float .f64 vf, .string vs, v4, v5]) HRA.out (fun j v h => match j, h with | 0, h => h | 1, h => h | 2, h => h | 3, h => h | 4, h => h | 5, h => h | j + 6, h => by simp at h); simpa using this)
    have HRW : Hid (W.rangeAt pb 2 [.int .i64 vk', .int .i64 vn', .float .f64 vf', .string vs', v4', v5']) := Lib.hid (by have := erangeS (i := 2) (ds := [.int .i64 vk', .int .i64 vn', .float .f64 vf', .string vs', v4', v5']) HRB.out (fun j v h => match j, h with | 0, h => h | 1, h => h | 2, h => h | 3, h => h | 4, h => h | 5, h => h | j + 6, h => by simp at h); simpa using this)
    have D8 := Lib.hid d8
    have D9 := Lib.hid d9
    have E8 := Lib.hid e8
    have E9 := Lib.hid e9
    clear HRA HRB
    have HSV := Lib.hid (rsameV (.mk vk vn vf vs vxs vits) (.mk vk' vn' vf' vs' vxs' vits') [.int .i64 vk, .int .i64 vn, .float .f64 vf, .string vs, v4, v5] [.int .i64 vk', .int .i64 vn', .float .f64 vf', .string vs', v4', v5'] W ((HVV.out.under HB.out).more HB.out.size) ((HVV'.out.under HB.out).more HB.out.size))
    obtain ⟨sv, hsv⟩ : ∃ b, (ordV (.mk vk vn vf vs vxs vits) (.mk vk' vn' vf' vs' vxs' vits') == 0) = b := ⟨_, rfl⟩
    rw [hsv] at HSV HO
    clear hsv HVV HVV'
    have HPA : Hid (w.heap.size < W.heap.size) := Lib.hid (Nat.lt_trans HPB.out HSB.out)
    obtain ⟨b1, hb1⟩ : ∃ b, ((k == k') && ((s.toList == s'.toList) && (sv && (((ns.length : Int) == ns'.length) && ((its.length : Int) == its'.length))))) = b := ⟨_, rfl⟩
    have HB1 := Lib.hid hb1
    have HO1 : Hid (res = (b1 && (eqN ns ns' && sameEL its its'))) := Lib.hid (by rw [HO.out, ← HB1.out]; simp only [Bool.and_assoc])
    clear hb1 HO
    go_cut [44] (fun v z => v = .bool (!b1) ∧ Below W.heap.size W z)
    case first =>
      cases hk : (k == k') with
      | false =>
        have hk2 : (k != k') = true := by simpa using hk
        have HV : Hid (b1 = false) := Lib.hid (by rw [← HB1.out, hk]; rfl)
        clear hk
        go_wp2
        go_meet
        case rel => exact ⟨by rw [HV.out]; rfl, Below.refl _ _⟩
      | true =>
      have hk2 : (k != k') = false := by simpa using hk
      cases hs : (s.toList == s'.toList) with
      | false =>
        have HV : Hid (b1 = false) := Lib.hid (by rw [← HB1.out, hk, hs]; rfl)
        clear hk
        go_wp2
        go_meet
        case rel => exact ⟨by rw [HV.out]; rfl, Below.refl _ _⟩
      | true =>
      cases sv with
      | false =>
        have HV : Hid (b1 = false) := Lib.hid (by rw [← HB1.out, hk, hs]; rfl)
        clear hk
        go_wp2_with (first | ((with_reducible refine wl_sload 38 _ rfl ?hwa w.heap.size 2 [.int .i64 vk, .int .i64 vn, .float .f64 vf, .string vs, v4, v5] _ rfl HRV.out Tryz.underlying38 rfl ?hia ?_); (case hwa => (exact wantA rfl)); (case hia => kernel_rfl)) | ((with_reducible refine wl_sload 38 _ rfl ?hwb pb 2 [.int .i64 vk', .int .i64 vn', .float .f64 vf', .string vs', v4', v5'] _ rfl HRW.out Tryz.underlying38 rfl ?hib ?_); (case hwb => (exact wantA rfl)); (case hib => kernel_rfl)) | (go_at_call 26; refine HSV.out.mono ?_; rintro en z ⟨rfl, hb⟩; have HZ := Lib.hid hb; clear hb))
        go_meet
        case rel => exact ⟨by rw [HV.out]; rfl, HZ.out⟩
      | true =>
      have HB2 : Hid ((((ns.length : Int) == ns'.length) && ((its.length : Int) == its'.length)) = b1) := Lib.hid (by rw [← HB1.out, hk, hs]; rfl)
      clear hk
      cases hn : ((ns.length : Int) == ns'.length) with
      | false =>
        have hn2 : ((ns.length : Int) != ns'.length) = true := by simpa using hn
        have HV : Hid (b1 = false) := Lib.hid (by rw [← HB2.out, hn]; rfl)
        clear hn
        go_wp2_with (first | ((with_reducible refine wl_sload 38 _ rfl ?hwa w.heap.size 2 [.int .i64 vk, .int .i64 vn, .float .f64 vf, .string vs, v4, v5] _ rfl HRV.out Tryz.underlying38 rfl ?hia ?_); (case hwa => (exact wantA rfl)); (case hia => kernel_rfl)) | ((with_reducible refine wl_sload 38 _ rfl ?hwb pb 2 [.int .i64 vk', .int .i64 vn', .float .f64 vf', .string vs', v4', v5'] _ rfl HRW.out Tryz.underlying38 rfl ?hib ?_); (case hwb => (exact wantA rfl)); (case hib => kernel_rfl)) | (go_at_call 26; refine HSV.out.mono ?_; rintro en z ⟨rfl, hb⟩; have HZ := Lib.hid hb; have x8 := (hb.cell (p := ⟨w.heap.size, 8, none⟩) HPA.out).trans D8.out; have y8 := (hb.cell (p := ⟨pb, 8, none⟩) HSB.out).trans E8.out; have x9 := (hb.cell (p := ⟨w.heap.size, 9, none⟩) HPA.out).trans D9.out; have y9 := (hb.cell (p := ⟨pb, 9, none⟩) HSB.out).trans E9.out; clear hb))
        go_meet
        case rel => exact ⟨by rw [HV.out]; rfl, HZ.out⟩
      | true =>
      have hn2 : ((ns.length : Int) != ns'.length) = false := by simpa using hn
      cases hi : ((its.length : Int) == its'.length) with
      | false =>
        have hi2 : ((its.length : Int) != its'.length) = true := by simpa using hi
        have HV : Hid (b1 = false) := Lib.hid (by rw [← HB2.out, hn, hi]; rfl)
        clear hn hi
        go_wp2_with (first | ((with_reducible refine wl_sload 38 _ rfl ?hwa w.heap.size 2 [.int .i64 vk, .int .i64 vn, .float .f64 vf, .string vs, v4, v5] _ rfl HRV.out Tryz.underlying38 rfl ?hia ?_); (case hwa => (exact wantA rfl)); (case hia => kernel_rfl)) | ((with_reducible refine wl_sload 38 _ rfl ?hwb pb 2 [.int .i64 vk', .int .i64 vn', .float .f64 vf', .string vs', v4', v5'] _ rfl HRW.out Tryz.underlying38 rfl ?hib ?_); (case hwb => (exact wantA rfl)); (case hib => kernel_rfl)) | (go_at_call 26; refine HSV.out.mono ?_; rintro en z ⟨rfl, hb⟩; have HZ := Lib.hid hb; have x8 := (hb.cell (p := ⟨w.heap.size, 8, none⟩) HPA.out).trans D8.out; have y8 := (hb.cell (p := ⟨pb, 8, none⟩) HSB.out).trans E8.out; have x9 := (hb.cell (p := ⟨w.heap.size, 9, none⟩) HPA.out).trans D9.out; have y9 := (hb.cell (p := ⟨pb, 9, none⟩) HSB.out).trans E9.out; clear hb))
        go_meet
        case rel => exact ⟨by rw [HV.out]; rfl, HZ.out⟩
      | true =>
        have hi2 : ((its.length : Int) != its'.length) = false := by simpa using hi
        have HV : Hid (b1 = true) := Lib.hid (by rw [← HB2.out, hn, hi]; rfl)
        clear hn hi
        go_wp2_with (first | ((with_reducible refine wl_sload 38 _ rfl ?hwa w.heap.size 2 [.int .i64 vk, .int .i64 vn, .float .f64 vf, .string vs, v4, v5] _ rfl HRV.out Tryz.underlying38 rfl ?hia ?_); (case hwa => (exact wantA rfl)); (case hia => kernel_rfl)) | ((with_reducible refine wl_sload 38 _ rfl ?hwb pb 2 [.int .i64 vk', .int .i64 vn', .float .f64 vf', .string vs', v4', v5'] _ rfl HRW.out Tryz.underlying38 rfl ?hib ?_); (case hwb => (exact wantA rfl)); (case hib => kernel_rfl)) | (go_at_call 26; refine HSV.out.mono ?_; rintro en z ⟨rfl, hb⟩; have HZ := Lib.hid hb; have x8 := (hb.cell (p := ⟨w.heap.size, 8, none⟩) HPA.out).trans D8.out; have y8 := (hb.cell (p := ⟨pb, 8, none⟩) HSB.out).trans E8.out; have x9 := (hb.cell (p := ⟨w.heap.size, 9, none⟩) HPA.out).trans D9.out; have y9 := (hb.cell (p := ⟨pb, 9, none⟩) HSB.out).trans E9.out; clear hb))
        go_meet
        case rel => exact ⟨by rw [HV.out]; rfl, HZ.out⟩
    case rest =>
    obtain ⟨rfl, hbc⟩ := hcut
    have hB2 := HB.out.trans (hbc.mono HB.out.size)
    have HB2 := Lib.hid hB2
    have HSP : Hid (pb < wc.heap.size) := Lib.hid (Nat.lt_of_lt_of_le HSB.out hbc.size)
    have HX8 := Lib.hid ((hbc.cell (p := ⟨w.heap.size, 8, none⟩) HPA.out).trans D8.out)
    have HY8 := Lib.hid ((hbc.cell (p := ⟨pb, 8, none⟩) HSB.out).trans E8.out)
    have HX9 := Lib.hid ((hbc.cell (p := ⟨w.heap.size, 9, none⟩) HPA.out).trans D9.out)
    have HY9 := Lib.hid ((hbc.cell (p := ⟨pb, 9, none⟩) HSB.out).trans E9.out)
    clear hbc hB2 d0 d1 d8 d9 e0 e1 e8 e9 D8 D9 E8 E9 HSV HRV HRW HPA
    cases b1 with
    | false =>
      have HR : Hid (res = false) := Lib.hid (HO1.out.trans (Bool.false_and _))
      go_wp2
      go_ret
      exact ⟨ret_bool HR.out.symm, HB2.out⟩
    | true =>
    have hb1 := HB1.out
    simp only [Bool.and_eq_true, beq_iff_eq] at hb1
    have HLN : Hid (ns.length = ns'.length) := Lib.hid (by have := hb1.2.2.2.1; omega)
    have HLI : Hid (its.length = its'.length) := Lib.hid (by have := hb1.2.2.2.2; omega)
    rw [Bool.true_and] at HO1
    clear hb1 HB1
    obtain ⟨rn, hrn⟩ : ∃ b, eqN ns ns' = b := ⟨_, rfl⟩
    have H0 : Hid (eqN (ns.drop 0) (ns'.drop 0) = rn) := Lib.hid hrn
    rw [hrn] at HO1
    clear hrn
    go_upto_region 4 with (fail)
    go_loopg [5] ns.length (fun g i wr => ∃ j : Nat, j + g = ns.length ∧ i = .int .i64 j ∧ Below wc.heap.size wc wr ∧ eqN (ns.drop j) (ns'.drop j) = rn)
    case atStart => exact ⟨0, by omega, rfl, Below.refl _ _, H0.out⟩
    case round =>
      obtain ⟨j, hj, rfl, hb, hres⟩ := hrel
      have HR := Lib.hid hres
      have HBW := Lib.hid hb
      have HBK := Lib.hid (HB2.out.trans (hb.mono HB2.out.size))
      have x8 := (hb.cell (p := ⟨w.heap.size, 8, none⟩) (Nat.lt_trans HPB.out HSP.out)).trans HX8.out
      have y8 := (hb.cell (p := ⟨pb, 8, none⟩) HSP.out).trans HY8.out
      clear hb hres
      cases gk with
      | zero =>
        obtain rfl : j = ns.length := by omega
        have hge : ¬ ((ns.length : Int) < (ns.length : Int)) := by omega
        have HV := Lib.hid (HR.out.symm.trans (eqN_end HLN.out))
        have HRR : Hid (res = sameEL its its') := Lib.hid (by rw [HO1.out, HV.out]; exact Bool.true_and _)
        have H1 : Hid (sameEL (its.drop 0) (its'.drop 0) = res) := Lib.hid HRR.out.symm
        clear HR
        go_upto_region 9 with (fail)
        clear x8 y8
        go_loopg [6] its.length (fun g i wr => ∃ j : Nat, j + g = its.length ∧ i = .int .i64 j ∧ Below wc.heap.size wc wr ∧ sameEL (its.drop j) (its'.drop j) = res)
        case atStart => exact ⟨0, by omega, rfl, HBW.out, H1.out⟩
        case round =>
          obtain ⟨j, hj, rfl, hb, hres⟩ := hrel
          have HR := Lib.hid hres
          have HBW := Lib.hid hb
          have HBK := Lib.hid (HB2.out.trans (hb.mono HB2.out.size))
          have x9 := (hb.cell (p := ⟨w.heap.size, 9, none⟩) (Nat.lt_trans HPB.out HSP.out)).trans HX9.out
          have y9 := (hb.cell (p := ⟨pb, 9, none⟩) HSP.out).trans HY9.out
          have HSR : Hid (pb < wr.heap.size) := Lib.hid (Nat.lt_of_lt_of_le HSP.out hb.size)
          clear hb hres
          cases gk with
          | zero =>
            obtain rfl : j = its.length := by omega
            have hge : ¬ ((its.length : Int) < (its.length : Int)) := by omega
            have HV := Lib.hid (HR.out.symm.trans (sameEL_end HLI.out))
            go_wp2
            go_ret
            exact ⟨ret_bool HV.out.symm, HBK.out⟩
          | succ g =>
            have hlt : (j : Int) < (its.length : Int) := by omega
            have hlt2 : (j : Int) < (its'.length : Int) := by have := HLI.out; omega
            obtain ⟨x, hx⟩ : ∃ x, its[j]? = some x := ⟨_, List.getElem?_eq_getElem (by omega)⟩
            obtain ⟨y, hy⟩ : ∃ x, its'[j]? = some x := ⟨_, List.getElem?_eq_getElem (by have := HLI.out; omega)⟩
            obtain ⟨b1, o1, rfl, hb1, hc1⟩ := HA.out (by omega)
            obtain ⟨b2, o2, rfl, hb2, hc2⟩ := HA'.out (by have := HLI.out; omega)
            obtain ⟨ks, hl1, hks, hvx⟩ := hc1 j x hx
            obtain ⟨ks', hl2, hks', hvy⟩ := hc2 j y hy
            have HL1 := Lib.hid hl1
            have HL2 := Lib.hid hl2
            have HK1 := Lib.hid (rangeAt_below hks HBK.out hb1)
            have HK2 := Lib.hid (rangeAt_below hks' HBK.out hb2)
            have HST := Lib.hid (HR.out.symm.trans (sameEL_at hx hy))
            have HMX := Lib.hid (List.mem_of_getElem? hx)
            have HVX := Lib.hid hvx
            have HVY := Lib.hid hvy
            have HBB := Lib.hid (And.intro hb1 hb2)
            clear hx hy hc1 hc2 hks hks' hvx hvy hb1 hb2 hl1 hl2 HR
            obtain ⟨sx, hsx⟩ : ∃ b, sameE x y = b := ⟨_, rfl⟩
            rw [hsx] at HST
            have HSX := Lib.hid hsx
            clear hsx
            go_upto_region 11 with (fail)
            go_cut [81] (fun q z => q = .bool (!sx) ∧ Below wc.heap.size wc z)
            case first =>
              refine wp_region_ord [(0, true), (1, true), (2, true), (3, true), (4, true), (5, true), (6, true), (7, true), (8, true), (9, true), (10, false), (11, true)] (fun z => z.cell? ⟨w.heap.size, 9, none⟩ = some (.slice (some ⟨b1, o1, none⟩) its.length c) ∧ z.cell? ⟨pb, 9, none⟩ = some (.slice (some ⟨b2, o2, none⟩) its'.length c') ∧ z.rangeAt b1 (o1 + j * 10) ks ∧ z.rangeAt b2 (o2 + j * 10) ks') (by kernel_rfl) (by kernel_rfl) (by kernel_rfl) rfl (by intro c a d v w h; cases d <;> exact h) ?_
              have hs9 : (fun z => z.cell? ⟨w.heap.size, 9, none⟩ = some (.slice (some ⟨b1, o1, none⟩) its.length c) ∧ z.cell? ⟨pb, 9, none⟩ = some (.slice (some ⟨b2, o2, none⟩) its'.length c') ∧ z.rangeAt b1 (o1 + j * 10) ks ∧ z.rangeAt b2 (o2 + j * 10) ks') wr.drew := ⟨x9, y9, HK1.out, HK2.out⟩
              have HWD : Hid (Below wc.heap.size wc wr.drew) := Lib.hid HBW.out.drew
              have HSd : Hid (pb < wr.drew.heap.size) := HSR
              have HBKd : Hid (Below w.heap.size w wr.drew) := Lib.hid HBK.out.drew
              clear x9 y9
              generalize wr.drew = wd at *
              refine ord_load (some 70) (.pointer (some ⟨w.heap.size, 9, none⟩)) _ rfl rfl (by exact wantA rfl) hs9 (fun z _ => by go_simp) ?_
              go_frame
              refine ord_load (some 71) (.slice (some ⟨b1, o1, none⟩) its.length c) _ rfl rfl (by exact wantA rfl) hs9 (fun z hz => by have dd := hz.1; go_simp) ?_
              go_frame
              refine ord_move (some 72) (.int .i64 j) _ _ rfl rfl rfl (by exact wantA rfl) hs9 rfl ?_
              go_frame
              refine ord_load (some 73) (.pointer (some ⟨b1, o1 + j * 10, none⟩)) _ rfl rfl (by exact wantA rfl) hs9 (fun z _ => by go_simp) ?_
              go_frame
              refine ord_load (some 74) (.agg ks.toArray) _ rfl rfl (by exact wantA rfl) hs9 (fun z hz => exec_sload 40 rfl b1 (o1 + j * 10) ks _ rfl hz.2.2.1 Tryz.underlying40 rfl (by rw [HL1.out]; kernel_rfl)) ?_
              go_frame
              refine ord_load (some 75) (.pointer (some ⟨pb, 9, none⟩)) _ rfl rfl (by exact wantA rfl) hs9 (fun z _ => by go_simp) ?_
              go_frame
              refine ord_load (some 76) (.slice (some ⟨b2, o2, none⟩) its'.length c') _ rfl rfl (by exact wantA rfl) hs9 (fun z hz => by have dd := hz.2.1; go_simp) ?_
              go_frame
              refine ord_move (some 77) (.int .i64 j) _ _ rfl rfl rfl (by exact wantA rfl) hs9 rfl ?_
              go_frame
              refine ord_load (some 78) (.pointer (some ⟨b2, o2 + j * 10, none⟩)) _ rfl rfl (by exact wantA rfl) hs9 (fun z _ => by go_simp) ?_
              go_frame
              refine ord_load (some 79) (.agg ks'.toArray) _ rfl rfl (by exact wantA rfl) hs9 (fun z hz => exec_sload 40 rfl b2 (o2 + j * 10) ks' _ rfl hz.2.2.2 Tryz.underlying40 rfl (by rw [HL2.out]; kernel_rfl)) ?_
              go_frame
              refine ord_to (some 80) 53 Tryz.func53 (by kernel_rfl) (by kernel_rfl) [.agg ks.toArray, .agg ks'.toArray] _ _ _ rfl rfl rfl (by exact wantA rfl) rfl ?_
              refine (IH.out x HMX.out y ks ks' wd ((HVX.out.under HBKd.out).more HBKd.out.size) ((HVY.out.under HBKd.out).more HBKd.out.size)).mono ?_
              rintro e z2 ⟨rfl, hb⟩
              rw [HSX.out]
              have hs8 : (fun z => z.cell? ⟨w.heap.size, 9, none⟩ = some (.slice (some ⟨b1, o1, none⟩) its.length c) ∧ z.cell? ⟨pb, 9, none⟩ = some (.slice (some ⟨b2, o2, none⟩) its'.length c') ∧ z.rangeAt b1 (o1 + j * 10) ks ∧ z.rangeAt b2 (o2 + j * 10) ks') z2 := ⟨(hb.cell (p := ⟨w.heap.size, 9, none⟩) (Nat.lt_trans HPB.out HSd.out)).trans hs9.1, (hb.cell (p := ⟨pb, 9, none⟩) HSd.out).trans hs9.2.1, rangeAt_below hs9.2.2.1 hb (by have := HBB.out; have := HBKd.out.size; omega), rangeAt_below hs9.2.2.2 hb (by have := HBB.out; have := HBKd.out.size; omega)⟩
              refine ⟨_, rfl, hs8, ?_⟩
              go_frame
              have HZB := Lib.hid (HWD.out.trans (hb.mono HWD.out.size))
              clear hb hs9
              refine ord_load (some 81) (.bool (!sx)) _ rfl rfl (by exact wantA rfl) hs8 (fun z _ => by go_simp) ?_
              go_frame
              refine ord_end ?_
              clear hs8
              go_wp2
              go_meet
              case rel => exact ⟨rfl, HZB.out⟩
            case rest =>
            obtain ⟨rfl, hbc⟩ := hcut
            have HBC := Lib.hid hbc
            clear hbc x9 y9
            cases sx with
            | false =>
              have HV : Hid (res = false) := Lib.hid (HST.out.trans (Bool.false_and _))
              go_wp2
              go_ret
              exact ⟨ret_bool HV.out.symm, HB2.out.trans (HBC.out.mono HB2.out.size)⟩
            | true =>
              have HV := Lib.hid (HST.out.trans (Bool.true_and _))
              go_wp2
              go_roundg g
              case measure => omega
              case rel => exact ⟨j + 1, by omega, by go_num, HBC.out, HV.out.symm⟩
      | succ g =>
        have hlt : (j : Int) < (ns.length : Int) := by omega
        have hlt2 : (j : Int) < (ns'.length : Int) := by have := HLN.out; omega
        obtain ⟨x, hx⟩ : ∃ x, ns[j]? = some x := ⟨_, List.getElem?_eq_getElem (by omega)⟩
        obtain ⟨y, hy⟩ : ∃ x, ns'[j]? = some x := ⟨_, List.getElem?_eq_getElem (by have := HLN.out; omega)⟩
        obtain ⟨b1, o1, rfl, hb1, hc1⟩ := HN.out (by omega)
        obtain ⟨b2, o2, rfl, hb2, hc2⟩ := HN'.out (by have := HLN.out; omega)
        have dx := (HBK.out.cell (p := ⟨b1, o1 + j, none⟩) hb1).trans (strcell hc1 hx)
        have dy := (HBK.out.cell (p := ⟨b2, o2 + j, none⟩) hb2).trans (strcell hc2 hy)
        have HST := Lib.hid (HR.out.symm.trans (eqN_at hx hy))
        clear hx hy hc1 hc2 HR hb1 hb2
        cases hxy : (x.toList == y.toList) with
        | false =>
          have HV : Hid (res = false) := Lib.hid (by rw [HO1.out, HST.out, hxy]; rfl)
          go_upto_region 6 with (fail)
          go_quiet (fail)
          go_wp2
          go_ret
          exact ⟨ret_bool HV.out.symm, below_drewN HBK.out _⟩
        | true =>
          have HV : Hid (eqN (ns.drop (j + 1)) (ns'.drop (j + 1)) = rn) := Lib.hid (by rw [HST.out, hxy, Bool.true_and])
          go_upto_region 6 with (fail)
          go_quiet (fail)
          go_wp2
          go_roundg g
          case measure => omega
          case rel => exact ⟨j + 1, by omega, by go_num, below_drewN HBW.out _, HV.out⟩
end Go.Proofs.YtpmjcbjdcjjplaaGreat
end
