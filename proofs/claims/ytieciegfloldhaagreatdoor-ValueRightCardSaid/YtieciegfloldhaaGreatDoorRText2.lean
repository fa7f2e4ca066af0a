/- The document's text of a value: ref04.Text. -/
import Derived.Test.YtieciegfloldhaaGreatDoorRText
namespace Go.Proofs.YtieciegfloldhaaGreatDoor
open Go Go.RowKit
set_option linter.unusedVariables false
set_option linter.unusedSimpArgs false

def RTextC (t : VT) (txt : List UInt8) : Prop := ∀ (cs : List Value) (w : World), ValAt w w.heap.size cs t → txt.length ≤ 100000 →
  Calls Tryz.prog 12 #[.agg ⟨cs⟩] w fun e w' => e = .returned (.string ⟨txt.toArray⟩) ∧ Below w.heap.size w w'
set_option maxHeartbeats 1000000 in
set_option maxRecDepth 100000 in
theorem rtext_true (f : Nat) (s : ByteArray) (ns : List ByteArray) (its : List VT) : RTextC (VT.mk 1 1 f s ns its) (trueL) := by
  intro cs w hv hlen
  obtain ⟨vn, vi, rfl, _, _, hf, _, _, _, _⟩ := hv.inv

  clear hv hlen hf
  go_enter Tryz.func12, Tryz.ntmps12
  go_upto_region 1 with (fail)
  have hb0 := box_below w (.cells ⟨[.int .i64 1, .int .i64 1, .float .f64 f, .string s, vn, vi]⟩ 26)
  have hz0 := box_size w (.cells ⟨[.int .i64 1, .int .i64 1, .float .f64 f, .string s, vn, vi]⟩ 26)
  have hr0 := range_box w [.int .i64 1, .int .i64 1, .float .f64 f, .string s, vn, vi] 26
  generalize w.alloc (.cells ⟨[.int .i64 1, .int .i64 1, .float .f64 f, .string s, vn, vi]⟩ 26) = W at *
  have HB := Lib.hid hb0
  have HSZ := Lib.hid hz0
  have HRG := Lib.hid hr0
  have d0 : W.cell? ⟨w.heap.size, 0, none⟩ = some (.int .i64 1) := hr0 0 _ rfl
  have d1 : W.cell? ⟨w.heap.size, 1, none⟩ = some (.int .i64 1) := hr0 1 _ rfl
  clear hb0 hz0 hr0
  go_wp2
  go_ret
  exact ⟨rfl, HB.out⟩
set_option maxHeartbeats 1000000 in
set_option maxRecDepth 100000 in
theorem rtext_false (f : Nat) (s : ByteArray) (ns : List ByteArray) (its : List VT) : RTextC (VT.mk 1 0 f s ns its) (falseL) := by
  intro cs w hv hlen
  obtain ⟨vn, vi, rfl, _, _, hf, _, _, _, _⟩ := hv.inv

  clear hv hlen hf
  go_enter Tryz.func12, Tryz.ntmps12
  go_upto_region 1 with (fail)
  have hb0 := box_below w (.cells ⟨[.int .i64 1, .int .i64 0, .float .f64 f, .string s, vn, vi]⟩ 26)
  have hz0 := box_size w (.cells ⟨[.int .i64 1, .int .i64 0, .float .f64 f, .string s, vn, vi]⟩ 26)
  have hr0 := range_box w [.int .i64 1, .int .i64 0, .float .f64 f, .string s, vn, vi] 26
  generalize w.alloc (.cells ⟨[.int .i64 1, .int .i64 0, .float .f64 f, .string s, vn, vi]⟩ 26) = W at *
  have HB := Lib.hid hb0
  have HSZ := Lib.hid hz0
  have HRG := Lib.hid hr0
  have d0 : W.cell? ⟨w.heap.size, 0, none⟩ = some (.int .i64 1) := hr0 0 _ rfl
  have d1 : W.cell? ⟨w.heap.size, 1, none⟩ = some (.int .i64 0) := hr0 1 _ rfl
  clear hb0 hz0 hr0
  go_wp2
  go_ret
  exact ⟨rfl, HB.out⟩
set_option maxHeartbeats 1000000 in
set_option maxRecDepth 100000 in
theorem rtext_pos (n : Int) (h0 : 0 ≤ n) (h1 : n ≤ 9223372036854775807) (f : Nat) (s : ByteArray) (ns : List ByteArray) (its : List VT) : RTextC (VT.mk 2 n f s ns its) (Lib.decDigits n.toNat) := by
  intro cs w hv hlen
  obtain ⟨vn, vi, rfl, _, _, hf, _, _, _, _⟩ := hv.inv
  have hd := dec_len (n := n.toNat) (by omega)
  have HC := Lib.hid (fun w => digits_any n.toNat (by omega) (by omega) w)
  have u1 : IntKind.u64.wrap n = ((n.toNat : Nat) : Int) := by rw [IntKind.wrap_u64]; omega
  have u2 : ¬ n < 0 := by omega
  have u3 : decide (n < 0) = false := decide_eq_false u2
  clear hv hlen hf h0 h1 hd
  generalize n.toNat = E at *
  go_enter Tryz.func12, Tryz.ntmps12
  go_upto_region 1 with (fail)
  have hb0 := box_below w (.cells ⟨[.int .i64 2, .int .i64 n, .float .f64 f, .string s, vn, vi]⟩ 26)
  have hz0 := box_size w (.cells ⟨[.int .i64 2, .int .i64 n, .float .f64 f, .string s, vn, vi]⟩ 26)
  have hr0 := range_box w [.int .i64 2, .int .i64 n, .float .f64 f, .string s, vn, vi] 26
  generalize w.alloc (.cells ⟨[.int .i64 2, .int .i64 n, .float .f64 f, .string s, vn, vi]⟩ 26) = W at *
  have HB := Lib.hid hb0
  have HSZ := Lib.hid hz0
  have HRG := Lib.hid hr0
  have d0 : W.cell? ⟨w.heap.size, 0, none⟩ = some (.int .i64 2) := hr0 0 _ rfl
  have d1 : W.cell? ⟨w.heap.size, 1, none⟩ = some (.int .i64 n) := hr0 1 _ rfl
  clear hb0 hz0 hr0
  go_wp2_with (go_at_call 35; refine (HC.out _).mono ?_; rintro e z ⟨rfl, hb⟩; have HB1 := Lib.hid hb; clear hb)
  go_ret
  exact ⟨rfl, HB.out.trans (HB1.out.mono HB.out.size)⟩
set_option maxHeartbeats 1000000 in
set_option maxRecDepth 100000 in
theorem rtext_neg (n : Int) (h0 : n < 0) (h1 : -9223372036854775808 ≤ n) (f : Nat) (s : ByteArray) (ns : List ByteArray) (its : List VT) : RTextC (VT.mk 2 n f s ns its) (45 :: Lib.decDigits n.natAbs) := by
  intro cs w hv hlen
  obtain ⟨vn, vi, rfl, _, _, hf, _, _, _, _⟩ := hv.inv
  have hd : (Lib.decDigits n.natAbs).length ≤ 40 := by
    have := itoa_le (n := n) h1 (by omega)
    rcases itoa_cases n with ⟨h2, _⟩ | ⟨_, h3⟩
    · omega
    · rw [h3, List.length_cons] at this; omega
  have HC := Lib.hid (fun w => digits_any n.natAbs (by omega) (by omega) w)
  have u1 : IntKind.u64.wrap (-IntKind.u64.wrap n) = ((n.natAbs : Nat) : Int) := by rw [IntKind.wrap_u64, IntKind.wrap_u64]; omega
  have u2 : n < 0 := h0
  have u3 : decide (n < 0) = true := decide_eq_true u2
  have c1 := cat_any [45] (Lib.decDigits n.natAbs) (by simp; omega)
  have HE : Hid ((⟨([45] ++ Lib.decDigits n.natAbs).toArray⟩ : ByteArray) = ⟨(45 :: Lib.decDigits n.natAbs).toArray⟩) := Lib.hid rfl
  generalize (⟨([45] ++ Lib.decDigits n.natAbs).toArray⟩ : ByteArray) = S1 at *
  clear hv hlen hf h0 h1 hd
  generalize n.natAbs = E at *
  go_enter Tryz.func12, Tryz.ntmps12
  go_upto_region 1 with (fail)
  have hb0 := box_below w (.cells ⟨[.int .i64 2, .int .i64 n, .float .f64 f, .string s, vn, vi]⟩ 26)
  have hz0 := box_size w (.cells ⟨[.int .i64 2, .int .i64 n, .float .f64 f, .string s, vn, vi]⟩ 26)
  have hr0 := range_box w [.int .i64 2, .int .i64 n, .float .f64 f, .string s, vn, vi] 26
  generalize w.alloc (.cells ⟨[.int .i64 2, .int .i64 n, .float .f64 f, .string s, vn, vi]⟩ 26) = W at *
  have HB := Lib.hid hb0
  have HSZ := Lib.hid hz0
  have HRG := Lib.hid hr0
  have d0 : W.cell? ⟨w.heap.size, 0, none⟩ = some (.int .i64 2) := hr0 0 _ rfl
  have d1 : W.cell? ⟨w.heap.size, 1, none⟩ = some (.int .i64 n) := hr0 1 _ rfl
  clear hb0 hz0 hr0
  go_wp2_with (go_at_call 35; refine (HC.out _).mono ?_; rintro e z ⟨rfl, hb⟩; have HB1 := Lib.hid hb; clear hb)
  go_ret
  exact ⟨congrArg (fun s => Ending.returned (.string s)) HE.out, HB.out.trans (HB1.out.mono HB.out.size)⟩
set_option maxHeartbeats 1000000 in
set_option maxRecDepth 100000 in
theorem rtext_flt (n : Int) (f : Nat) (s : ByteArray) (ns : List ByteArray) (its : List VT) : RTextC (VT.mk 3 n f s ns its) (textF f) := by
  intro cs w hv hlen
  obtain ⟨vn, vi, rfl, _, _, hf, _, _, _, _⟩ := hv.inv
  have HC := Lib.hid (fun w => rtext_f f (wf64 hf) w)
  clear hv hlen hf
  go_enter Tryz.func12, Tryz.ntmps12
  go_upto_region 1 with (fail)
  have hb0 := box_below w (.cells ⟨[.int .i64 3, .int .i64 n, .float .f64 f, .string s, vn, vi]⟩ 26)
  have hz0 := box_size w (.cells ⟨[.int .i64 3, .int .i64 n, .float .f64 f, .string s, vn, vi]⟩ 26)
  have hr0 := range_box w [.int .i64 3, .int .i64 n, .float .f64 f, .string s, vn, vi] 26
  generalize w.alloc (.cells ⟨[.int .i64 3, .int .i64 n, .float .f64 f, .string s, vn, vi]⟩ 26) = W at *
  have HB := Lib.hid hb0
  have HSZ := Lib.hid hz0
  have HRG := Lib.hid hr0
  have d0 : W.cell? ⟨w.heap.size, 0, none⟩ = some (.int .i64 3) := hr0 0 _ rfl
  have d2 : W.cell? ⟨w.heap.size, 2, none⟩ = some (.float .f64 f) := hr0 2 _ rfl
  clear hb0 hz0 hr0
  go_wp2_with (go_at_call 36; refine (HC.out _).mono ?_; rintro e z ⟨rfl, hb⟩; have HB1 := Lib.hid hb; clear hb)
  go_ret
  exact ⟨rfl, HB.out.trans (HB1.out.mono HB.out.size)⟩
set_option maxHeartbeats 1000000 in
set_option maxRecDepth 100000 in
theorem rtext_str (n : Int) (f : Nat) (s : ByteArray) (hsz : s.size ≤ 200) (ns : List ByteArray) (its : List VT) : RTextC (VT.mk 4 n f s ns its) (quoteL s.data.toList) := by
  intro cs w hv hlen
  obtain ⟨vn, vi, rfl, _, _, hf, _, _, _, _⟩ := hv.inv
  have HC := Lib.hid (fun w => quote_any s hsz w)
  clear hv hlen hf hsz
  go_enter Tryz.func12, Tryz.ntmps12
  go_upto_region 1 with (fail)
  have hb0 := box_below w (.cells ⟨[.int .i64 4, .int .i64 n, .float .f64 f, .string s, vn, vi]⟩ 26)
  have hz0 := box_size w (.cells ⟨[.int .i64 4, .int .i64 n, .float .f64 f, .string s, vn, vi]⟩ 26)
  have hr0 := range_box w [.int .i64 4, .int .i64 n, .float .f64 f, .string s, vn, vi] 26
  generalize w.alloc (.cells ⟨[.int .i64 4, .int .i64 n, .float .f64 f, .string s, vn, vi]⟩ 26) = W at *
  have HB := Lib.hid hb0
  have HSZ := Lib.hid hz0
  have HRG := Lib.hid hr0
  have d0 : W.cell? ⟨w.heap.size, 0, none⟩ = some (.int .i64 4) := hr0 0 _ rfl
  have d3 : W.cell? ⟨w.heap.size, 3, none⟩ = some (.string s) := hr0 3 _ rfl
  clear hb0 hz0 hr0
  go_wp2_with (go_at_call 37; refine (HC.out _).mono ?_; rintro e z ⟨rfl, hb⟩; have HB1 := Lib.hid hb; clear hb)
  go_ret
  exact ⟨rfl, HB.out.trans (HB1.out.mono HB.out.size)⟩
set_option maxHeartbeats 4000000 in
set_option maxRecDepth 100000 in
theorem rtext_list (n : Int) (f : Nat) (s : ByteArray) (ns : List ByteArray) (its : List VT) (tx : Nat → List UInt8) (nm : Nat → List UInt8) (hnm : ∀ i, nm i = []) (hit : ∀ i x, its[i]? = some x → RTextC x (tx i)) :
    RTextC (VT.mk 5 n f s ns its) ([91] ++ (joinK nm tx its.length ++ [93])) := by
  intro cs w hv hlen
  obtain ⟨vn, vi, rfl, _, _, _, _, hn, hil0, hi⟩ := hv.inv
  obtain ⟨A, c, rfl, hil, hA⟩ := vals_at hi
  obtain ⟨_, NA, nc, rfl, _⟩ := id hn
  obtain ⟨_, hnl0, hna⟩ := str_at hn
  have HNA := Lib.hid hna
  have HA := Lib.hid hA
  have HIT := Lib.hid hit
  have HNM := Lib.hid hnm
  have HLEN := Lib.hid hlen
  have HJR := Lib.hid (fun k n => joinK_room nm tx (k := k) (n := n))
  have HJ0 : Hid (joinK nm tx 0 = []) := Lib.hid rfl
  have HJS : Hid (∀ k, joinK nm tx (k + 1) = joinK nm tx k ++ ((if k = 0 then [] else [44]) ++ (nm k ++ tx k))) := Lib.hid fun _ => rfl
  have hil : (its.length : Int) ≤ 9223372036854775807 := by unfold maxLen at hil0; omega
  clear hv hA hna hn hnm hit hi hlen
  generalize hJ : joinK nm tx = J at *
  clear hJ
  go_enter Tryz.func12, Tryz.ntmps12
  go_upto_region 1 with (fail)
  have hb0 := box_below w (.cells ⟨[.int .i64 5, .int .i64 n, .float .f64 f, .string s, .slice NA ns.length nc, .slice A its.length c]⟩ 26)
  have hz0 := box_size w (.cells ⟨[.int .i64 5, .int .i64 n, .float .f64 f, .string s, .slice NA ns.length nc, .slice A its.length c]⟩ 26)
  have hr0 := range_box w [.int .i64 5, .int .i64 n, .float .f64 f, .string s, .slice NA ns.length nc, .slice A its.length c] 26
  generalize w.alloc (.cells ⟨[.int .i64 5, .int .i64 n, .float .f64 f, .string s, .slice NA ns.length nc, .slice A its.length c]⟩ 26) = W at *
  have HB := Lib.hid hb0
  have HSZ := Lib.hid hz0
  have HRG := Lib.hid hr0
  have d0 : W.cell? ⟨w.heap.size, 0, none⟩ = some (.int .i64 5) := hr0 0 _ rfl
  have d5 : W.cell? ⟨w.heap.size, 5, none⟩ = some (.slice A its.length c) := hr0 5 _ rfl
  clear hb0 hz0 hr0
  go_wp2
  clear d0 d5
  go_loopg [3, 4] its.length (fun q x y u => ∃ k : Nat, k + q = its.length ∧ y = .int .i64 k ∧ x = .string ⟨([91] ++ J k).toArray⟩ ∧ Below W.heap.size W u)
  case atStart => exact ⟨0, by omega, rfl, by rw [HJ0.out]; rfl, Below.refl _ _⟩
  case round =>
    obtain ⟨k, hk, rfl, rfl, hb⟩ := hrel
    have HBW := Lib.hid hb
    clear hb
    have d0 := (HBW.out.cell (p := ⟨w.heap.size, 0, none⟩) HSZ.out).trans (show W.cell? ⟨w.heap.size, 0, none⟩ = some (.int .i64 5) from HRG.out 0 _ rfl)
    have d5 := (HBW.out.cell (p := ⟨w.heap.size, 5, none⟩) HSZ.out).trans (show W.cell? ⟨w.heap.size, 5, none⟩ = some (.slice A its.length c) from HRG.out 5 _ rfl)
    cases gk with
    | zero =>
      obtain rfl : k = its.length := by omega
      have hge : ¬ ((its.length : Int) < (its.length : Int)) := by omega
      have c1 := cat_any ([91] ++ J its.length) [93] (by have := HLEN.out; simp only [List.length_append, List.length_cons, List.length_nil] at this ⊢; omega)
      have HE : Hid ((⟨([91] ++ J its.length ++ [93]).toArray⟩ : ByteArray) = ⟨([91] ++ (J its.length ++ [93])).toArray⟩) := Lib.hid (by simp)
      generalize (⟨([91] ++ J its.length ++ [93]).toArray⟩ : ByteArray) = S1 at *
      generalize ([91] ++ J its.length).toArray = S0 at *
      go_wp2
      go_ret
      exact ⟨congrArg (fun s => Ending.returned (.string s)) HE.out, HB.out.trans (HBW.out.mono HB.out.size)⟩
    | succ q =>
      have hlt : (k : Int) < (its.length : Int) := by omega
      obtain ⟨y, hy⟩ : ∃ y, its[k]? = some y := ⟨_, List.getElem?_eq_getElem (by omega)⟩
      obtain ⟨b, o, rfl, hbb, hc⟩ := HA.out (by omega)
      obtain ⟨cs, hr, hR⟩ := hc k y hy
      have hB2 := HB.out.trans (HBW.out.mono HB.out.size)
      have HR1 := Lib.hid (rangeAt_below hr hB2 hbb)
      have HROOM := Lib.hid (HJR.out k its.length (by omega))
      have HTL : Hid ((tx k).length ≤ 100000) := Lib.hid (by have h1 := HLEN.out; have h2 := HROOM.out; simp only [List.length_append, List.length_cons, List.length_nil] at h1; omega)
      have HC := Lib.hid (HIT.out k y hy cs wr (hR.next hB2) HTL.out)
      have HCL := Lib.hid (val_one hR)
      have HJN := Lib.hid (HJS.out k)
      have hnk := HNM.out k
      rw [hnk] at HROOM HJN
      clear hnk
      clear hc hr hR hB2 hy
      by_cases hk0 : k = 0
      · subst hk0
        have HK0 : Hid ((0 : Nat) = 0) := Lib.hid rfl
        simp only [Nat.zero_mul, Nat.add_zero] at HR1
        have c3 := cat_any ([91] ++ J 0) (tx 0) (by have h1 := HLEN.out; have h2 := HROOM.out; simp only [List.length_append, List.length_cons, List.length_nil, if_pos, if_true, HK0.out, if_false] at h1 h2 ⊢; omega)
        have HE : Hid ((⟨(([91] ++ J 0) ++ tx 0).toArray⟩ : ByteArray) = ⟨([91] ++ J (0 + 1)).toArray⟩) := Lib.hid (by rw [HJN.out]; simp [HK0.out])
        generalize ([91] ++ J 0).toArray = Q0 at *
        generalize (([91] ++ J 0) ++ tx 0).toArray = Q1 at *
        generalize (tx 0).toArray = QT at *
        go_wp2_with (first | ((with_reducible refine wl_sload 26 _ rfl ?hwaf b o cs _ rfl HR1.out Tryz.underlying26 rfl ?hiaf ?_); (case hwaf => (first | exact wanted_none rfl | exact wanted_if rfl rfl rfl rfl)); (case hiaf => rw [HCL.out.1]; kernel_rfl)) | (go_at_call 12; refine HC.out.mono ?_; rintro e w' ⟨rfl, hb⟩; have HB2 := Lib.hid hb; clear hb))
        go_roundg q
        case measure => omega
        case rel => exact ⟨0 + 1, by omega, by go_num, congrArg Value.string HE.out, HBW.out.trans (HB2.out.mono HBW.out.size)⟩
      · have t1 : (0 : Int) < (k : Int) := by omega
        have HK0 := Lib.hid hk0
        have c1 := cat_any ([91] ++ J k) [44] (by have h1 := HLEN.out; have h2 := HROOM.out; simp only [List.length_append, List.length_cons, List.length_nil, if_pos, if_true, HK0.out, if_false] at h1 h2 ⊢; omega)
        have c3 := cat_any (([91] ++ J k) ++ [44]) (tx k) (by have h1 := HLEN.out; have h2 := HROOM.out; simp only [List.length_append, List.length_cons, List.length_nil, if_pos, if_true, HK0.out, if_false] at h1 h2 ⊢; omega)
        have HE : Hid ((⟨((([91] ++ J k) ++ [44]) ++ tx k).toArray⟩ : ByteArray) = ⟨([91] ++ J (k + 1)).toArray⟩) := Lib.hid (by rw [HJN.out]; simp [HK0.out])
        generalize ([91] ++ J k).toArray = Q0 at *
        generalize (([91] ++ J k) ++ [44]).toArray = Q1 at *
        generalize ((([91] ++ J k) ++ [44]) ++ tx k).toArray = Q2 at *
        generalize (tx k).toArray = QT at *
        go_wp2_with (first | ((with_reducible refine wl_sload 26 _ rfl ?hwan b (o + k * 6) cs _ rfl HR1.out Tryz.underlying26 rfl ?hian ?_); (case hwan => (first | exact wanted_none rfl | exact wanted_if rfl rfl rfl rfl)); (case hian => rw [HCL.out.1]; kernel_rfl)) | (go_at_call 12; refine HC.out.mono ?_; rintro e w' ⟨rfl, hb⟩; have HB2 := Lib.hid hb; clear hb))
        go_roundg q
        case measure => omega
        case rel => exact ⟨k + 1, by omega, by go_num, congrArg Value.string HE.out, HBW.out.trans (HB2.out.mono HBW.out.size)⟩
set_option maxHeartbeats 4000000 in
set_option maxRecDepth 100000 in
theorem rtext_rec (n : Int) (f : Nat) (s : ByteArray) (ns : List ByteArray) (its : List VT) (tx : Nat → List UInt8) (nm : Nat → List UInt8) (hnl : ns.length = its.length) (hnm : ∀ i s1, ns[i]? = some s1 → nm i = s1.data.toList ++ [58]) (hit : ∀ i x, its[i]? = some x → RTextC x (tx i)) :
    RTextC (VT.mk 6 n f s ns its) ([123] ++ (joinK nm tx its.length ++ [125])) := by
  intro cs w hv hlen
  obtain ⟨vn, vi, rfl, _, _, _, _, hn, hil0, hi⟩ := hv.inv
  obtain ⟨A, c, rfl, hil, hA⟩ := vals_at hi
  obtain ⟨_, NA, nc, rfl, _⟩ := id hn
  obtain ⟨_, hnl0, hna⟩ := str_at hn
  have HNA := Lib.hid hna
  have HA := Lib.hid hA
  have HIT := Lib.hid hit
  have HNM := Lib.hid hnm
  have HLEN := Lib.hid hlen
  have HJR := Lib.hid (fun k n => joinK_room nm tx (k := k) (n := n))
  have HJ0 : Hid (joinK nm tx 0 = []) := Lib.hid rfl
  have HJS : Hid (∀ k, joinK nm tx (k + 1) = joinK nm tx k ++ ((if k = 0 then [] else [44]) ++ (nm k ++ tx k))) := Lib.hid fun _ => rfl
  have hil : (its.length : Int) ≤ 9223372036854775807 := by unfold maxLen at hil0; omega
  clear hv hA hna hn hnm hit hi hlen
  have HNL := Lib.hid hnl
  clear hnl
  generalize hJ : joinK nm tx = J at *
  clear hJ
  go_enter Tryz.func12, Tryz.ntmps12
  go_upto_region 1 with (fail)
  have hb0 := box_below w (.cells ⟨[.int .i64 6, .int .i64 n, .float .f64 f, .string s, .slice NA ns.length nc, .slice A its.length c]⟩ 26)
  have hz0 := box_size w (.cells ⟨[.int .i64 6, .int .i64 n, .float .f64 f, .string s, .slice NA ns.length nc, .slice A its.length c]⟩ 26)
  have hr0 := range_box w [.int .i64 6, .int .i64 n, .float .f64 f, .string s, .slice NA ns.length nc, .slice A its.length c] 26
  generalize w.alloc (.cells ⟨[.int .i64 6, .int .i64 n, .float .f64 f, .string s, .slice NA ns.length nc, .slice A its.length c]⟩ 26) = W at *
  have HB := Lib.hid hb0
  have HSZ := Lib.hid hz0
  have HRG := Lib.hid hr0
  have d0 : W.cell? ⟨w.heap.size, 0, none⟩ = some (.int .i64 6) := hr0 0 _ rfl
  have d5 : W.cell? ⟨w.heap.size, 5, none⟩ = some (.slice A its.length c) := hr0 5 _ rfl
  clear hb0 hz0 hr0
  go_wp2
  clear d0 d5
  go_loopg [3, 4] its.length (fun q x y u => ∃ k : Nat, k + q = its.length ∧ y = .int .i64 k ∧ x = .string ⟨([123] ++ J k).toArray⟩ ∧ Below W.heap.size W u)
  case atStart => exact ⟨0, by omega, rfl, by rw [HJ0.out]; rfl, Below.refl _ _⟩
  case round =>
    obtain ⟨k, hk, rfl, rfl, hb⟩ := hrel
    have HBW := Lib.hid hb
    clear hb
    have d0 := (HBW.out.cell (p := ⟨w.heap.size, 0, none⟩) HSZ.out).trans (show W.cell? ⟨w.heap.size, 0, none⟩ = some (.int .i64 6) from HRG.out 0 _ rfl)
    have d5 := (HBW.out.cell (p := ⟨w.heap.size, 5, none⟩) HSZ.out).trans (show W.cell? ⟨w.heap.size, 5, none⟩ = some (.slice A its.length c) from HRG.out 5 _ rfl)
    cases gk with
    | zero =>
      obtain rfl : k = its.length := by omega
      have hge : ¬ ((its.length : Int) < (its.length : Int)) := by omega
      have c1 := cat_any ([123] ++ J its.length) [125] (by have := HLEN.out; simp only [List.length_append, List.length_cons, List.length_nil] at this ⊢; omega)
      have HE : Hid ((⟨([123] ++ J its.length ++ [125]).toArray⟩ : ByteArray) = ⟨([123] ++ (J its.length ++ [125])).toArray⟩) := Lib.hid (by simp)
      generalize (⟨([123] ++ J its.length ++ [125]).toArray⟩ : ByteArray) = S1 at *
      generalize ([123] ++ J its.length).toArray = S0 at *
      go_wp2
      go_ret
      exact ⟨congrArg (fun s => Ending.returned (.string s)) HE.out, HB.out.trans (HBW.out.mono HB.out.size)⟩
    | succ q =>
      have hlt : (k : Int) < (its.length : Int) := by omega
      obtain ⟨y, hy⟩ : ∃ y, its[k]? = some y := ⟨_, List.getElem?_eq_getElem (by omega)⟩
      obtain ⟨b, o, rfl, hbb, hc⟩ := HA.out (by omega)
      obtain ⟨cs, hr, hR⟩ := hc k y hy
      have hB2 := HB.out.trans (HBW.out.mono HB.out.size)
      have HR1 := Lib.hid (rangeAt_below hr hB2 hbb)
      have HROOM := Lib.hid (HJR.out k its.length (by omega))
      have HTL : Hid ((tx k).length ≤ 100000) := Lib.hid (by have h1 := HLEN.out; have h2 := HROOM.out; simp only [List.length_append, List.length_cons, List.length_nil] at h1; omega)
      have HC := Lib.hid (HIT.out k y hy cs wr (hR.next hB2) HTL.out)
      have HCL := Lib.hid (val_one hR)
      have HJN := Lib.hid (HJS.out k)
      have hnl := HNL.out
      obtain ⟨s1, hs1⟩ : ∃ s1, ns[k]? = some s1 := ⟨_, List.getElem?_eq_getElem (by omega)⟩
      obtain ⟨bn, on_, rfl, hbn, cn⟩ := HNA.out (by omega)
      have hcn := (cn k s1 hs1).1
      have dn := (hB2.cell (p := ⟨bn, on_ + k, none⟩) hbn).trans hcn
      have hnk := HNM.out k s1 hs1
      rw [hnk] at HROOM HJN
      have d4 := (HBW.out.cell (p := ⟨w.heap.size, 4, none⟩) HSZ.out).trans (show W.cell? ⟨w.heap.size, 4, none⟩ = some (.slice (some ⟨bn, on_, none⟩) ns.length nc) from HRG.out 4 _ rfl)
      have hkn : (k : Int) < (ns.length : Int) := by omega
      have hs1e : s1 = ⟨s1.data.toList.toArray⟩ := by cases s1; simp
      have cn1 := cat_any s1.data.toList [58] (by have h1 := HLEN.out; have h2 := HROOM.out; simp only [List.length_append, List.length_cons, List.length_nil] at h1 h2 ⊢; omega)
      rw [← hs1e] at cn1
      clear cn hs1 hnk hcn hs1e hnl
      clear hc hr hR hB2 hy
      by_cases hk0 : k = 0
      · subst hk0
        have HK0 : Hid ((0 : Nat) = 0) := Lib.hid rfl
        simp only [Nat.zero_mul, Nat.add_zero] at HR1
        simp only [Nat.add_zero] at dn
        have c2 := cat_any ([123] ++ J 0) (s1.data.toList ++ [58]) (by have h1 := HLEN.out; have h2 := HROOM.out; simp only [List.length_append, List.length_cons, List.length_nil, if_pos, if_true, HK0.out, if_false] at h1 h2 ⊢; omega)
        have c3 := cat_any (([123] ++ J 0) ++ (s1.data.toList ++ [58])) (tx 0) (by have h1 := HLEN.out; have h2 := HROOM.out; simp only [List.length_append, List.length_cons, List.length_nil, if_pos, if_true, HK0.out, if_false] at h1 h2 ⊢; omega)
        have HE : Hid ((⟨((([123] ++ J 0) ++ (s1.data.toList ++ [58])) ++ tx 0).toArray⟩ : ByteArray) = ⟨([123] ++ J (0 + 1)).toArray⟩) := Lib.hid (by rw [HJN.out]; simp [HK0.out])
        generalize ([123] ++ J 0).toArray = Q0 at *
        generalize (([123] ++ J 0) ++ (s1.data.toList ++ [58])).toArray = Q1 at *
        generalize ((([123] ++ J 0) ++ (s1.data.toList ++ [58])) ++ tx 0).toArray = Q2 at *
        generalize (s1.data.toList ++ [58]).toArray = QN at *
        generalize (tx 0).toArray = QT at *
        go_wp2_with (first | ((with_reducible refine wl_sload 26 _ rfl ?hwaf b o cs _ rfl HR1.out Tryz.underlying26 rfl ?hiaf ?_); (case hwaf => (first | exact wanted_none rfl | exact wanted_if rfl rfl rfl rfl)); (case hiaf => rw [HCL.out.1]; kernel_rfl)) | (go_at_call 12; refine HC.out.mono ?_; rintro e w' ⟨rfl, hb⟩; have HB2 := Lib.hid hb; clear hb))
        go_roundg q
        case measure => omega
        case rel => exact ⟨0 + 1, by omega, by go_num, congrArg Value.string HE.out, HBW.out.trans (HB2.out.mono HBW.out.size)⟩
      · have t1 : (0 : Int) < (k : Int) := by omega
        have HK0 := Lib.hid hk0
        have c1 := cat_any ([123] ++ J k) [44] (by have h1 := HLEN.out; have h2 := HROOM.out; simp only [List.length_append, List.length_cons, List.length_nil, if_pos, if_true, HK0.out, if_false] at h1 h2 ⊢; omega)
        have c2 := cat_any (([123] ++ J k) ++ [44]) (s1.data.toList ++ [58]) (by have h1 := HLEN.out; have h2 := HROOM.out; simp only [List.length_append, List.length_cons, List.length_nil, if_pos, if_true, HK0.out, if_false] at h1 h2 ⊢; omega)
        have c3 := cat_any ((([123] ++ J k) ++ [44]) ++ (s1.data.toList ++ [58])) (tx k) (by have h1 := HLEN.out; have h2 := HROOM.out; simp only [List.length_append, List.length_cons, List.length_nil, if_pos, if_true, HK0.out, if_false] at h1 h2 ⊢; omega)
        have HE : Hid ((⟨(((([123] ++ J k) ++ [44]) ++ (s1.data.toList ++ [58])) ++ tx k).toArray⟩ : ByteArray) = ⟨([123] ++ J (k + 1)).toArray⟩) := Lib.hid (by rw [HJN.out]; simp [HK0.out])
        generalize ([123] ++ J k).toArray = Q0 at *
        generalize (([123] ++ J k) ++ [44]).toArray = Q1 at *
        generalize ((([123] ++ J k) ++ [44]) ++ (s1.data.toList ++ [58])).toArray = Q2 at *
        generalize (((([123] ++ J k) ++ [44]) ++ (s1.data.toList ++ [58])) ++ tx k).toArray = Q3 at *
        generalize (s1.data.toList ++ [58]).toArray = QN at *
        generalize (tx k).toArray = QT at *
        go_wp2_with (first | ((with_reducible refine wl_sload 26 _ rfl ?hwan b (o + k * 6) cs _ rfl HR1.out Tryz.underlying26 rfl ?hian ?_); (case hwan => (first | exact wanted_none rfl | exact wanted_if rfl rfl rfl rfl)); (case hian => rw [HCL.out.1]; kernel_rfl)) | (go_at_call 12; refine HC.out.mono ?_; rintro e w' ⟨rfl, hb⟩; have HB2 := Lib.hid hb; clear hb))
        go_roundg q
        case measure => omega
        case rel => exact ⟨k + 1, by omega, by go_num, congrArg Value.string HE.out, HBW.out.trans (HB2.out.mono HBW.out.size)⟩
end Go.Proofs.YtieciegfloldhaaGreatDoor
