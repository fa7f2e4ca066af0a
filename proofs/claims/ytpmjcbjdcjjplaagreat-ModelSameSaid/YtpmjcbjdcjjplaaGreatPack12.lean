/- Parts of a proof: SmallV, ECnt, Par3, Prim, ParL. -/
import Derived.Test.YtpmjcbjdcjjplaaGreatPack9
section
namespace Go.Proofs.YtpmjcbjdcjjplaaGreat
open Go.RowKit
set_option linter.unusedVariables false
def SomeUpto (w : World) (e : Ending) (w' : World) : Prop := ∃ n : Int, 0 ≤ n ∧ n ≤ 500 ∧ e = .returned (.int .i64 n) ∧ Below w.heap.size w w'
set_option maxHeartbeats 1000000 in
theorem vdepth : ∀ (x : VT) (far : Nat) (cs : List Value) (w : World), far ≤ 40 → ValAt w w.heap.size cs x → Calls Tryz.prog 43 #[.agg ⟨cs⟩, .int .i64 far] w (SomeInt w) := by
  intro x
  induction x using VT.ind with
  | h k n f s ns its ih =>
    intro far cs w hfar hv
    obtain ⟨vn, vi, rfl, _, _, _, _, _, hil, hi⟩ := hv.inv
    obtain ⟨_, A, c, rfl, hA⟩ := hi
    have HA := Lib.hid hA
    have IH := Lib.hid ih
    unfold maxLen at hil
    clear hA hv ih
    go_enter Tryz.func43, Tryz.ntmps43
    go_upto_region 1 with (fail)
    have hb0 := box_below w (.cells ⟨[.int .i64 k, .int .i64 n, .float .f64 f, .string s, vn, .slice A its.length c]⟩ 38)
    have hz0 := box_size w (.cells ⟨[.int .i64 k, .int .i64 n, .float .f64 f, .string s, vn, .slice A its.length c]⟩ 38)
    have c5 := cell_box w ⟨[.int .i64 k, .int .i64 n, .float .f64 f, .string s, vn, .slice A its.length c]⟩ 38 5
    generalize w.alloc (.cells ⟨[.int .i64 k, .int .i64 n, .float .f64 f, .string s, vn, .slice A its.length c]⟩ 38) = W at *
    have HB := Lib.hid hb0
    have C5 := Lib.hid c5
    have HSZ := Lib.hid hz0
    clear hb0 c5 hz0
    go_wp2
    go_loopg [5, 6] its.length (fun g m i wr => ∃ (j : Nat) (x : Int), j + g = its.length ∧ i = .int .i64 j ∧ m = .int .i64 x ∧ Below W.heap.size W wr)
    case atStart => exact ⟨0, 0, by omega, rfl, rfl, Below.refl _ _⟩
    case round =>
      obtain ⟨j, x, hj, rfl, rfl, hb⟩ := hrel
      have HB1 := Lib.hid hb
      have d5 := (hb.cell (p := ⟨w.heap.size, 5, none⟩) HSZ.out).trans C5.out
      clear hb
      simp only [List.getElem?_toArray, List.getElem?_cons_succ, List.getElem?_cons_zero] at d5
      cases gk with
      | zero =>
        have hge : ¬ ((j : Int) < (its.length : Int)) := by omega
        go_wp2
        go_ret
        exact ⟨_, rfl, HB.out.trans (HB1.out.mono HB.out.size)⟩
      | succ g =>
        have hlt : (j : Int) < (its.length : Int) := by omega
        by_cases h0 : far = 0
        · subst h0
          go_wp2
          go_ret
          exact ⟨_, rfl, HB.out.trans (HB1.out.mono HB.out.size)⟩
        · have hpos : (0 : Int) < (far : Int) := by omega
          have hz2 : w.heap.size ≤ wr.heap.size := Nat.le_trans HB.out.size HB1.out.size
          obtain ⟨y, hy⟩ : ∃ y, its[j]? = some y := ⟨_, List.getElem?_eq_getElem (by omega)⟩
          obtain ⟨b, o, rfl, hbb, hc⟩ := HA.out (by omega)
          obtain ⟨cs, hcl, hr, hR⟩ := hc j y hy
          have hB2 := HB.out.trans (HB1.out.mono HB.out.size)
          have HR := Lib.hid (rangeAt_below hr hB2 hbb)
          have HC := Lib.hid (IH.out y (List.mem_of_getElem? hy) (far - 1) cs wr (by omega) ((hR.under hB2).more hB2.size))
          have HCL := Lib.hid hcl
          have hf1 : ((far - 1 : Nat) : Int) = (far : Int) - 1 := by omega
          clear hc hr hR hB2 hy hcl h0
          rw [hf1] at HC
          clear hf1
          go_wp2_with (first | (with_reducible refine wl_sload 38 _ rfl ?hw b (o + j * 6) cs _ rfl HR.out Tryz.underlying38 rfl ?hi ?_; (case hw => exact wantA rfl); (case hi => rw [HCL.out]; kernel_rfl)) | (go_at_call 43; refine HC.out.mono ?_; rintro e w' ⟨z, rfl, hb⟩; have HB2 := Lib.hid hb; clear hb))
          all_goals
            go_roundg g
            case measure => omega
            case rel => exact ⟨j + 1, _, by omega, by go_num, rfl, HB1.out.trans (HB2.out.mono HB1.out.size)⟩
set_option maxHeartbeats 1000000 in
theorem vcount : ∀ (x : VT) (m : Int) (cs : List Value) (w : World), 0 ≤ m → m < 500 → ValAt w w.heap.size cs x → Calls Tryz.prog 60 #[.agg ⟨cs⟩, .int .i64 m] w (SomeUpto w) := by
  intro x
  induction x using VT.ind with
  | h k n f s ns its ih =>
    intro m cs w hm0 hm1 hv
    obtain ⟨vn, vi, rfl, _, _, _, _, _, hil, hi⟩ := hv.inv
    obtain ⟨_, A, c, rfl, hA⟩ := hi
    have HA := Lib.hid hA
    have IH := Lib.hid ih
    unfold maxLen at hil
    clear hA hv ih
    go_enter Tryz.func60, Tryz.ntmps60
    go_upto_region 1 with (fail)
    have hb0 := box_below w (.cells ⟨[.int .i64 k, .int .i64 n, .float .f64 f, .string s, vn, .slice A its.length c]⟩ 38)
    have hz0 := box_size w (.cells ⟨[.int .i64 k, .int .i64 n, .float .f64 f, .string s, vn, .slice A its.length c]⟩ 38)
    have c5 := cell_box w ⟨[.int .i64 k, .int .i64 n, .float .f64 f, .string s, vn, .slice A its.length c]⟩ 38 5
    generalize w.alloc (.cells ⟨[.int .i64 k, .int .i64 n, .float .f64 f, .string s, vn, .slice A its.length c]⟩ 38) = W at *
    have HB := Lib.hid hb0
    have C5 := Lib.hid c5
    have HSZ := Lib.hid hz0
    clear hb0 c5 hz0
    go_wp2
    go_loopg [1, 5] its.length (fun g u i wr => ∃ (j : Nat) (x : Int), j + g = its.length ∧ i = .int .i64 j ∧ u = .int .i64 x ∧ 0 ≤ x ∧ x ≤ 500 ∧ Below W.heap.size W wr)
    case atStart => exact ⟨0, m + 1, by omega, rfl, rfl, by omega, by omega, Below.refl _ _⟩
    case round =>
      obtain ⟨j, x, hj, rfl, rfl, hx0, hx1, hb⟩ := hrel
      have HB1 := Lib.hid hb
      have d5 := (hb.cell (p := ⟨w.heap.size, 5, none⟩) HSZ.out).trans C5.out
      clear hb
      simp only [List.getElem?_toArray, List.getElem?_cons_succ, List.getElem?_cons_zero] at d5
      cases gk with
      | zero =>
        have hge : ¬ ((j : Int) < (its.length : Int)) := by omega
        go_wp2
        all_goals
          go_ret
          exact ⟨_, by omega, by omega, rfl, HB.out.trans (HB1.out.mono HB.out.size)⟩
      | succ g =>
        have hlt : (j : Int) < (its.length : Int) := by omega
        by_cases h0 : x < 500
        · have hz2 : w.heap.size ≤ wr.heap.size := Nat.le_trans HB.out.size HB1.out.size
          obtain ⟨y, hy⟩ : ∃ y, its[j]? = some y := ⟨_, List.getElem?_eq_getElem (by omega)⟩
          obtain ⟨b, o, rfl, hbb, hc⟩ := HA.out (by omega)
          obtain ⟨cs, hcl, hr, hR⟩ := hc j y hy
          have hB2 := HB.out.trans (HB1.out.mono HB.out.size)
          have HR := Lib.hid (rangeAt_below hr hB2 hbb)
          have HC := Lib.hid (IH.out y (List.mem_of_getElem? hy) x cs wr hx0 h0 ((hR.under hB2).more hB2.size))
          have HCL := Lib.hid hcl
          clear hc hr hR hB2 hy hcl
          go_wp2_with (first | (with_reducible refine wl_sload 38 _ rfl ?hw b (o + j * 6) cs _ rfl HR.out Tryz.underlying38 rfl ?hi ?_; (case hw => exact wantA rfl); (case hi => rw [HCL.out]; kernel_rfl)) | (go_at_call 60; refine HC.out.mono ?_; rintro e w' ⟨z, hz0, hz1, rfl, hb⟩; have HB2 := Lib.hid hb; clear hb))
          go_roundg g
          case measure => omega
          case rel => exact ⟨j + 1, _, by omega, by go_num, rfl, hz0, hz1, HB1.out.trans (HB2.out.mono HB1.out.size)⟩
        · go_wp2
          all_goals
            go_ret
            exact ⟨_, by omega, by omega, rfl, HB.out.trans (HB1.out.mono HB.out.size)⟩
theorem vlen {w : World} {B : Nat} {cs : List Value} {x : VT} (h : ValAt w B cs x) : cs.length = 6 := by
  cases h; rfl
set_option maxHeartbeats 1000000 in
theorem vparts (x : VT) (cs : List Value) (w : World) (hv : ValAt w w.heap.size cs x) : Calls Tryz.prog 44 #[.agg ⟨cs⟩] w (SomeUpto w) := by
  have HCL := Lib.hid (vlen hv)
  have HV := Lib.hid hv
  clear hv
  go_enter Tryz.func44, Tryz.ntmps44
  go_upto_region 1 with (fail)
  have HB := Lib.hid (box_below w (.cells ⟨cs⟩ 38))
  have HR := Lib.hid (range_box w cs 38)
  generalize w.alloc (.cells ⟨cs⟩ 38) = W at *
  have HC := Lib.hid (vcount x 0 cs W (by omega) (by omega) ((HV.out.under HB.out).more HB.out.size))
  go_wp2_with (first | (with_reducible refine wl_sload 38 _ rfl ?hw w.heap.size 0 cs _ rfl HR.out Tryz.underlying38 rfl ?hi ?_; (case hw => exact wantA rfl); (case hi => rw [HCL.out]; kernel_rfl)) | (go_at_call 60; refine HC.out.mono ?_; rintro e w' ⟨z, hz0, hz1, rfl, hb⟩; have HB2 := Lib.hid hb; clear hb))
  go_ret
  exact ⟨z, hz0, hz1, rfl, HB.out.trans (HB2.out.mono HB.out.size)⟩
set_option maxHeartbeats 1000000 in
theorem vsmall (x : VT) (cs : List Value) (w : World) (hv : ValAt w w.heap.size cs x) : Calls Tryz.prog 15 #[.agg ⟨cs⟩] w (SomeBool w) := by
  have HCL := Lib.hid (vlen hv)
  have HV := Lib.hid hv
  clear hv
  go_enter Tryz.func15, Tryz.ntmps15
  go_upto_region 1 with (fail)
  have HB := Lib.hid (box_below w (.cells ⟨cs⟩ 38))
  have HR := Lib.hid (range_box w cs 38)
  have HSZ := Lib.hid (box_size w (.cells ⟨cs⟩ 38))
  generalize w.alloc (.cells ⟨cs⟩ 38) = W at *
  have HC := Lib.hid (vdepth x 40 cs W (by omega) ((HV.out.under HB.out).more HB.out.size))
  go_wp2_with (first | (with_reducible refine wl_sload 38 _ rfl ?hw w.heap.size 0 cs _ rfl HR.out Tryz.underlying38 rfl ?hi ?_; (case hw => exact wantA rfl); (case hi => rw [HCL.out]; kernel_rfl)) | (go_at_call 43; fail))
  refine HC.out.mono ?_
  rintro e w2 ⟨z, rfl, hb⟩
  have HB2 := Lib.hid (HB.out.trans (hb.mono HB.out.size))
  have HR2 := Lib.hid (rangeAt_below HR.out hb HSZ.out)
  have HC2 := Lib.hid (vparts x cs w2 ((HV.out.under HB2.out).more HB2.out.size))
  clear hb HC
  by_cases hz : z ≤ 30
  · go_wp2_with (first | (with_reducible refine wl_sload 38 _ rfl ?hw w.heap.size 0 cs _ rfl HR2.out Tryz.underlying38 rfl ?hi ?_; (case hw => exact wantA rfl); (case hi => rw [HCL.out]; kernel_rfl)) | (go_at_call 44; refine HC2.out.mono ?_; rintro e w' ⟨y, hy0, hy1, rfl, hb⟩; have HB3 := Lib.hid hb; clear hb))
    all_goals
      go_ret
      exact ⟨_, rfl, HB2.out.trans (HB3.out.mono HB2.out.size)⟩
  · go_wp2
    all_goals
      go_ret
      exact ⟨_, rfl, HB2.out⟩
end Go.Proofs.YtpmjcbjdcjjplaaGreat
end
section
namespace Go.Proofs.YtpmjcbjdcjjplaaGreat
open Go Go.RowKit
set_option linter.unusedVariables false
set_option linter.unusedSimpArgs false
mutual
def cntE : ET → Nat → Nat
  | .mk _ _ _ _ its, n => cntEL its (n + 1)
def cntEL : List ET → Nat → Nat
  | [], n => n
  | a :: l, n => if 500 ≤ n then n else cntEL l (cntE a n)
end
theorem cntEL_le : ∀ (l : List ET) (n : Nat), (∀ x ∈ l, ∀ m, m < 500 → cntE x m ≤ 500) → n ≤ 500 → cntEL l n ≤ 500
  | [], n, _, h => by rw [cntEL]; exact h
  | a :: l, n, h, hn => by
    rw [cntEL]
    by_cases h5 : 500 ≤ n
    · rw [if_pos h5]; exact hn
    · rw [if_neg h5]; exact cntEL_le l _ (fun x hx => h x (List.mem_cons_of_mem _ hx)) (h a (List.mem_cons_self ..) n (by omega))
theorem cntE_le (t : ET) : ∀ m, m < 500 → cntE t m ≤ 500 := by
  induction t using ET.ind with
  | h k s v ns its ih => exact fun m hm => by rw [cntE]; exact cntEL_le its _ ih (by omega)
theorem edrop_at {l : List ET} {k : Nat} {x : ET} (h : l[k]? = some x) : l.drop k = x :: l.drop (k + 1) := by
  obtain ⟨h1, h2⟩ := List.getElem?_eq_some_iff.1 h
  rw [List.drop_eq_getElem_cons h1, h2]
theorem cntEL_step {l : List ET} {k m : Nat} {x : ET} (h : l[k]? = some x) : cntEL (l.drop k) m = if 500 ≤ m then m else cntEL (l.drop (k + 1)) (cntE x m) := by
  rw [edrop_at h, cntEL]
theorem cntEL_end {l : List ET} {m : Nat} : cntEL (l.drop l.length) m = m := by
  rw [List.drop_eq_nil_of_le (Nat.le_refl _), cntEL]
theorem eslen {w : World} {B : Nat} {cs : List Value} {x : ET} (h : ExpAt w B cs x) : cs.length = 10 := by
  cases h; rfl
set_option maxHeartbeats 1000000 in
set_option maxRecDepth 100000 in
theorem recount_any : ∀ (t : ET) (m : Nat) (cs : List Value) (w : World), m < 500 → ExpAt w w.heap.size cs t →
    Calls Tryz.prog 61 #[.agg ⟨cs⟩, .int .i64 m] w fun e w' => e = .returned (.int .i64 (cntE t m : Nat)) ∧ Below w.heap.size w w' := by
  intro t
  induction t using ET.ind with
  | h k s t ns its ih =>
    intro m cs w hm hv
    have IH := Lib.hid ih
    obtain ⟨v0, v1, v2, v3, v4, v5, vn, vi, rfl, _, _, _, _, hil, hi⟩ := hv.inv
    obtain ⟨_, A, c, rfl, hA⟩ := hi
    unfold maxLen at hil
    have HA := Lib.hid hA
    have HS := Lib.hid (fun k m x => cntEL_step (l := its) (k := k) (m := m) (x := x))
    have HE := Lib.hid (fun m => cntEL_end (l := its) (m := m))
    have HLE := Lib.hid (fun x m hm => cntE_le x m hm)
    have HCE : Hid (∀ k m, 500 ≤ m → cntEL (its.drop k) m = m) := Lib.hid (fun k m h => by
      cases its.drop k with
      | nil => rw [cntEL]
      | cons a l => rw [cntEL, if_pos h])
    have H0 : Hid (cntEL (its.drop 0) (m + 1) = cntE (.mk k s t ns its) m) := Lib.hid (by rw [cntE]; rfl)
    clear ih hA hv
    generalize cntE (.mk k s t ns its) m = res at *
    go_enter Tryz.func61, Tryz.ntmps61
    go_upto_region 1 with (fail)
    have hb0 := box_below w (.cells ⟨[.int .i64 k, .string s, v0, v1, v2, v3, v4, v5, vn, .slice A its.length c]⟩ 40)
    have hz0 := box_size w (.cells ⟨[.int .i64 k, .string s, v0, v1, v2, v3, v4, v5, vn, .slice A its.length c]⟩ 40)
    have c5 := cell_box w ⟨[.int .i64 k, .string s, v0, v1, v2, v3, v4, v5, vn, .slice A its.length c]⟩ 40 9
    generalize w.alloc (.cells ⟨[.int .i64 k, .string s, v0, v1, v2, v3, v4, v5, vn, .slice A its.length c]⟩ 40) = W at *
    have HB := Lib.hid hb0
    have C5 := Lib.hid c5
    have HSZ := Lib.hid hz0
    clear hb0 c5 hz0
    have hm2 : (m : Int) < 500 := by omega
    go_wp2
    go_loopg [1, 5] its.length (fun g u i wr => ∃ (j m : Nat), j + g = its.length ∧ i = .int .i64 j ∧ u = .int .i64 m ∧ m ≤ 500 ∧ Below W.heap.size W wr ∧ cntEL (its.drop j) m = res)
    case atStart => exact ⟨0, m + 1, by omega, rfl, by go_num, by omega, Below.refl _ _, H0.out⟩
    case round =>
      obtain ⟨j, m, hj, rfl, rfl, hm5, hb, hres⟩ := hrel
      have HB1 := Lib.hid hb
      have HR := Lib.hid hres
      have d5 := (hb.cell (p := ⟨w.heap.size, 9, none⟩) HSZ.out).trans C5.out
      clear hb hres
      simp only [List.getElem?_toArray, List.getElem?_cons_succ, List.getElem?_cons_zero] at d5
      have hm5' : (m : Int) ≤ 500 := by omega
      cases gk with
      | zero =>
        obtain rfl : j = its.length := by omega
        have hge : ¬ ((its.length : Int) < (its.length : Int)) := by omega
        have HV := Lib.hid (HR.out.symm.trans (HE.out m))
        go_wp2
        go_ret
        exact ⟨by rw [HV.out]; go_num, HB.out.trans (HB1.out.mono HB.out.size)⟩
      | succ g =>
        have hlt : (j : Int) < (its.length : Int) := by omega
        by_cases h0 : m < 500
        · have hz2 : w.heap.size ≤ wr.heap.size := Nat.le_trans HB.out.size HB1.out.size
          obtain ⟨y, hy⟩ : ∃ y, its[j]? = some y := ⟨_, List.getElem?_eq_getElem (by omega)⟩
          obtain ⟨b, o, rfl, hbb, hc⟩ := HA.out (by omega)
          obtain ⟨cs, hcl, hr, hR⟩ := hc j y hy
          have hB2 := HB.out.trans (HB1.out.mono HB.out.size)
          have HV := Lib.hid (HR.out.symm.trans (HS.out j m y hy))
          have HV2 := Lib.hid (HV.out.trans (if_neg (by omega)))
          have HR1 := Lib.hid (rangeAt_below hr hB2 hbb)
          have HC := Lib.hid (IH.out y (List.mem_of_getElem? hy) m cs wr h0 ((hR.under hB2).more hB2.size))
          have HCL := Lib.hid hcl
          have hle := HLE.out y m h0
          have h0' : (m : Int) < 500 := by omega
          clear hc hr hR hB2 hy HV h0
          go_wp2_with (first | ((with_reducible refine wl_sload 40 _ rfl ?hwa b (o + j * 10) cs _ rfl HR1.out Tryz.underlying40 rfl ?hia ?_); (case hwa => (exact wantA rfl)); (case hia => rw [HCL.out]; kernel_rfl)) | (go_at_call 61; refine HC.out.mono ?_; rintro e w' ⟨rfl, hb⟩; have HB2 := Lib.hid hb; clear hb))
          go_roundg g
          case measure => omega
          case rel => exact ⟨j + 1, _, by omega, by go_num, rfl, hle, HB1.out.trans (HB2.out.mono HB1.out.size), HV2.out.symm⟩
        · have HV := Lib.hid (HR.out.symm.trans (HCE.out j m (by omega)))
          have h0' : ¬ ((m : Int) < 500) := by omega
          have hm500 : m = 500 := by omega
          go_wp2
          all_goals
            go_ret
            exact ⟨by rw [HV.out, hm500]; rfl, HB.out.trans (HB1.out.mono HB.out.size)⟩
set_option maxHeartbeats 1000000 in
theorem reparts_any (t : ET) (cs : List Value) (w : World) (hv : ExpAt w w.heap.size cs t) : Calls Tryz.prog 46 #[.agg ⟨cs⟩] w fun e w' => e = .returned (.int .i64 (cntE t 0 : Nat)) ∧ Below w.heap.size w w' := by
  have HCL := Lib.hid (eslen hv)
  have HV := Lib.hid hv
  clear hv
  go_enter Tryz.func46, Tryz.ntmps46
  go_upto_region 1 with (fail)
  have HB := Lib.hid (box_below w (.cells ⟨cs⟩ 40))
  have HR := Lib.hid (range_box w cs 40)
  generalize w.alloc (.cells ⟨cs⟩ 40) = W at *
  have HC := Lib.hid (recount_any t 0 cs W (by omega) ((HV.out.under HB.out).more HB.out.size))
  go_wp2_with (first | ((with_reducible refine wl_sload 40 _ rfl ?hwa w.heap.size 0 cs _ rfl HR.out Tryz.underlying40 rfl ?hia ?_); (case hwa => (exact wantA rfl)); (case hia => rw [HCL.out]; kernel_rfl)) | (go_at_call 61; refine HC.out.mono ?_; rintro e w' ⟨rfl, hb⟩; have HB2 := Lib.hid hb; clear hb))
  go_ret
  exact ⟨rfl, HB.out.trans (HB2.out.mono HB.out.size)⟩
end Go.Proofs.YtpmjcbjdcjjplaaGreat
end
section
namespace Go.Proofs.YtpmjcbjdcjjplaaGreat
open Go Go.RowKit
set_option linter.unusedVariables false
set_option linter.unusedSimpArgs false
abbrev valC (k n : Int) (f : Nat) (s : ByteArray) : List Value := [.int .i64 k, .int .i64 n, .float .f64 f, .string s, .slice none 0 0, .slice none 0 0]
end Go.Proofs.YtpmjcbjdcjjplaaGreat
end
section
namespace Go.Proofs.YtpmjcbjdcjjplaaGreat
open Go Go.RowKit
set_option linter.unusedVariables false
set_option linter.unusedSimpArgs false
section
variable {P : Program} {ops : Array Oper} {S : World → Prop} {Q : Exit → Act → World → Prop} {i : Nat} {r : List (Nat × Bool)} {o : Oper} {a : Act} {w : World}
end
theorem Whole.cells {T : TypeId} {w : World} {b : Nat} {cs : List Value} (h : Whole T w b cs) (k : Nat) {v : Value} (hv : cs[k]? = some v) : w.cell? ⟨b, k, none⟩ = some v := by
  have := h.range k v hv
  rwa [Nat.zero_add] at this
theorem PS.under {T : TypeId} {pb tb c : Nat} {E : Int} {toks : List Tok} {w w' : World} {i : Nat} {d : Int} (h : PS T pb tb c E toks w i d) (b : Nat) (hp : b ≠ pb) (ht : b ≠ tb) (hb : But w w' b b) : PS T pb tb c E toks w' i d :=
  ⟨(hb.block pb h.lt.2 (Ne.symm hp) (Ne.symm hp)).trans h.blk, h.ne, ⟨Nat.lt_of_lt_of_le h.lt.1 hb.size, Nat.lt_of_lt_of_le h.lt.2 hb.size⟩, fun j t hj a v hv => (hb.cell h.lt.1 (Ne.symm ht) (Ne.symm ht)).trans (h.tok j t hj a v hv), h.len⟩
section
variable {pb tb c : Nat} {E : Int} {toks : List Tok} {w : World} {i : Nat} {d : Int}
end
end Go.Proofs.YtpmjcbjdcjjplaaGreat
end
section
namespace Go.Proofs.YtpmjcbjdcjjplaaGreat
open Go Go.RowKit
set_option linter.unusedVariables false
set_option linter.unusedSimpArgs false
def KeptP (p : Nat → Prop) (w : World) (cs : List Value) (t : ET) : Prop := ExpAt (only w p) w.heap.size cs t
theorem KeptP.exp {p : Nat → Prop} {w : World} {cs : List Value} {t : ET} (h : KeptP p w cs t) : ExpAt w w.heap.size cs t := ExpAt.cells h fun a v hv => (only_cell.1 hv).2
theorem KeptP.to {p q : Nat → Prop} {w w' : World} {cs : List Value} {t : ET} (h : KeptP p w cs t) (hb : ∀ b, p b → b < w.heap.size → q b ∧ w'.heap[b]? = w.heap[b]?) (hs : w.heap.size ≤ w'.heap.size) : KeptP q w' cs t :=
  (ExpAt.cells h (only_to hb)).more hs
theorem KeptP.one {p : Nat → Prop} {w : World} {cs : List Value} {t : ET} (h : KeptP p w cs t) : ∀ v ∈ cs, v.oneCell' = true := ExpAt.one h
theorem KeptP.len {p : Nat → Prop} {w : World} {cs : List Value} {t : ET} (h : KeptP p w cs t) : cs.length = 10 := by
  cases t with
  | mk k s v ns its =>
    obtain ⟨c0, c1, c2, c3, c4, c5, vn, vi, rfl, _⟩ := ExpAt.inv h
    rfl
section
variable (pb tb c : Nat) (E : Int) (toks : List Tok)
variable {pb tb c E toks}
end
end Go.Proofs.YtpmjcbjdcjjplaaGreat
end
