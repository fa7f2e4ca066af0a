/- law04.awake. -/
import Derived.Test.YtieciegfloldhaaGreatDoorVMk
namespace Go.Proofs.YtieciegfloldhaaGreatDoor
open Go Go.RowKit
set_option linter.unusedVariables false

theorem cellsOfV_ones (k n : Int) (f : Nat) (s : ByteArray) (A D : Option Addr) (m c : Nat × Nat) : ∀ u ∈ cellsOfV k n f s (.slice A m.1 m.2) (.slice D c.1 c.2), u.oneCell' = true := by
  intro u hu
  simp only [cellsOfV, List.mem_cons, List.not_mem_nil, or_false] at hu
  rcases hu with rfl | rfl | rfl | rfl | rfl | rfl <;> rfl
theorem there_next {w w' : World} {b o n B : Nat} (h : w.there b o n) (hb : Below B w w') (hB : b < B) : w'.there b o n := fun j hj => by
  have := h j hj
  rw [← World.cell?_of_block (a := ⟨b, o + j, none⟩) (hb.block b hB), ← World.frozen?_of_block (a := ⟨b, o + j, none⟩) (hb.block b hB)] at this
  exact this
theorem heap_setsV (b k : Nat) (hk : k ≠ b) : ∀ (cs : List Value) (w : World) (i : Nat), (w.setCells b i cs).heap[k]? = w.heap[k]?
  | [], _, _ => rfl
  | v :: cs, w, i => by
    show ((w.setCell ⟨b, i, none⟩ v).setCells b (i + 1) cs).heap[k]? = _
    rw [heap_setsV b k hk cs]
    exact Below.heap_setCell w ⟨b, i, none⟩ v k hk
theorem there_sets {w : World} {b k n : Nat} (h : w.there k 0 n) (hk : k ≠ b) (cs : List Value) : (w.setCells b 0 cs).there k 0 n := fun j hj => by
  have := h j hj
  rw [← World.cell?_of_block (a := ⟨k, 0 + j, none⟩) (heap_setsV b k hk cs w 0), ← World.frozen?_of_block (a := ⟨k, 0 + j, none⟩) (heap_setsV b k hk cs w 0)] at this
  exact this
theorem range_sets {w : World} {b k : Nat} {ks : List Value} (h : w.rangeAt k 0 ks) (hk : k ≠ b) (cs : List Value) : (w.setCells b 0 cs).rangeAt k 0 ks := fun j v hv =>
  (World.cell?_of_block (a := ⟨k, 0 + j, none⟩) (heap_setsV b k hk cs w 0)).trans (h j v hv)
theorem three_there (w : World) (A B : Obj) (z : Array Value) (T : TypeId) (cs : List Value) (h : cs.length = z.size) : (((w.alloc A).alloc B).alloc (.cells z T)).there (w.heap.size + 1 + 1) 0 cs.length := by
  have hs : ((w.alloc A).alloc B).heap.size = w.heap.size + 1 + 1 := by simp
  have hq := there_box ((w.alloc A).alloc B) z T
  rw [hs, ← h] at hq
  exact hq
theorem two_there (w : World) (z : Array Value) (T : TypeId) (cs1 cs2 : List Value) (h1 : cs1.length = z.size) (h2 : cs2.length = z.size) :
    ((w.alloc (.cells z T)).alloc (.cells z T)).there w.heap.size 0 cs1.length ∧ (((w.alloc (.cells z T)).alloc (.cells z T)).setCells w.heap.size 0 cs1).there (w.heap.size + 1) 0 cs2.length := by
  have hs : (w.alloc (.cells z T)).heap.size = w.heap.size + 1 := by simp
  rw [h1, h2]
  refine ⟨there_next (there_box w z T) (box_below _ _) (box_size w _), there_sets ?_ (by omega) _⟩
  have hq := there_box (w.alloc (.cells z T)) z T
  rw [hs] at hq
  exact hq
theorem mk_num' (n : Int) (w : World) : Calls Tryz.prog 23 #[.int .i64 n] w fun e w' => e = .returned (.agg #[.int .i64 2, .int .i64 n, .float .f64 0, .string ⟨#[]⟩, .slice none 0 0, .slice none 0 0]) ∧ Below w.heap.size w w' := mk_num n w
theorem mk_str' (s : ByteArray) (w : World) : Calls Tryz.prog 24 #[.string s] w fun e w' => e = .returned (.agg #[.int .i64 4, .int .i64 0, .float .f64 0, .string s, .slice none 0 0, .slice none 0 0]) ∧ Below w.heap.size w w' := mk_str s w
def tNan : VT := (VT.mk 3 0 9221120237041090561 ⟨#[]⟩ [] [])
def tMz : VT := (VT.mk 3 0 9223372036854775808 ⟨#[]⟩ [] [])
def tZero : VT := (VT.mk 3 0 0 ⟨#[]⟩ [] [])
def tRec : VT := (VT.mk 6 0 0 ⟨#[]⟩ [⟨#[97]⟩] [(VT.mk 5 0 0 ⟨#[]⟩ [] [(VT.mk 2 1 0 ⟨#[]⟩ [] []), (VT.mk 4 0 0 ⟨#[120]⟩ [] [])])])
theorem eq_nan : eqV tNan tNan = false := by
  have h : (fOrd 9221120237041090561 9221120237041090561 == some .eq) = false := by decide +kernel
  simp [tNan, eqV, h]
theorem same_nan : (ordV tNan tNan == 0) = true := by
  have h : cmpF 9221120237041090561 9221120237041090561 = 0 := cmpF_good.refl _
  simp [tNan, ordV, cmpI, rowV, leafK, h]
theorem eq_mz : eqV tZero tMz = true := by
  have h : (fOrd 0 9223372036854775808 == some .eq) = true := by decide +kernel
  simp [tZero, tMz, eqV, h]
theorem same_mz : (ordV tZero tMz == 0) = false := by
  have h : cmpF 0 9223372036854775808 = 1 := by decide +kernel
  simp [tZero, tMz, ordV, cmpI, rowV, leafK, h]
theorem ord_two : ordV (VT.mk 2 2 0 ⟨#[]⟩ [] []) (VT.mk 3 0 4607182418800017408 ⟨#[]⟩ [] []) = -1 := by simp [ordV, cmpI]
theorem wf_i (n : Int) (h : (Lit.int .i64 n).wf = true) : wfI n := h
theorem sub_range {w : World} {b : Nat} {l r : List Value} (h : w.rangeAt b 0 (l ++ r)) : w.rangeAt b 0 l ∧ w.rangeAt b l.length r := by
  refine ⟨fun j v hv => h j v (by rw [List.getElem?_append_left (List.getElem?_eq_some_iff.1 hv).1]; exact hv), fun j v hv => ?_⟩
  have := h (l.length + j) v (by rw [List.getElem?_append_right (by omega), show l.length + j - l.length = j by omega]; exact hv)
  rw [Nat.zero_add] at this
  exact this
theorem rec_val (W : World) (b3 b5 b6 : Nat) (h3 : W.cell? ⟨b3, 0, none⟩ = some (.string ⟨#[97]⟩)) (h5 : W.rangeAt b5 0 (cellsOfV 2 1 0 ⟨#[]⟩ (.slice none 0 0) (.slice none 0 0) ++ cellsOfV 4 0 0 ⟨#[120]⟩ (.slice none 0 0) (.slice none 0 0)))
    (h6 : W.rangeAt b6 0 (cellsOfV 5 0 0 ⟨#[]⟩ (.slice none 0 0) (.slice (some ⟨b5, 0, none⟩) 2 2))) (l3 : b3 < W.heap.size) (l5 : b5 < W.heap.size) (l6 : b6 < W.heap.size) :
    ValAt W W.heap.size (cellsOfV 6 0 0 ⟨#[]⟩ (.slice (some ⟨b3, 0, none⟩) 1 1) (.slice (some ⟨b6, 0, none⟩) 1 1)) tRec := by
  have hf : (Lit.float .f64 0).wf = true := by decide +kernel
  obtain ⟨h51, h52⟩ := sub_range h5
  have hnum : ValAt W W.heap.size (cellsOfV 2 1 0 ⟨#[]⟩ (.slice none 0 0) (.slice none 0 0)) (VT.mk 2 1 0 ⟨#[]⟩ [] []) := plain_at W _ 2 1 0 ⟨#[]⟩ (wf_i 2 (by decide +kernel)) (wf_i 1 (by decide +kernel)) hf (Nat.zero_le _)
  have hx : ValAt W W.heap.size (cellsOfV 4 0 0 ⟨#[120]⟩ (.slice none 0 0) (.slice none 0 0)) (VT.mk 4 0 0 ⟨#[120]⟩ [] []) := plain_at W _ 4 0 0 ⟨#[120]⟩ (wf_i 4 (by decide +kernel)) (wf_i 0 (by decide +kernel)) hf (by unfold maxLen; decide)
  have hl : ValAt W W.heap.size (cellsOfV 5 0 0 ⟨#[]⟩ (.slice none 0 0) (.slice (some ⟨b5, 0, none⟩) 2 2)) (VT.mk 5 0 0 ⟨#[]⟩ [] [(VT.mk 2 1 0 ⟨#[]⟩ [] []), (VT.mk 4 0 0 ⟨#[120]⟩ [] [])]) :=
    ValAt.of (wf_i 5 (by decide +kernel)) (wf_i 0 (by decide +kernel)) hf (Nat.zero_le _) (SlAt.nil W _ 1 _) (by unfold maxLen; decide) ⟨by decide, _, _, rfl, fun _ => ⟨b5, 0, rfl, l5, fun i x hi => by
      match i, hi with
      | 0, hi => injection hi with hi; subst hi; exact ⟨_, rfl, h51, hnum⟩
      | 1, hi => injection hi with hi; subst hi; exact ⟨_, rfl, h52, hx⟩⟩⟩
  refine ValAt.of (wf_i 6 (by decide +kernel)) (wf_i 0 (by decide +kernel)) hf (Nat.zero_le _) ⟨by decide, _, _, rfl, fun _ => ⟨b3, 0, rfl, l3, fun i x hi => ?_⟩⟩ (by unfold maxLen; decide) ⟨by decide, _, _, rfl, fun _ => ⟨b6, 0, rfl, l6, fun i x hi => ?_⟩⟩
  · match i, hi with
    | 0, hi =>
      injection hi with hi; subst hi
      exact ⟨[.string ⟨#[97]⟩], rfl, fun j v hv => by
        match j, hv with
        | 0, hv => injection hv with hv; subst hv; exact h3, rfl, by show (1 : Nat) ≤ _; unfold maxLen; decide⟩
  · match i, hi with
    | 0, hi => injection hi with hi; subst hi; exact ⟨_, rfl, h6, hl⟩
theorem three_vals (w : World) (A B : List Value) (z : Array Value) (T : TypeId) (cs : List Value) (h : cs.length = z.size) :
    ((((w.alloc (.cells ⟨A⟩ T)).alloc (.cells ⟨B⟩ T)).alloc (.cells z T)).setCells (w.heap.size + 1 + 1) 0 cs).rangeAt w.heap.size 0 A ∧ ((((w.alloc (.cells ⟨A⟩ T)).alloc (.cells ⟨B⟩ T)).alloc (.cells z T)).setCells (w.heap.size + 1 + 1) 0 cs).rangeAt (w.heap.size + 1) 0 B ∧
    ((((w.alloc (.cells ⟨A⟩ T)).alloc (.cells ⟨B⟩ T)).alloc (.cells z T)).setCells (w.heap.size + 1 + 1) 0 cs).rangeAt (w.heap.size + 1 + 1) 0 cs ∧ Below w.heap.size w ((((w.alloc (.cells ⟨A⟩ T)).alloc (.cells ⟨B⟩ T)).alloc (.cells z T)).setCells (w.heap.size + 1 + 1) 0 cs) ∧
    w.heap.size + 1 + 1 < ((((w.alloc (.cells ⟨A⟩ T)).alloc (.cells ⟨B⟩ T)).alloc (.cells z T)).setCells (w.heap.size + 1 + 1) 0 cs).heap.size := by
  have s1 : (w.alloc (.cells ⟨A⟩ T)).heap.size = w.heap.size + 1 := by simp
  have s2 : ((w.alloc (.cells ⟨A⟩ T)).alloc (.cells ⟨B⟩ T)).heap.size = w.heap.size + 1 + 1 := by simp
  have b2 := box_below ((w.alloc (.cells ⟨A⟩ T)).alloc (.cells ⟨B⟩ T)) (.cells z T)
  have b1 := (box_below (w.alloc (.cells ⟨A⟩ T)) (.cells ⟨B⟩ T)).trans (b2.mono (by omega))
  have b0 := (box_below w (.cells ⟨A⟩ T)).trans (b1.mono (by omega))
  refine ⟨range_sets (rangeAt_below (range_box w A T) b1 (by omega)) (by omega) _, range_sets (rangeAt_below (s1 ▸ range_box (w.alloc (.cells ⟨A⟩ T)) B T) b2 (by omega)) (by omega) _, World.rangeAt_setCells_same _ _ _ _ (three_there w _ _ z T cs h), below_sets b0 (by omega) _ 0, ?_⟩
  rw [size_sets]
  simp
theorem text_rec1 : TextC tRec [123, 97, 58, 91, 49, 44, 34, 120, 34, 93, 125] := by
  have hd : Lib.decDigits 1 = [49] := by decide +kernel
  have h1 : TextC (VT.mk 2 1 0 ⟨#[]⟩ [] []) [49] := by have := text_int 1 (by decide) 0 ⟨#[]⟩ [] []; rw [hd] at this; exact this
  have h2 := text_x 0 0 [] []
  have h3 := text_list 0 0 ⟨#[]⟩ [] [(VT.mk 2 1 0 ⟨#[]⟩ [] []), (VT.mk 4 0 0 ⟨#[120]⟩ [] [])] (fun i => if i = 0 then [49] else [34, 120, 34]) (fun _ => []) (fun _ => rfl) (fun i x hx => by
    match i, hx with
    | 0, hx => injection hx with hx; subst hx; exact h1
    | 1, hx => injection hx with hx; subst hx; exact h2)
  exact text_rec 0 0 ⟨#[]⟩ [⟨#[97]⟩] [(VT.mk 5 0 0 ⟨#[]⟩ [] [(VT.mk 2 1 0 ⟨#[]⟩ [] []), (VT.mk 4 0 0 ⟨#[120]⟩ [] [])])] (fun _ => [91, 49, 44, 34, 120, 34, 93]) (fun _ => [97, 58]) rfl (fun i s1 hs => by
    match i, hs with
    | 0, hs => injection hs with hs; subst hs; rfl) (fun i x hx => by
    match i, hx with
    | 0, hx => injection hx with hx; subst hx; exact h3)
theorem rec_right : (decide (cntV tRec 0 ≤ 200) && rightV tRec 1) = true := by
  have h0 : cmpF 0 0 = 0 := cmpF_good.refl 0
  have h1 : (⟨#[]⟩ : ByteArray).toList = [] := by rw [toList_eq]
  have h2 : nameB ⟨#[97]⟩ = true := by decide +kernel
  have h3 : (⟨#[120]⟩ : ByteArray).size = 1 := rfl
  simp [tRec, cntV, cntL, rightV, rightL, riseB, bareB, h0, h1, h2, h3]
theorem rec_parts : cntV tRec 0 = 4 := by simp [tRec, cntV, cntL]
theorem zero_no : (decide (cntV (VT.mk 0 0 0 ⟨#[]⟩ [] []) 0 ≤ 200) && rightV (VT.mk 0 0 0 ⟨#[]⟩ [] []) 1) = false := by simp [rightV]
set_option maxHeartbeats 4000000 in
set_option maxRecDepth 100000 in
theorem awake04 (w : World) : Calls Tryz.prog 5 #[] w fun e w' => e = .returned (.bool true) ∧ Below w.heap.size w w' := by
  go_enter Tryz.func5, Tryz.ntmps5
  go_upto_region 1 with (fail)
  go_upto_region 2 with (first | (go_at_call 21; refine (nan_any _).mono ?_; rintro e z ⟨rfl, hzw⟩; obtain rfl := hzw.symm) | (go_at_call 22; refine (copysign_any _).mono ?_; rintro e z ⟨rfl, hzw⟩; obtain rfl := hzw.symm) | (go_at_call 20; with_reducible refine (mk_fl 9221120237041090561 _).mono ?_; rintro e w1 ⟨rfl, hb⟩; have HB1 := Lib.hid hb; clear hb) | (go_at_call 20; with_reducible refine (mk_fl 9223372036854775808 _).mono ?_; rintro e w2 ⟨rfl, hb⟩; have HB2 := Lib.hid hb; clear hb; have HTT := Lib.hid (two_there w2 #[.int .i64 0, .int .i64 0, .float .f64 0, .string ⟨#[]⟩, .slice none 0 0, .slice none 0 0] 26 (cellsOfV 3 0 9221120237041090561 ⟨#[]⟩ (.slice none 0 0) (.slice none 0 0)) (cellsOfV 3 0 9223372036854775808 ⟨#[]⟩ (.slice none 0 0) (.slice none 0 0)) rfl rfl); have HTH1 := Lib.hid HTT.out.1; have HTH2 := Lib.hid HTT.out.2; clear HTT) | ((with_reducible refine wl_sstore 26 _ _ rfl ?hwa w2.heap.size 0 (cellsOfV 3 0 9221120237041090561 ⟨#[]⟩ (.slice none 0 0) (.slice none 0 0)) rfl rfl HTH1.out ?hia ?h1a ?_); (case hwa => first | exact wanted_none rfl | exact wanted_if rfl rfl rfl rfl); (case hia => kernel_rfl); (case h1a => exact cellsOfV_ones _ _ _ _ none none (0, 0) (0, 0))) | ((with_reducible refine wl_sstore 26 _ _ rfl ?hwb (w2.heap.size + 1) 0 (cellsOfV 3 0 9223372036854775808 ⟨#[]⟩ (.slice none 0 0) (.slice none 0 0)) rfl rfl HTH2.out ?hib ?h1b ?_); (case hwb => first | exact wanted_none rfl | exact wanted_if rfl rfl rfl rfl); (case hib => kernel_rfl); (case h1b => exact cellsOfV_ones _ _ _ _ none none (0, 0) (0, 0))))
  have HR1 : Hid (((((w2.alloc (.cells #[.int .i64 0, .int .i64 0, .float .f64 0, .string ⟨#[]⟩, .slice none 0 0, .slice none 0 0] 26)).alloc (.cells #[.int .i64 0, .int .i64 0, .float .f64 0, .string ⟨#[]⟩, .slice none 0 0, .slice none 0 0] 26)).setCells w2.heap.size 0 (cellsOfV 3 0 9221120237041090561 ⟨#[]⟩ (.slice none 0 0) (.slice none 0 0))).setCells (w2.heap.size + 1) 0 (cellsOfV 3 0 9223372036854775808 ⟨#[]⟩ (.slice none 0 0) (.slice none 0 0))).rangeAt w2.heap.size 0 (cellsOfV 3 0 9221120237041090561 ⟨#[]⟩ (.slice none 0 0) (.slice none 0 0))) := Lib.hid (range_sets (World.rangeAt_setCells_same _ _ _ _ HTH1.out) (by omega) _)
  have HR2 : Hid (((((w2.alloc (.cells #[.int .i64 0, .int .i64 0, .float .f64 0, .string ⟨#[]⟩, .slice none 0 0, .slice none 0 0] 26)).alloc (.cells #[.int .i64 0, .int .i64 0, .float .f64 0, .string ⟨#[]⟩, .slice none 0 0, .slice none 0 0] 26)).setCells w2.heap.size 0 (cellsOfV 3 0 9221120237041090561 ⟨#[]⟩ (.slice none 0 0) (.slice none 0 0))).setCells (w2.heap.size + 1) 0 (cellsOfV 3 0 9223372036854775808 ⟨#[]⟩ (.slice none 0 0) (.slice none 0 0))).rangeAt (w2.heap.size + 1) 0 (cellsOfV 3 0 9223372036854775808 ⟨#[]⟩ (.slice none 0 0) (.slice none 0 0))) := Lib.hid (World.rangeAt_setCells_same _ _ _ _ HTH2.out)
  have HBL : Hid (Below w2.heap.size w2 ((((w2.alloc (.cells #[.int .i64 0, .int .i64 0, .float .f64 0, .string ⟨#[]⟩, .slice none 0 0, .slice none 0 0] 26)).alloc (.cells #[.int .i64 0, .int .i64 0, .float .f64 0, .string ⟨#[]⟩, .slice none 0 0, .slice none 0 0] 26)).setCells w2.heap.size 0 (cellsOfV 3 0 9221120237041090561 ⟨#[]⟩ (.slice none 0 0) (.slice none 0 0))).setCells (w2.heap.size + 1) 0 (cellsOfV 3 0 9223372036854775808 ⟨#[]⟩ (.slice none 0 0) (.slice none 0 0)))) := Lib.hid (below_sets (below_sets ((box_below w2 _).trans ((box_below _ _).mono (Nat.le_of_lt (box_size w2 _)))) (Nat.le_refl _) _ 0) (by omega) _ 0)
  have HSZ : Hid (w2.heap.size + 1 < ((((w2.alloc (.cells #[.int .i64 0, .int .i64 0, .float .f64 0, .string ⟨#[]⟩, .slice none 0 0, .slice none 0 0] 26)).alloc (.cells #[.int .i64 0, .int .i64 0, .float .f64 0, .string ⟨#[]⟩, .slice none 0 0, .slice none 0 0] 26)).setCells w2.heap.size 0 (cellsOfV 3 0 9221120237041090561 ⟨#[]⟩ (.slice none 0 0) (.slice none 0 0))).setCells (w2.heap.size + 1) 0 (cellsOfV 3 0 9223372036854775808 ⟨#[]⟩ (.slice none 0 0) (.slice none 0 0))).heap.size) := Lib.hid (by rw [size_sets, size_sets]; simp)
  generalize (((w2.alloc (.cells #[.int .i64 0, .int .i64 0, .float .f64 0, .string ⟨#[]⟩, .slice none 0 0, .slice none 0 0] 26)).alloc (.cells #[.int .i64 0, .int .i64 0, .float .f64 0, .string ⟨#[]⟩, .slice none 0 0, .slice none 0 0] 26)).setCells w2.heap.size 0 (cellsOfV 3 0 9221120237041090561 ⟨#[]⟩ (.slice none 0 0) (.slice none 0 0))).setCells (w2.heap.size + 1) 0 (cellsOfV 3 0 9223372036854775808 ⟨#[]⟩ (.slice none 0 0) (.slice none 0 0)) = W3 at *
  obtain ⟨pn, hpn⟩ : ∃ pn, w2.heap.size = pn := ⟨_, rfl⟩
  rw [hpn] at HR1 HR2 HSZ
  rw [hpn]
  obtain ⟨pz, hpz⟩ : ∃ pz, pn + 1 = pz := ⟨_, rfl⟩
  rw [hpz] at HR2 HSZ
  rw [hpz]
  have HPN : Hid (pn < pz) := Lib.hid (by omega)
  have HBW3 := Lib.hid (HB1.out.trans ((HB2.out.trans (HBL.out.mono HB2.out.size)).mono HB1.out.size))
  clear HTH1 HTH2 HBL HB1 HB2 hpn hpz
  go_upto_region 3 with (first | (go_at_call 23; refine (mk_num' 1 _).mono ?_; rintro e w4 ⟨rfl, hb⟩; have HB4 := Lib.hid hb; clear hb) | (go_at_call 24; refine (mk_str' ⟨#[120]⟩ _).mono ?_; rintro e w5 ⟨rfl, hb⟩; have HB5 := Lib.hid hb; clear hb; have HTH3 := Lib.hid (three_there w5 (.cells #[.int .i64 2, .int .i64 1, .float .f64 0, .string ⟨#[]⟩, .slice none 0 0, .slice none 0 0, .int .i64 4, .int .i64 0, .float .f64 0, .string ⟨#[120]⟩, .slice none 0 0, .slice none 0 0] 26) (.cells #[.int .i64 5, .int .i64 0, .float .f64 0, .string ⟨#[]⟩, .slice none 0 0, .slice (some ⟨w5.heap.size, 0, none⟩) 2 2] 26) #[.int .i64 0, .int .i64 0, .float .f64 0, .string ⟨#[]⟩, .slice none 0 0, .slice none 0 0] 26 (cellsOfV 6 0 0 ⟨#[]⟩ (.slice (some ⟨W3.heap.size, 0, none⟩) 1 1) (.slice (some ⟨w5.heap.size + 1, 0, none⟩) 1 1)) rfl)) | ((with_reducible refine wl_sstore 26 _ _ rfl ?hwc (w5.heap.size + 1 + 1) 0 (cellsOfV 6 0 0 ⟨#[]⟩ (.slice (some ⟨W3.heap.size, 0, none⟩) 1 1) (.slice (some ⟨w5.heap.size + 1, 0, none⟩) 1 1)) rfl rfl HTH3.out ?hic ?h1c ?_); (case hwc => first | exact wanted_none rfl | exact wanted_if rfl rfl rfl rfl); (case hic => kernel_rfl); (case h1c => exact cellsOfV_ones _ _ _ _ _ _ (1, 1) (1, 1))))
  have HV3 := Lib.hid (three_vals w5 (cellsOfV 2 1 0 ⟨#[]⟩ (.slice none 0 0) (.slice none 0 0) ++ cellsOfV 4 0 0 ⟨#[120]⟩ (.slice none 0 0) (.slice none 0 0)) (cellsOfV 5 0 0 ⟨#[]⟩ (.slice none 0 0) (.slice (some ⟨w5.heap.size, 0, none⟩) 2 2)) #[.int .i64 0, .int .i64 0, .float .f64 0, .string ⟨#[]⟩, .slice none 0 0, .slice none 0 0] 26 (cellsOfV 6 0 0 ⟨#[]⟩ (.slice (some ⟨W3.heap.size, 0, none⟩) 1 1) (.slice (some ⟨w5.heap.size + 1, 0, none⟩) 1 1)) rfl)
  have HV3' : Hid (((((w5.alloc (.cells #[.int .i64 2, .int .i64 1, .float .f64 0, .string ⟨#[]⟩, .slice none 0 0, .slice none 0 0, .int .i64 4, .int .i64 0, .float .f64 0, .string ⟨#[120]⟩, .slice none 0 0, .slice none 0 0] 26)).alloc (.cells #[.int .i64 5, .int .i64 0, .float .f64 0, .string ⟨#[]⟩, .slice none 0 0, .slice (some ⟨w5.heap.size, 0, none⟩) 2 2] 26)).alloc (.cells #[.int .i64 0, .int .i64 0, .float .f64 0, .string ⟨#[]⟩, .slice none 0 0, .slice none 0 0] 26)).setCells (w5.heap.size + 1 + 1) 0 (cellsOfV 6 0 0 ⟨#[]⟩ (.slice (some ⟨W3.heap.size, 0, none⟩) 1 1) (.slice (some ⟨w5.heap.size + 1, 0, none⟩) 1 1))).rangeAt w5.heap.size 0 (cellsOfV 2 1 0 ⟨#[]⟩ (.slice none 0 0) (.slice none 0 0) ++ cellsOfV 4 0 0 ⟨#[120]⟩ (.slice none 0 0) (.slice none 0 0)) ∧ ((((w5.alloc (.cells #[.int .i64 2, .int .i64 1, .float .f64 0, .string ⟨#[]⟩, .slice none 0 0, .slice none 0 0, .int .i64 4, .int .i64 0, .float .f64 0, .string ⟨#[120]⟩, .slice none 0 0, .slice none 0 0] 26)).alloc (.cells #[.int .i64 5, .int .i64 0, .float .f64 0, .string ⟨#[]⟩, .slice none 0 0, .slice (some ⟨w5.heap.size, 0, none⟩) 2 2] 26)).alloc (.cells #[.int .i64 0, .int .i64 0, .float .f64 0, .string ⟨#[]⟩, .slice none 0 0, .slice none 0 0] 26)).setCells (w5.heap.size + 1 + 1) 0 (cellsOfV 6 0 0 ⟨#[]⟩ (.slice (some ⟨W3.heap.size, 0, none⟩) 1 1) (.slice (some ⟨w5.heap.size + 1, 0, none⟩) 1 1))).rangeAt (w5.heap.size + 1) 0 (cellsOfV 5 0 0 ⟨#[]⟩ (.slice none 0 0) (.slice (some ⟨w5.heap.size, 0, none⟩) 2 2)) ∧ ((((w5.alloc (.cells #[.int .i64 2, .int .i64 1, .float .f64 0, .string ⟨#[]⟩, .slice none 0 0, .slice none 0 0, .int .i64 4, .int .i64 0, .float .f64 0, .string ⟨#[120]⟩, .slice none 0 0, .slice none 0 0] 26)).alloc (.cells #[.int .i64 5, .int .i64 0, .float .f64 0, .string ⟨#[]⟩, .slice none 0 0, .slice (some ⟨w5.heap.size, 0, none⟩) 2 2] 26)).alloc (.cells #[.int .i64 0, .int .i64 0, .float .f64 0, .string ⟨#[]⟩, .slice none 0 0, .slice none 0 0] 26)).setCells (w5.heap.size + 1 + 1) 0 (cellsOfV 6 0 0 ⟨#[]⟩ (.slice (some ⟨W3.heap.size, 0, none⟩) 1 1) (.slice (some ⟨w5.heap.size + 1, 0, none⟩) 1 1))).rangeAt (w5.heap.size + 1 + 1) 0 (cellsOfV 6 0 0 ⟨#[]⟩ (.slice (some ⟨W3.heap.size, 0, none⟩) 1 1) (.slice (some ⟨w5.heap.size + 1, 0, none⟩) 1 1)) ∧ Below w5.heap.size w5 ((((w5.alloc (.cells #[.int .i64 2, .int .i64 1, .float .f64 0, .string ⟨#[]⟩, .slice none 0 0, .slice none 0 0, .int .i64 4, .int .i64 0, .float .f64 0, .string ⟨#[120]⟩, .slice none 0 0, .slice none 0 0] 26)).alloc (.cells #[.int .i64 5, .int .i64 0, .float .f64 0, .string ⟨#[]⟩, .slice none 0 0, .slice (some ⟨w5.heap.size, 0, none⟩) 2 2] 26)).alloc (.cells #[.int .i64 0, .int .i64 0, .float .f64 0, .string ⟨#[]⟩, .slice none 0 0, .slice none 0 0] 26)).setCells (w5.heap.size + 1 + 1) 0 (cellsOfV 6 0 0 ⟨#[]⟩ (.slice (some ⟨W3.heap.size, 0, none⟩) 1 1) (.slice (some ⟨w5.heap.size + 1, 0, none⟩) 1 1))) ∧ w5.heap.size + 1 + 1 < ((((w5.alloc (.cells #[.int .i64 2, .int .i64 1, .float .f64 0, .string ⟨#[]⟩, .slice none 0 0, .slice none 0 0, .int .i64 4, .int .i64 0, .float .f64 0, .string ⟨#[120]⟩, .slice none 0 0, .slice none 0 0] 26)).alloc (.cells #[.int .i64 5, .int .i64 0, .float .f64 0, .string ⟨#[]⟩, .slice none 0 0, .slice (some ⟨w5.heap.size, 0, none⟩) 2 2] 26)).alloc (.cells #[.int .i64 0, .int .i64 0, .float .f64 0, .string ⟨#[]⟩, .slice none 0 0, .slice none 0 0] 26)).setCells (w5.heap.size + 1 + 1) 0 (cellsOfV 6 0 0 ⟨#[]⟩ (.slice (some ⟨W3.heap.size, 0, none⟩) 1 1) (.slice (some ⟨w5.heap.size + 1, 0, none⟩) 1 1))).heap.size) := HV3
  clear HV3 HTH3
  generalize (((w5.alloc (.cells #[.int .i64 2, .int .i64 1, .float .f64 0, .string ⟨#[]⟩, .slice none 0 0, .slice none 0 0, .int .i64 4, .int .i64 0, .float .f64 0, .string ⟨#[120]⟩, .slice none 0 0, .slice none 0 0] 26)).alloc (.cells #[.int .i64 5, .int .i64 0, .float .f64 0, .string ⟨#[]⟩, .slice none 0 0, .slice (some ⟨w5.heap.size, 0, none⟩) 2 2] 26)).alloc (.cells #[.int .i64 0, .int .i64 0, .float .f64 0, .string ⟨#[]⟩, .slice none 0 0, .slice none 0 0] 26)).setCells (w5.heap.size + 1 + 1) 0 (cellsOfV 6 0 0 ⟨#[]⟩ (.slice (some ⟨W3.heap.size, 0, none⟩) 1 1) (.slice (some ⟨w5.heap.size + 1, 0, none⟩) 1 1)) = W6 at *
  have hn3 : W3.heap.size < (W3.alloc (.cells #[Value.string ⟨#[97]⟩] 9)).heap.size := box_size _ _
  have hb35 := HB4.out.trans (HB5.out.mono HB4.out.size)
  have hl5 : W3.heap.size < w5.heap.size := Nat.lt_of_lt_of_le hn3 hb35.size
  have h3 : W6.cell? ⟨W3.heap.size, 0, none⟩ = some (.string ⟨#[97]⟩) := (HV3'.out.2.2.2.1.cell (p := ⟨W3.heap.size, 0, none⟩) hl5).trans ((hb35.cell (p := ⟨W3.heap.size, 0, none⟩) hn3).trans (cell_box W3 #[Value.string ⟨#[97]⟩] 9 0))
  have HVR : Hid (ValAt W6 W6.heap.size (cellsOfV 6 0 0 ⟨#[]⟩ (.slice (some ⟨W3.heap.size, 0, none⟩) 1 1) (.slice (some ⟨w5.heap.size + 1, 0, none⟩) 1 1)) tRec) := Lib.hid (rec_val W6 W3.heap.size w5.heap.size (w5.heap.size + 1) h3 HV3'.out.1 HV3'.out.2.1 (by have := HV3'.out.2.2.2.2; omega) (by have := HV3'.out.2.2.2.2; omega) (by have := HV3'.out.2.2.2.2; omega))
  have HRR := Lib.hid HV3'.out.2.2.1
  have HB36 : Hid (Below W3.heap.size W3 W6) := Lib.hid ((box_below W3 _).trans ((hb35.trans (HV3'.out.2.2.2.1.mono hb35.size)).mono (Nat.le_of_lt hn3)))
  have HSR := Lib.hid HV3'.out.2.2.2.2
  have HSZ6 : Hid (pz < W6.heap.size) := Lib.hid (Nat.lt_of_lt_of_le HSZ.out HB36.out.size)
  have HR1' := Lib.hid (rangeAt_below HR1.out HB36.out (Nat.lt_trans HPN.out HSZ.out))
  have HR2' := Lib.hid (rangeAt_below HR2.out HB36.out HSZ.out)
  have HBW6 := Lib.hid (HBW3.out.trans (HB36.out.mono HBW3.out.size))
  obtain ⟨pr, hpr⟩ : ∃ pr, w5.heap.size + 1 + 1 = pr := ⟨_, rfl⟩
  rw [hpr] at HRR HSR
  rw [hpr]
  generalize hCR : (cellsOfV 6 0 0 ⟨#[]⟩ (.slice (some ⟨W3.heap.size, 0, none⟩) 1 1) (.slice (some ⟨w5.heap.size + 1, 0, none⟩) 1 1)) = cr at *
  have HLR : Hid (cr.length = 6) := Lib.hid (by rw [← hCR]; rfl)
  clear hCR hpr hl5 hn3 hb35 h3 HV3' HB4 HB5 HR1 HR2 HB36 HBW3 HSZ
  have HQA := Lib.hid (text_top tRec _ text_rec1 (by decide) (by decide) rec_right cr W6 HVR.out)
  go_upto_region 4 with (first | ((with_reducible refine wl_sload 26 _ rfl ?hwa pr 0 cr _ rfl HRR.out Tryz.underlying26 rfl ?hia ?_); (case hwa => first | exact wanted_none rfl | exact wanted_if rfl rfl rfl rfl); (case hia => rw [HLR.out]; kernel_rfl)) | (go_at_call 7; refine HQA.out.mono ?_; rintro e w7 ⟨rfl, hb⟩; have HB7 := Lib.hid hb; clear hb))
  have HTZ := Lib.hid (text_no (VT.mk 0 0 0 ⟨#[]⟩ [] []) zero_no (cellsOfV 0 0 0 ⟨#[]⟩ (.slice none 0 0) (.slice none 0 0)) w7 (plain_at w7 _ 0 0 0 ⟨#[]⟩ (wf_i 0 (by decide +kernel)) (wf_i 0 (by decide +kernel)) (by decide +kernel) (Nat.zero_le _)))
  go_upto_region 5 with (go_at_call 7; refine HTZ.out.mono ?_; rintro e w8 ⟨rfl, hb⟩; have HB8 := Lib.hid hb; clear hb)
  have HB68 := Lib.hid (HB7.out.trans (HB8.out.mono HB7.out.size))
  have HRN8 := Lib.hid (rangeAt_below HR1'.out HB68.out (Nat.lt_trans HPN.out HSZ6.out))
  have HRZ8 := Lib.hid (rangeAt_below HR2'.out HB68.out HSZ6.out)
  have HRR8 := Lib.hid (rangeAt_below HRR.out HB68.out HSR.out)
  have HVR8 := Lib.hid (ValAt.next HVR.out HB68.out)
  have HL8 : Hid (pn < w8.heap.size ∧ pz < w8.heap.size ∧ pr < w8.heap.size) := Lib.hid ⟨Nat.lt_of_lt_of_le (Nat.lt_trans HPN.out HSZ6.out) HB68.out.size, Nat.lt_of_lt_of_le HSZ6.out HB68.out.size, Nat.lt_of_lt_of_le HSR.out HB68.out.size⟩
  have HBW8 := Lib.hid (HBW6.out.trans (HB68.out.mono HBW6.out.size))
  clear HQA HTZ HRR HR1' HR2' HVR HB68 HB7 HB8 HSZ6 HSR HBW6
  refine wp_region_ord [(0, true), (1, true), (2, false), (3, true), (4, true), (5, true), (6, true), (7, false), (8, true), (9, true), (11, true), (10, false), (12, false), (13, true), (14, true), (16, true), (15, false), (17, false), (18, true), (19, true), (20, true), (21, true), (22, true), (23, true), (24, true), (25, true), (26, true), (27, true), (28, true), (29, true), (30, true), (31, true), (32, true), (33, false), (34, false), (35, false), (36, true), (37, true), (38, true), (39, true), (40, false), (41, true), (42, true), (43, true), (44, false), (45, true), (46, true), (47, true), (49, true), (48, false), (50, false), (51, true), (52, true)]
    (fun z => Below w8.heap.size w8 z) (by kernel_rfl) (by kernel_rfl) (by kernel_rfl) rfl (by intro c a d v w h; cases d <;> exact h) ?_
  have hs0 : Below w8.heap.size w8 w8.drew := (Below.refl _ w8).drew
  refine ord_load (some 29) (.agg ⟨(cellsOfV 3 0 9221120237041090561 ⟨#[]⟩ (.slice none 0 0) (.slice none 0 0))⟩) _ rfl rfl (by first | exact wanted_none rfl | exact wanted_if rfl rfl rfl rfl) hs0 (fun z hz => exec_sload 26 rfl pn 0 (cellsOfV 3 0 9221120237041090561 ⟨#[]⟩ (.slice none 0 0) (.slice none 0 0)) _ rfl (rangeAt_below HRN8.out hz HL8.out.1) Tryz.underlying26 rfl (by kernel_rfl)) ?_
  go_frame
  refine ord_load (some 30) (.agg ⟨(cellsOfV 3 0 9221120237041090561 ⟨#[]⟩ (.slice none 0 0) (.slice none 0 0))⟩) _ rfl rfl (by first | exact wanted_none rfl | exact wanted_if rfl rfl rfl rfl) hs0 (fun z hz => exec_sload 26 rfl pn 0 (cellsOfV 3 0 9221120237041090561 ⟨#[]⟩ (.slice none 0 0) (.slice none 0 0)) _ rfl (rangeAt_below HRN8.out hz HL8.out.1) Tryz.underlying26 rfl (by kernel_rfl)) ?_
  go_frame
  refine ord_to (some 31) 25 Tryz.func25 (by kernel_rfl) (by kernel_rfl) [.agg ⟨(cellsOfV 3 0 9221120237041090561 ⟨#[]⟩ (.slice none 0 0) (.slice none 0 0))⟩, .agg ⟨(cellsOfV 3 0 9221120237041090561 ⟨#[]⟩ (.slice none 0 0) (.slice none 0 0))⟩] _ _ _ rfl rfl rfl (by first | exact wanted_none rfl | exact wanted_if rfl rfl rfl rfl) rfl ?_
  refine (vequal tNan tNan (cellsOfV 3 0 9221120237041090561 ⟨#[]⟩ (.slice none 0 0) (.slice none 0 0)) (cellsOfV 3 0 9221120237041090561 ⟨#[]⟩ (.slice none 0 0) (.slice none 0 0)) w8.drew (plain_at w8.drew _ 3 0 9221120237041090561 ⟨#[]⟩ (wf_i 3 (by decide +kernel)) (wf_i 0 (by decide +kernel)) (by decide +kernel) (Nat.zero_le _)) (plain_at w8.drew _ 3 0 9221120237041090561 ⟨#[]⟩ (wf_i 3 (by decide +kernel)) (wf_i 0 (by decide +kernel)) (by decide +kernel) (Nat.zero_le _))).mono ?_
  rintro e z1 ⟨rfl, hb⟩
  rw [eq_nan]
  have hs1 : Below w8.heap.size w8 z1 := hs0.trans (hb.mono hs0.size)
  refine ⟨(.bool false), rfl, hs1, ?_⟩
  clear hb
  go_frame
  refine ord_load (some 32) (.bool true) _ rfl rfl (by first | exact wanted_none rfl | exact wanted_if rfl rfl rfl rfl) hs1 (fun z hz => by go_simp) ?_
  go_frame
  refine ord_move (some 33) (.bool true) _ _ rfl rfl rfl (by first | exact wanted_none rfl | exact wanted_if rfl rfl rfl rfl) hs1 rfl ?_
  go_frame
  refine ord_load (some 34) (.agg ⟨(cellsOfV 3 0 9221120237041090561 ⟨#[]⟩ (.slice none 0 0) (.slice none 0 0))⟩) _ rfl rfl (by first | exact wanted_none rfl | exact wanted_if rfl rfl rfl rfl) hs1 (fun z hz => exec_sload 26 rfl pn 0 (cellsOfV 3 0 9221120237041090561 ⟨#[]⟩ (.slice none 0 0) (.slice none 0 0)) _ rfl (rangeAt_below HRN8.out hz HL8.out.1) Tryz.underlying26 rfl (by kernel_rfl)) ?_
  go_frame
  refine ord_load (some 35) (.agg ⟨(cellsOfV 3 0 9221120237041090561 ⟨#[]⟩ (.slice none 0 0) (.slice none 0 0))⟩) _ rfl rfl (by first | exact wanted_none rfl | exact wanted_if rfl rfl rfl rfl) hs1 (fun z hz => exec_sload 26 rfl pn 0 (cellsOfV 3 0 9221120237041090561 ⟨#[]⟩ (.slice none 0 0) (.slice none 0 0)) _ rfl (rangeAt_below HRN8.out hz HL8.out.1) Tryz.underlying26 rfl (by kernel_rfl)) ?_
  go_frame
  refine ord_to (some 36) 26 Tryz.func26 (by kernel_rfl) (by kernel_rfl) [.agg ⟨(cellsOfV 3 0 9221120237041090561 ⟨#[]⟩ (.slice none 0 0) (.slice none 0 0))⟩, .agg ⟨(cellsOfV 3 0 9221120237041090561 ⟨#[]⟩ (.slice none 0 0) (.slice none 0 0))⟩] _ _ _ rfl rfl rfl (by first | exact wanted_none rfl | exact wanted_if rfl rfl rfl rfl) rfl ?_
  refine (vsame tNan tNan (cellsOfV 3 0 9221120237041090561 ⟨#[]⟩ (.slice none 0 0) (.slice none 0 0)) (cellsOfV 3 0 9221120237041090561 ⟨#[]⟩ (.slice none 0 0) (.slice none 0 0)) z1 (plain_at z1 _ 3 0 9221120237041090561 ⟨#[]⟩ (wf_i 3 (by decide +kernel)) (wf_i 0 (by decide +kernel)) (by decide +kernel) (Nat.zero_le _)) (plain_at z1 _ 3 0 9221120237041090561 ⟨#[]⟩ (wf_i 3 (by decide +kernel)) (wf_i 0 (by decide +kernel)) (by decide +kernel) (Nat.zero_le _))).mono ?_
  rintro e z2 ⟨rfl, hb⟩
  rw [same_nan]
  have hs2 : Below w8.heap.size w8 z2 := hs1.trans (hb.mono hs1.size)
  refine ⟨(.bool true), rfl, hs2, ?_⟩
  clear hb
  go_frame
  refine ord_pick (some 37) (.bool true) _ _ _ _ true rfl rfl rfl rfl (by first | exact wanted_none rfl | exact wanted_if rfl rfl rfl rfl) hs2 rfl ?_
  go_frame
  refine ord_move (some 38) (.bool true) _ _ rfl rfl rfl (by first | exact wanted_none rfl | exact wanted_if rfl rfl rfl rfl) hs2 rfl ?_
  go_frame
  refine ord_load (some 40) (.agg ⟨(cellsOfV 3 0 9223372036854775808 ⟨#[]⟩ (.slice none 0 0) (.slice none 0 0))⟩) _ rfl rfl (by first | exact wanted_none rfl | exact wanted_if rfl rfl rfl rfl) hs2 (fun z hz => exec_sload 26 rfl pz 0 (cellsOfV 3 0 9223372036854775808 ⟨#[]⟩ (.slice none 0 0) (.slice none 0 0)) _ rfl (rangeAt_below HRZ8.out hz HL8.out.2.1) Tryz.underlying26 rfl (by kernel_rfl)) ?_
  go_frame
  refine ord_to (some 39) 20 Tryz.func20 (by kernel_rfl) (by kernel_rfl) [.float .f64 0] _ _ _ rfl rfl rfl (by first | exact wanted_none rfl | exact wanted_if rfl rfl rfl rfl) rfl ?_
  refine (mk_fl 0 z2).mono ?_
  rintro e z3 ⟨rfl, hb⟩
  have hs3 : Below w8.heap.size w8 z3 := hs2.trans (hb.mono hs2.size)
  refine ⟨(.agg ⟨(cellsOfV 3 0 0 ⟨#[]⟩ (.slice none 0 0) (.slice none 0 0))⟩), rfl, hs3, ?_⟩
  clear hb
  go_frame
  refine ord_to (some 41) 25 Tryz.func25 (by kernel_rfl) (by kernel_rfl) [.agg ⟨(cellsOfV 3 0 0 ⟨#[]⟩ (.slice none 0 0) (.slice none 0 0))⟩, .agg ⟨(cellsOfV 3 0 9223372036854775808 ⟨#[]⟩ (.slice none 0 0) (.slice none 0 0))⟩] _ _ _ rfl rfl rfl (by first | exact wanted_none rfl | exact wanted_if rfl rfl rfl rfl) rfl ?_
  refine (vequal tZero tMz (cellsOfV 3 0 0 ⟨#[]⟩ (.slice none 0 0) (.slice none 0 0)) (cellsOfV 3 0 9223372036854775808 ⟨#[]⟩ (.slice none 0 0) (.slice none 0 0)) z3 (plain_at z3 _ 3 0 0 ⟨#[]⟩ (wf_i 3 (by decide +kernel)) (wf_i 0 (by decide +kernel)) (by decide +kernel) (Nat.zero_le _)) (plain_at z3 _ 3 0 9223372036854775808 ⟨#[]⟩ (wf_i 3 (by decide +kernel)) (wf_i 0 (by decide +kernel)) (by decide +kernel) (Nat.zero_le _))).mono ?_
  rintro e z4 ⟨rfl, hb⟩
  rw [eq_mz]
  have hs4 : Below w8.heap.size w8 z4 := hs3.trans (hb.mono hs3.size)
  refine ⟨(.bool true), rfl, hs4, ?_⟩
  clear hb
  go_frame
  refine ord_pick (some 42) (.bool true) _ _ _ _ true rfl rfl rfl rfl (by first | exact wanted_none rfl | exact wanted_if rfl rfl rfl rfl) hs4 rfl ?_
  go_frame
  refine ord_move (some 43) (.bool true) _ _ rfl rfl rfl (by first | exact wanted_none rfl | exact wanted_if rfl rfl rfl rfl) hs4 rfl ?_
  go_frame
  refine ord_load (some 45) (.agg ⟨(cellsOfV 3 0 9223372036854775808 ⟨#[]⟩ (.slice none 0 0) (.slice none 0 0))⟩) _ rfl rfl (by first | exact wanted_none rfl | exact wanted_if rfl rfl rfl rfl) hs4 (fun z hz => exec_sload 26 rfl pz 0 (cellsOfV 3 0 9223372036854775808 ⟨#[]⟩ (.slice none 0 0) (.slice none 0 0)) _ rfl (rangeAt_below HRZ8.out hz HL8.out.2.1) Tryz.underlying26 rfl (by kernel_rfl)) ?_
  go_frame
  refine ord_to (some 44) 20 Tryz.func20 (by kernel_rfl) (by kernel_rfl) [.float .f64 0] _ _ _ rfl rfl rfl (by first | exact wanted_none rfl | exact wanted_if rfl rfl rfl rfl) rfl ?_
  refine (mk_fl 0 z4).mono ?_
  rintro e z5 ⟨rfl, hb⟩
  have hs5 : Below w8.heap.size w8 z5 := hs4.trans (hb.mono hs4.size)
  refine ⟨(.agg ⟨(cellsOfV 3 0 0 ⟨#[]⟩ (.slice none 0 0) (.slice none 0 0))⟩), rfl, hs5, ?_⟩
  clear hb
  go_frame
  refine ord_to (some 46) 26 Tryz.func26 (by kernel_rfl) (by kernel_rfl) [.agg ⟨(cellsOfV 3 0 0 ⟨#[]⟩ (.slice none 0 0) (.slice none 0 0))⟩, .agg ⟨(cellsOfV 3 0 9223372036854775808 ⟨#[]⟩ (.slice none 0 0) (.slice none 0 0))⟩] _ _ _ rfl rfl rfl (by first | exact wanted_none rfl | exact wanted_if rfl rfl rfl rfl) rfl ?_
  refine (vsame tZero tMz (cellsOfV 3 0 0 ⟨#[]⟩ (.slice none 0 0) (.slice none 0 0)) (cellsOfV 3 0 9223372036854775808 ⟨#[]⟩ (.slice none 0 0) (.slice none 0 0)) z5 (plain_at z5 _ 3 0 0 ⟨#[]⟩ (wf_i 3 (by decide +kernel)) (wf_i 0 (by decide +kernel)) (by decide +kernel) (Nat.zero_le _)) (plain_at z5 _ 3 0 9223372036854775808 ⟨#[]⟩ (wf_i 3 (by decide +kernel)) (wf_i 0 (by decide +kernel)) (by decide +kernel) (Nat.zero_le _))).mono ?_
  rintro e z6 ⟨rfl, hb⟩
  rw [same_mz]
  have hs6 : Below w8.heap.size w8 z6 := hs5.trans (hb.mono hs5.size)
  refine ⟨(.bool false), rfl, hs6, ?_⟩
  clear hb
  go_frame
  refine ord_load (some 47) (.bool true) _ rfl rfl (by first | exact wanted_none rfl | exact wanted_if rfl rfl rfl rfl) hs6 (fun z hz => by go_simp) ?_
  go_frame
  refine ord_pick (some 48) (.bool true) _ _ _ _ true rfl rfl rfl rfl (by first | exact wanted_none rfl | exact wanted_if rfl rfl rfl rfl) hs6 rfl ?_
  go_frame
  refine ord_move (some 49) (.bool true) _ _ rfl rfl rfl (by first | exact wanted_none rfl | exact wanted_if rfl rfl rfl rfl) hs6 rfl ?_
  go_frame
  refine ord_move (some 50) (.string ⟨#[123, 97, 58, 91, 49, 44, 34, 120, 34, 93, 125]⟩) _ _ rfl rfl rfl (by first | exact wanted_none rfl | exact wanted_if rfl rfl rfl rfl) hs6 rfl ?_
  go_frame
  refine ord_load (some 51) (.bool true) _ rfl rfl (by first | exact wanted_none rfl | exact wanted_if rfl rfl rfl rfl) hs6 (fun z hz => by go_simp) ?_
  go_frame
  refine ord_pick (some 52) (.bool true) _ _ _ _ true rfl rfl rfl rfl (by first | exact wanted_none rfl | exact wanted_if rfl rfl rfl rfl) hs6 rfl ?_
  go_frame
  refine ord_move (some 53) (.bool true) _ _ rfl rfl rfl (by first | exact wanted_none rfl | exact wanted_if rfl rfl rfl rfl) hs6 rfl ?_
  go_frame
  refine ord_move (some 54) (.int .i64 0) _ _ rfl rfl rfl (by first | exact wanted_none rfl | exact wanted_if rfl rfl rfl rfl) hs6 rfl ?_
  go_frame
  refine ord_load (some 55) (.bool true) _ rfl rfl (by first | exact wanted_none rfl | exact wanted_if rfl rfl rfl rfl) hs6 (fun z hz => by go_simp) ?_
  go_frame
  refine ord_pick (some 56) (.bool true) _ _ _ _ true rfl rfl rfl rfl (by first | exact wanted_none rfl | exact wanted_if rfl rfl rfl rfl) hs6 rfl ?_
  go_frame
  refine ord_move (some 57) (.bool true) _ _ rfl rfl rfl (by first | exact wanted_none rfl | exact wanted_if rfl rfl rfl rfl) hs6 rfl ?_
  go_frame
  refine ord_move (some 58) (.int .i64 5) _ _ rfl rfl rfl (by first | exact wanted_none rfl | exact wanted_if rfl rfl rfl rfl) hs6 rfl ?_
  go_frame
  refine ord_load (some 59) (.bool true) _ rfl rfl (by first | exact wanted_none rfl | exact wanted_if rfl rfl rfl rfl) hs6 (fun z hz => by go_simp) ?_
  go_frame
  refine ord_pick (some 60) (.bool true) _ _ _ _ true rfl rfl rfl rfl (by first | exact wanted_none rfl | exact wanted_if rfl rfl rfl rfl) hs6 rfl ?_
  go_frame
  refine ord_move (some 61) (.bool true) _ _ rfl rfl rfl (by first | exact wanted_none rfl | exact wanted_if rfl rfl rfl rfl) hs6 rfl ?_
  go_frame
  refine ord_to (some 62) 23 Tryz.func23 (by kernel_rfl) (by kernel_rfl) [.int .i64 2] _ _ _ rfl rfl rfl (by first | exact wanted_none rfl | exact wanted_if rfl rfl rfl rfl) rfl ?_
  refine (mk_num 2 z6).mono ?_
  rintro e z7 ⟨rfl, hb⟩
  have hs7 : Below w8.heap.size w8 z7 := hs6.trans (hb.mono hs6.size)
  refine ⟨(.agg ⟨(cellsOfV 2 2 0 ⟨#[]⟩ (.slice none 0 0) (.slice none 0 0))⟩), rfl, hs7, ?_⟩
  clear hb
  go_frame
  refine ord_to (some 63) 20 Tryz.func20 (by kernel_rfl) (by kernel_rfl) [.float .f64 4607182418800017408] _ _ _ rfl rfl rfl (by first | exact wanted_none rfl | exact wanted_if rfl rfl rfl rfl) rfl ?_
  refine (mk_fl 4607182418800017408 z7).mono ?_
  rintro e z8 ⟨rfl, hb⟩
  have hs8 : Below w8.heap.size w8 z8 := hs7.trans (hb.mono hs7.size)
  refine ⟨(.agg ⟨(cellsOfV 3 0 4607182418800017408 ⟨#[]⟩ (.slice none 0 0) (.slice none 0 0))⟩), rfl, hs8, ?_⟩
  clear hb
  go_frame
  refine ord_to (some 64) 27 Tryz.func27 (by kernel_rfl) (by kernel_rfl) [.agg ⟨(cellsOfV 2 2 0 ⟨#[]⟩ (.slice none 0 0) (.slice none 0 0))⟩, .agg ⟨(cellsOfV 3 0 4607182418800017408 ⟨#[]⟩ (.slice none 0 0) (.slice none 0 0))⟩] _ _ _ rfl rfl rfl (by first | exact wanted_none rfl | exact wanted_if rfl rfl rfl rfl) rfl ?_
  refine (vorder (VT.mk 2 2 0 ⟨#[]⟩ [] []) (VT.mk 3 0 4607182418800017408 ⟨#[]⟩ [] []) (cellsOfV 2 2 0 ⟨#[]⟩ (.slice none 0 0) (.slice none 0 0)) (cellsOfV 3 0 4607182418800017408 ⟨#[]⟩ (.slice none 0 0) (.slice none 0 0)) z8 (plain_at z8 _ 2 2 0 ⟨#[]⟩ (wf_i 2 (by decide +kernel)) (wf_i 2 (by decide +kernel)) (by decide +kernel) (Nat.zero_le _)) (plain_at z8 _ 3 0 4607182418800017408 ⟨#[]⟩ (wf_i 3 (by decide +kernel)) (wf_i 0 (by decide +kernel)) (by decide +kernel) (Nat.zero_le _))).mono ?_
  rintro e z9 ⟨rfl, hb⟩
  rw [ord_two]
  have hs9 : Below w8.heap.size w8 z9 := hs8.trans (hb.mono hs8.size)
  refine ⟨(.int .i64 (-1)), rfl, hs9, ?_⟩
  clear hb
  go_frame
  refine ord_load (some 65) (.bool true) _ rfl rfl (by first | exact wanted_none rfl | exact wanted_if rfl rfl rfl rfl) hs9 (fun z hz => by go_simp) ?_
  go_frame
  refine ord_pick (some 66) (.bool true) _ _ _ _ true rfl rfl rfl rfl (by first | exact wanted_none rfl | exact wanted_if rfl rfl rfl rfl) hs9 rfl ?_
  go_frame
  refine ord_move (some 67) (.bool true) _ _ rfl rfl rfl (by first | exact wanted_none rfl | exact wanted_if rfl rfl rfl rfl) hs9 rfl ?_
  go_frame
  refine ord_load (some 68) (.agg ⟨cr⟩) _ rfl rfl (by first | exact wanted_none rfl | exact wanted_if rfl rfl rfl rfl) hs9 (fun z hz => exec_sload 26 rfl pr 0 cr _ rfl (rangeAt_below HRR8.out hz HL8.out.2.2) Tryz.underlying26 rfl (by rw [HLR.out]; kernel_rfl)) ?_
  go_frame
  refine ord_to (some 69) 8 Tryz.func8 (by kernel_rfl) (by kernel_rfl) [(.agg ⟨cr⟩)] _ _ _ rfl rfl rfl (by first | exact wanted_none rfl | exact wanted_if rfl rfl rfl rfl) rfl ?_
  refine (right_top tRec cr z9 (HVR8.out.next hs9)).mono ?_
  rintro e z10 ⟨rfl, hb⟩
  rw [rec_right]
  have hs10 : Below w8.heap.size w8 z10 := hs9.trans (hb.mono hs9.size)
  refine ⟨(.bool true), rfl, hs10, ?_⟩
  clear hb
  go_frame
  refine ord_pick (some 70) (.bool true) _ _ _ _ true rfl rfl rfl rfl (by first | exact wanted_none rfl | exact wanted_if rfl rfl rfl rfl) hs10 rfl ?_
  go_frame
  refine ord_move (some 71) (.bool true) _ _ rfl rfl rfl (by first | exact wanted_none rfl | exact wanted_if rfl rfl rfl rfl) hs10 rfl ?_
  go_frame
  refine ord_load (some 72) (.agg ⟨cr⟩) _ rfl rfl (by first | exact wanted_none rfl | exact wanted_if rfl rfl rfl rfl) hs10 (fun z hz => exec_sload 26 rfl pr 0 cr _ rfl (rangeAt_below HRR8.out hz HL8.out.2.2) Tryz.underlying26 rfl (by rw [HLR.out]; kernel_rfl)) ?_
  go_frame
  refine ord_to (some 73) 10 Tryz.func10 (by kernel_rfl) (by kernel_rfl) [(.agg ⟨cr⟩)] _ _ _ rfl rfl rfl (by first | exact wanted_none rfl | exact wanted_if rfl rfl rfl rfl) rfl ?_
  refine (parts_any tRec cr z10 (HVR8.out.next hs10)).mono ?_
  rintro e z11 ⟨rfl, hb⟩
  rw [rec_parts]
  have hs11 : Below w8.heap.size w8 z11 := hs10.trans (hb.mono hs10.size)
  refine ⟨(.int .i64 4), rfl, hs11, ?_⟩
  clear hb
  go_frame
  refine ord_load (some 74) (.bool true) _ rfl rfl (by first | exact wanted_none rfl | exact wanted_if rfl rfl rfl rfl) hs11 (fun z hz => by go_simp) ?_
  go_frame
  refine ord_pick (some 75) (.bool true) _ _ _ _ true rfl rfl rfl rfl (by first | exact wanted_none rfl | exact wanted_if rfl rfl rfl rfl) hs11 rfl ?_
  go_frame
  refine ord_move (some 76) (.bool true) _ _ rfl rfl rfl (by first | exact wanted_none rfl | exact wanted_if rfl rfl rfl rfl) hs11 rfl ?_
  go_frame
  refine ord_load (some 78) (.agg ⟨[.int .i64 2, .slice none 0 0, .slice none 0 0]⟩) _ rfl rfl (by first | exact wanted_none rfl | exact wanted_if rfl rfl rfl rfl) hs11 (fun z hz => by go_simp) ?_
  go_frame
  refine ord_to (some 77) 23 Tryz.func23 (by kernel_rfl) (by kernel_rfl) [.int .i64 1] _ _ _ rfl rfl rfl (by first | exact wanted_none rfl | exact wanted_if rfl rfl rfl rfl) rfl ?_
  refine (mk_num 1 z11).mono ?_
  rintro e z12 ⟨rfl, hb⟩
  have hs12 : Below w8.heap.size w8 z12 := hs11.trans (hb.mono hs11.size)
  refine ⟨(.agg ⟨(cellsOfV 2 1 0 ⟨#[]⟩ (.slice none 0 0) (.slice none 0 0))⟩), rfl, hs12, ?_⟩
  clear hb
  go_frame
  refine ord_to (some 79) 16 Tryz.func16 (by kernel_rfl) (by kernel_rfl) [.agg ⟨(cellsOfV 2 1 0 ⟨#[]⟩ (.slice none 0 0) (.slice none 0 0))⟩, .agg ⟨[.int .i64 2, .slice none 0 0, .slice none 0 0]⟩] _ _ _ rfl rfl rfl (by first | exact wanted_none rfl | exact wanted_if rfl rfl rfl rfl) rfl ?_
  refine (fits_num 1 (wf_i 1 (by decide +kernel)) z12).mono ?_
  rintro e z13 ⟨rfl, hb⟩
  have hs13 : Below w8.heap.size w8 z13 := hs12.trans (hb.mono hs12.size)
  refine ⟨(.bool true), rfl, hs13, ?_⟩
  clear hb
  go_frame
  refine ord_pick (some 80) (.bool true) _ _ _ _ true rfl rfl rfl rfl (by first | exact wanted_none rfl | exact wanted_if rfl rfl rfl rfl) hs13 rfl ?_
  go_frame
  refine ord_assign (some 0) (.bool true) _ _ rfl rfl rfl (by first | exact wanted_none rfl | exact wanted_if rfl rfl rfl rfl) hs13 rfl ?_
  go_frame
  refine ord_end ?_
  have HBE := Lib.hid hs13
  clear hs0 hs1 hs2 hs3 hs4 hs5 hs6 hs7 hs8 hs9 hs10 hs11 hs12 hs13
  go_wp2
  go_ret
  exact ⟨rfl, HBW8.out.trans (HBE.out.mono HBW8.out.size)⟩
end Go.Proofs.YtieciegfloldhaaGreatDoor
