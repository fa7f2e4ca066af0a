/- A lattice while it is made: its cells, what a store does to them; close. -/
import Derived.Test.YtpikafadfailkaaLatList
import Derived.RegionTactic
import Derived.BigRegion
namespace Go.Proofs.Ytpikafadfailkaa
open Go.RowKit P

def upd {α : Type} (f : Nat → α) (i : Nat) (v : α) : Nat → α := fun x => if x = i then v else f x
def upd2 {α : Type} (f : Nat → Nat → α) (i j : Nat) (v : α) : Nat → Nat → α := fun x y => if x = i ∧ y = j then v else f x y

/-- The cells of a lattice in block b, none frozen: n, the rows up, the rows down, joins, meets. -/
structure Lm (w : World) (b : Nat) (n : Nat) (U D : Rel) (J M : Nat → Nat → Int) : Prop where
  cn : w.cell? ⟨b, 0, none⟩ = some (.int .i64 n)
  cu : ∀ i, i < 8 → w.cell? ⟨b, 1 + i, none⟩ = some (.int .u8 (mask (U i)))
  cd : ∀ i, i < 8 → w.cell? ⟨b, 9 + i, none⟩ = some (.int .u8 (mask (D i)))
  cj : ∀ i j, i < 8 → j < 8 → w.cell? ⟨b, 17 + i * 8 + j, none⟩ = some (.int .i8 (J i j))
  cm : ∀ i j, i < 8 → j < 8 → w.cell? ⟨b, 81 + i * 8 + j, none⟩ = some (.int .i8 (M i j))
  fz : ∀ i, i < 145 → w.frozen? ⟨b, i, none⟩ = false

section
variable {w w' : World} {b n : Nat} {U D : Rel} {J M : Nat → Nat → Int}
theorem Lm.keep (h : Lm w b n U D J M) (hc : ∀ o, w'.cell? ⟨b, o, none⟩ = w.cell? ⟨b, o, none⟩) (hf : ∀ o, w'.frozen? ⟨b, o, none⟩ = w.frozen? ⟨b, o, none⟩) : Lm w' b n U D J M :=
  ⟨(hc _).trans h.cn, fun i hi => (hc _).trans (h.cu i hi), fun i hi => (hc _).trans (h.cd i hi), fun i j hi hj => (hc _).trans (h.cj i j hi hj),
    fun i j hi hj => (hc _).trans (h.cm i j hi hj), fun i hi => (hf _).trans (h.fz i hi)⟩
theorem Lm.drew (h : Lm w b n U D J M) : Lm w.drew b n U D J M := h.keep (fun _ => rfl) (fun _ => rfl)
theorem Lm.drewN (h : Lm w b n U D J M) (k : Nat) : Lm (w.drewN k) b n U D J M := h.keep (fun _ => rfl) (fun _ => rfl)
theorem Lm.below {B : Nat} (h : Lm w b n U D J M) (hb : Below B w w') (hB : b < B) : Lm w' b n U D J M :=
  h.keep (fun o => hb.cell (p := ⟨b, o, none⟩) hB) (fun o => hb.frozen (p := ⟨b, o, none⟩) hB)
theorem Lm.congr {U' D' : Rel} {J' M' : Nat → Nat → Int} (h : Lm w b n U D J M) (hu : ∀ i j, i < 8 → j < 8 → U i j = U' i j) (hd : ∀ i j, i < 8 → j < 8 → D i j = D' i j)
    (hj : ∀ i j, i < 8 → j < 8 → J i j = J' i j) (hm : ∀ i j, i < 8 → j < 8 → M i j = M' i j) : Lm w b n U' D' J' M' :=
  ⟨h.cn, fun i hi => by rw [h.cu i hi, mask_ext (hu i · hi)], fun i hi => by rw [h.cd i hi, mask_ext (hd i · hi)],
    fun i j hi hj' => by rw [h.cj i j hi hj', hj i j hi hj'], fun i j hi hj' => by rw [h.cm i j hi hj', hm i j hi hj'], h.fz⟩
theorem other_cell (w : World) (b o p : Nat) (v : Value) (h : p ≠ o) : (w.setCell ⟨b, o, none⟩ v).cell? ⟨b, p, none⟩ = w.cell? ⟨b, p, none⟩ :=
  World.cell?_setCell_other w ⟨b, o, none⟩ ⟨b, p, none⟩ v (fun e => h (by injection e with _ e2 _; exact e2.symm))
theorem frozen_set (w : World) (a p : Addr) (v : Value) : (w.setCell a v).frozen? p = w.frozen? p := by simp
theorem same_cell (w : World) (b o : Nat) (u v : Value) (h : w.cell? ⟨b, o, none⟩ = some u) : (w.setCell ⟨b, o, none⟩ v).cell? ⟨b, o, none⟩ = some v :=
  World.cell?_setCell_same w ⟨b, o, none⟩ v h
theorem Lm.setU (h : Lm w b n U D J M) {i : Nat} (hi : i < 8) (f : Nat → Bool) : Lm (w.setCell ⟨b, 1 + i, none⟩ (.int .u8 (mask f))) b n (upd U i f) D J M := by
  refine ⟨?_, fun k hk => ?_, fun k hk => ?_, fun k j hk hj => ?_, fun k j hk hj => ?_, fun k hk => ?_⟩
  · rw [other_cell _ _ _ _ _ (by omega)]; exact h.cn
  · by_cases e : k = i
    · subst e; rw [same_cell _ _ _ _ _ (h.cu k hk)]; simp [upd]
    · rw [other_cell _ _ _ _ _ (by omega), h.cu k hk]; simp [upd, e]
  · rw [other_cell _ _ _ _ _ (by omega)]; exact h.cd k hk
  · rw [other_cell _ _ _ _ _ (by omega)]; exact h.cj k j hk hj
  · rw [other_cell _ _ _ _ _ (by omega)]; exact h.cm k j hk hj
  · rw [frozen_set]; exact h.fz k hk
theorem Lm.setD (h : Lm w b n U D J M) {i : Nat} (hi : i < 8) (f : Nat → Bool) : Lm (w.setCell ⟨b, 9 + i, none⟩ (.int .u8 (mask f))) b n U (upd D i f) J M := by
  refine ⟨?_, fun k hk => ?_, fun k hk => ?_, fun k j hk hj => ?_, fun k j hk hj => ?_, fun k hk => ?_⟩
  · rw [other_cell _ _ _ _ _ (by omega)]; exact h.cn
  · rw [other_cell _ _ _ _ _ (by omega)]; exact h.cu k hk
  · by_cases e : k = i
    · subst e; rw [same_cell _ _ _ _ _ (h.cd k hk)]; simp [upd]
    · rw [other_cell _ _ _ _ _ (by omega), h.cd k hk]; simp [upd, e]
  · rw [other_cell _ _ _ _ _ (by omega)]; exact h.cj k j hk hj
  · rw [other_cell _ _ _ _ _ (by omega)]; exact h.cm k j hk hj
  · rw [frozen_set]; exact h.fz k hk
theorem Lm.setJ (h : Lm w b n U D J M) {i j : Nat} (hi : i < 8) (hj : j < 8) (v : Int) : Lm (w.setCell ⟨b, 17 + i * 8 + j, none⟩ (.int .i8 v)) b n U D (upd2 J i j v) M := by
  refine ⟨?_, fun k hk => ?_, fun k hk => ?_, fun k l hk hl => ?_, fun k l hk hl => ?_, fun k hk => ?_⟩
  · rw [other_cell _ _ _ _ _ (by omega)]; exact h.cn
  · rw [other_cell _ _ _ _ _ (by omega)]; exact h.cu k hk
  · rw [other_cell _ _ _ _ _ (by omega)]; exact h.cd k hk
  · by_cases e : k = i ∧ l = j
    · obtain ⟨rfl, rfl⟩ := e; rw [same_cell _ _ _ _ _ (h.cj k l hk hl)]; simp [upd2]
    · rw [other_cell _ _ _ _ _ (by omega), h.cj k l hk hl]; simp only [upd2, if_neg e]
  · rw [other_cell _ _ _ _ _ (by omega)]; exact h.cm k l hk hl
  · rw [frozen_set]; exact h.fz k hk
theorem Lm.setM (h : Lm w b n U D J M) {i j : Nat} (hi : i < 8) (hj : j < 8) (v : Int) : Lm (w.setCell ⟨b, 81 + i * 8 + j, none⟩ (.int .i8 v)) b n U D J (upd2 M i j v) := by
  refine ⟨?_, fun k hk => ?_, fun k hk => ?_, fun k l hk hl => ?_, fun k l hk hl => ?_, fun k hk => ?_⟩
  · rw [other_cell _ _ _ _ _ (by omega)]; exact h.cn
  · rw [other_cell _ _ _ _ _ (by omega)]; exact h.cu k hk
  · rw [other_cell _ _ _ _ _ (by omega)]; exact h.cd k hk
  · rw [other_cell _ _ _ _ _ (by omega)]; exact h.cj k l hk hl
  · by_cases e : k = i ∧ l = j
    · obtain ⟨rfl, rfl⟩ := e; rw [same_cell _ _ _ _ _ (h.cm k l hk hl)]; simp [upd2]
    · rw [other_cell _ _ _ _ _ (by omega), h.cm k l hk hl]; simp only [upd2, if_neg e]
  · rw [frozen_set]; exact h.fz k hk
theorem Lm.latAt (h : Lm w b n U (fun a c => U c a) J M) : LatAt w b n U J M := ⟨h.cn, h.cu, h.cd, h.cj, h.cm⟩
end

theorem only_refl (w : World) (r : Option Nat) : w.grownBy w r := World.grownBy.refl w r
theorem only_drew {a w : World} {r : Option Nat} (h : a.grownBy w r) : a.grownBy w.drew r := ⟨h.os, h.tape, h.output, h.size, h.block⟩
theorem only_drewN {a w : World} {r : Option Nat} (h : a.grownBy w r) (k : Nat) : a.grownBy (w.drewN k) r := ⟨h.os, h.tape, h.output, h.size, h.block⟩
theorem only_set {a w : World} {g o : Nat} (h : a.grownBy w (some g)) (u : Value) : a.grownBy (w.setCell ⟨g, o, none⟩ u) (some g) :=
  ⟨h.os, h.tape, h.output, by simpa [World.setCell] using h.size, fun i hi hne => (Below.heap_setCell w ⟨g, o, none⟩ u i (by
    rintro rfl
    exact hne rfl)).trans (h.block i hi hne)⟩

def viaTo (R : Rel) (k a : Nat) : Rel := fun x => if x < a then via R k x else R x

theorem viaTo_zero (R : Rel) (k : Nat) : viaTo R k 0 = R := by funext x; simp [viaTo]
theorem viaTo_k (R : Rel) (k a y : Nat) : viaTo R k a k y = R k y := by
  unfold viaTo; split
  · simp only [via]; cases R k y <;> simp
  · rfl
theorem viaTo_here (R : Rel) (k a : Nat) : viaTo R k a a = R a := by simp [viaTo]
theorem viaTo_yes (R : Rel) (k a i j : Nat) (h : R a k = true) : upd (viaTo R k a) a (fun y => R a y || R k y) i j = viaTo R k (a + 1) i j := by
  unfold upd viaTo via
  by_cases e : i = a
  · subst e; simp [h]
  · by_cases e2 : i < a
    · have : i < a + 1 := by omega
      simp [e, e2, this]
    · have : ¬ i < a + 1 := by omega
      simp [e, e2, this]
theorem viaTo_no (R : Rel) (k a i j : Nat) (h : R a k = false) : viaTo R k a i j = viaTo R k (a + 1) i j := by
  unfold viaTo via
  by_cases e : i = a
  · subst e; simp [h]
  · by_cases e2 : i < a
    · have : i < a + 1 := by omega
      simp [e2, this]
    · have : ¬ i < a + 1 := by omega
      simp [e2, this]

end Go.Proofs.Ytpikafadfailkaa
