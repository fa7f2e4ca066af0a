/- Parts of a proof: LatMem, LatClose. -/
import Derived.RegionTactic
import Derived.BigRegion
import Derived.Test.YtpmjcbjdcjjplaaGreatPack32
section
namespace Go.Proofs.YtpmjcbjdcjjplaaGreat
open Go.RowKit P
def upd2 {α : Type} (f : Nat → Nat → α) (i j : Nat) (v : α) : Nat → Nat → α := fun x y => if x = i ∧ y = j then v else f x y
structure Lm (w : World) (b : Nat) (n : Nat) (U D : Rel) (J M : Nat → Nat → Int) : Prop where
  cn : w.cell? ⟨b, 0, none⟩ = some (.int .i64 n)
  cu : ∀ i, i < 8 → w.cell? ⟨b, 1 + i, none⟩ = some (.int .u8 (mask (U i)))
  cd : ∀ i, i < 8 → w.cell? ⟨b, 9 + i, none⟩ = some (.int .u8 (mask (D i)))
  cj : ∀ i j, i < 8 → j < 8 → w.cell? ⟨b, 17 + i * 8 + j, none⟩ = some (.int .i8 (J i j))
  cm : ∀ i j, i < 8 → j < 8 → w.cell? ⟨b, 81 + i * 8 + j, none⟩ = some (.int .i8 (M i j))
  fz : ∀ i, i < 145 → w.frozen? ⟨b, i, none⟩ = false
section
variable {w w' : World} {b n : Nat} {U D : Rel} {J M : Nat → Nat → Int}
theorem Lm.keep (h : Lm w b n U D J M) (hc : ∀ o, w'.cell? ⟨b, o, none⟩ = w.cell? ⟨b, o, none⟩) (hf : ∀ o, w'.frozen? ⟨b, o, none⟩ = w.frozen? ⟨b, o, none⟩) : Lm w' b n U D J M :=
  ⟨(hc _).trans h.cn, fun i hi => (hc _).trans (h.cu i hi), fun i hi => (hc _).trans (h.cd i hi), fun i j hi hj => (hc _).trans (h.cj i j hi hj),
    fun i j hi hj => (hc _).trans (h.cm i j hi hj), fun i hi => (hf _).trans (h.fz i hi)⟩
theorem Lm.drew (h : Lm w b n U D J M) : Lm w.drew b n U D J M := h.keep (fun _ => rfl) (fun _ => rfl)
theorem Lm.drewN (h : Lm w b n U D J M) (k : Nat) : Lm (w.drewN k) b n U D J M := h.keep (fun _ => rfl) (fun _ => rfl)
theorem Lm.below {B : Nat} (h : Lm w b n U D J M) (hb : Below B w w') (hB : b < B) : Lm w' b n U D J M :=
  h.keep (fun o => hb.cell (p := ⟨b, o, none⟩) hB) (fun o => hb.frozen (p := ⟨b, o, none⟩) hB)
theorem Lm.congr {U' D' : Rel} {J' M' : Nat → Nat → Int} (h : Lm w b n U D J M) (hu : ∀ i j, i < 8 → j < 8 → U i j = U' i j) (hd : ∀ i j, i < 8 → j < 8 → D i j = D' i j)
    (hj : ∀ i j, i < 8 → j < 8 → J i j = J' i j) (hm : ∀ i j, i < 8 → j < 8 → M i j = M' i j) : Lm w b n U' D' J' M' :=
  ⟨h.cn, fun i hi => by rw [h.cu i hi, mask_ext (hu i · hi)], fun i hi => by rw [h.cd i hi, mask_ext (hd i · hi)],
    fun i j hi hj' => by rw [h.cj i j hi hj', hj i j hi hj'], fun i j hi hj' => by rw [h.cm i j hi hj', hm i j hi hj'], h.fz⟩
theorem other_cell (w : World) (b o p : Nat) (v : Value) (h : p ≠ o) : (w.setCell ⟨b, o, none⟩ v).cell? ⟨b, p, none⟩ = w.cell? ⟨b, p, none⟩ :=
  World.cell?_setCell_other w ⟨b, o, none⟩ ⟨b, p, none⟩ v (fun e => h (by injection e with _ e2 _; exact e2.symm))
theorem frozen_set (w : World) (a p : Addr) (v : Value) : (w.setCell a v).frozen? p = w.frozen? p := by simp
theorem same_cell (w : World) (b o : Nat) (u v : Value) (h : w.cell? ⟨b, o, none⟩ = some u) : (w.setCell ⟨b, o, none⟩ v).cell? ⟨b, o, none⟩ = some v :=
  World.cell?_setCell_same w ⟨b, o, none⟩ v h
end
end Go.Proofs.YtpmjcbjdcjjplaaGreat
end
section
namespace Go.Proofs.YtpmjcbjdcjjplaaGreat
open Go.RowKit P
def dn (R : Rel) (x y : Nat) : Rel := fun i a => (decide (a < x) || (decide (a = x) && decide (i < y))) && R a i
end Go.Proofs.YtpmjcbjdcjjplaaGreat
end
