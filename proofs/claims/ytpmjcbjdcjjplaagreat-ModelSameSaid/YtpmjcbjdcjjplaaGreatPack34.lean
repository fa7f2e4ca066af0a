/- Parts of a proof: LatTab, LatMake, LatR. -/
import Derived.StillTailTactics
import Derived.Deep.LoopGhost
import Derived.WalkMore
import Derived.Deep.Cut
import Derived.Deep.DeepCutAuto
import Derived.Outline
import Derived.Test.YtpmjcbjdcjjplaaGreatPack33
section
namespace Go.Proofs.YtpmjcbjdcjjplaaGreat
open Go.RowKit P
def tab (n : Nat) (T : Nat → Nat → Int) : Nat → Nat → Int := fun a b => if a < n ∧ b < n then T a b else 0
end Go.Proofs.YtpmjcbjdcjjplaaGreat
end
section
namespace Go.Proofs.YtpmjcbjdcjjplaaGreat
open Go.RowKit P
theorem cell_new (w : World) (cs : Array Value) (T : TypeId) (i : Nat) : (w.alloc (.cells cs T)).cell? ⟨w.heap.size, i, none⟩ = cs[i]? :=
  cell_of_row _ w.heap.size i cs T (0, 0) (heap_alloc_new w _)
theorem frozen_new (w : World) (cs : Array Value) (T : TypeId) (i : Nat) : (w.alloc (.cells cs T)).frozen? ⟨w.heap.size, i, none⟩ = false := by
  have h := heap_alloc_new w (.cells cs T)
  unfold World.frozen?
  rw [h]
  simp
theorem Lm.alloc {w : World} {b n : Nat} {U D : Rel} {J M : Nat → Nat → Int} (h : Lm w b n U D J M) (hb : b < w.heap.size) (o : Obj) : Lm (w.alloc o) b n U D J M :=
  h.below ((Below.refl w.heap.size w).alloc (Nat.le_refl _) o) hb
theorem take_snoc {α : Type} {ps : List α} {i : Nat} {p : α} (h : ps[i]? = some p) : ps.take (i + 1) = ps.take i ++ [p] := by
  rw [List.take_add_one, h]; rfl
structure LatR (w : World) (b n : Nat) (L : Rel) : Prop where
  at_ : LatAt w b n L (tab n (jn n L)) (tab n (mt n L))
  lat : Lat n L
  le8 : n ≤ 8
  lt : b < w.heap.size
end Go.Proofs.YtpmjcbjdcjjplaaGreat
end
section
namespace Go.Proofs.YtpmjcbjdcjjplaaGreat
open Go.RowKit P
theorem LatAt.cells {w w' : World} {b n : Nat} {R : Rel} {J M : Nat → Nat → Int} (h : LatAt w b n R J M) (hc : ∀ o, w'.cell? ⟨b, o, none⟩ = w.cell? ⟨b, o, none⟩) : LatAt w' b n R J M :=
  ⟨(hc _).trans h.cn, fun i hi => (hc _).trans (h.cu i hi), fun i hi => (hc _).trans (h.cd i hi), fun i j hi hj => (hc _).trans (h.cj i j hi hj), fun i j hi hj => (hc _).trans (h.cm i j hi hj)⟩
section
variable {w w' : World} {b n : Nat} {L : Rel}
theorem LatR.below {B : Nat} (h : LatR w b n L) (hb : Below B w w') (hB : b < B) : LatR w' b n L :=
  ⟨h.at_.cells fun o => hb.cell (p := ⟨b, o, none⟩) hB, h.lat, h.le8, Nat.lt_of_lt_of_le h.lt hb.size⟩
theorem LatR.here (h : LatR w b n L) (hb : Below w.heap.size w w') : LatR w' b n L := h.below hb h.lt
theorem LatR.drew (h : LatR w b n L) : LatR w.drew b n L := ⟨h.at_.cells fun _ => rfl, h.lat, h.le8, h.lt⟩
theorem LatR.drewN (h : LatR w b n L) (k : Nat) : LatR (w.drewN k) b n L := ⟨h.at_.cells fun _ => rfl, h.lat, h.le8, h.lt⟩
theorem LatR.alloc (h : LatR w b n L) (o : Obj) : LatR (w.alloc o) b n L := h.here ((Below.refl w.heap.size w).alloc (Nat.le_refl _) o)
theorem LatR.grown (h : LatR w b n L) {row : Option Nat} (hg : w.grownBy w' row) (hr : row ≠ some b) : LatR w' b n L :=
  ⟨h.at_.cells fun _ => World.cell?_of_block (hg.block b h.lt (fun e => hr e.symm)), h.lat, h.le8, Nat.lt_of_lt_of_le h.lt hg.size⟩
end
end Go.Proofs.YtpmjcbjdcjjplaaGreat
end
