/- Parts of a proof: Row. -/
import Derived.Test.YtpmjcbjdcjjplaaGreatDoorPackS8
set_option maxHeartbeats 8000000
set_option maxRecDepth 100000
set_option linter.unusedVariables false
set_option linter.unusedSimpArgs false
namespace Go.Proofs.YtpmjcbjdcjjplaaGreatDoor
open Go Go.RowKit
structure RowF (w:World) (g n:Nat) (f:Nat->Value):Prop where
 c:∀ i,i < n->w.cell? ⟨g,i,none⟩= some (f i)
 fz:∀ i,i < n->w.frozen? ⟨g,i,none⟩= false
theorem RowF.keep {w w':World} {g n:Nat} {f:Nat->Value} (h:RowF w g n f) (hb:w'.heap[g]?= w.heap[g]?):RowF w' g n f:=
 ⟨fun i hi=>(World.cell?_of_block (a:=⟨g,i,none⟩) hb).trans (h.c i hi),fun i hi=>(World.frozen?_of_block (a:=⟨g,i,none⟩) hb).trans (h.fz i hi)⟩
theorem RowF.below {w w':World} {g n B:Nat} {f:Nat->Value} (h:RowF w g n f) (hb:Below B w w') (hg:g < B):RowF w' g n f:=h.keep (hb.block g hg)
theorem RowF.drewN {w:World} {g n:Nat} {f:Nat->Value} (h:RowF w g n f) (k:Nat):RowF (w.drewN k) g n f:=⟨h.c,h.fz⟩
theorem RowF.congr {w:World} {g n:Nat} {f f':Nat->Value} (h:RowF w g n f) (hf:∀ i,i < n->f i= f' i):RowF w g n f':=
 ⟨fun i hi=>by rw[← hf i hi];exact h.c i hi,h.fz⟩
theorem RowF.set {w:World} {g n:Nat} {f:Nat->Value} (h:RowF w g n f) {i:Nat} (hi:i < n) (v:Value):RowF (w.setCell ⟨g,i,none⟩ v) g n (fun j=>if j= i then v else f j):=by
 refine⟨fun j hj=> ?_,fun j hj=> ?_⟩
 ·by_cases e:j= i
  ·subst e
   rw[World.cell?_setCell_same _ _ _ (h.c j hj),if_pos rfl]
  ·rw[World.cell?_setCell_other _ _ _ _ (by intro h;injection h with _ h _;exact e h.symm),if_neg e]
   exact h.c j hj
 ·rw[World.frozen?_setCell];exact h.fz j hj
end Go.Proofs.YtpmjcbjdcjjplaaGreatDoor
