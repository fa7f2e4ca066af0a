/- Parts of a proof: LatRead. -/
import Derived.Test.YtpmjcbjdcjjplaaGreatProg
import Derived.Test.YtpmjcbjdcjjplaaGreatPack1
import Derived.Test.YtpmjcbjdcjjplaaGreatPack30
namespace Go.Proofs.YtpmjcbjdcjjplaaGreat
open Go.RowKit P
structure LatAt (w : World) (b : Nat) (n : Nat) (R : Rel) (J M : Nat → Nat → Int) : Prop where
  cn : w.cell? ⟨b, 0, none⟩ = some (.int .i64 n)
  cu : ∀ i, i < 8 → w.cell? ⟨b, 1 + i, none⟩ = some (.int .u8 (mask (R i)))
  cd : ∀ i, i < 8 → w.cell? ⟨b, 9 + i, none⟩ = some (.int .u8 (mask (fun a => R a i)))
  cj : ∀ i j, i < 8 → j < 8 → w.cell? ⟨b, 17 + i * 8 + j, none⟩ = some (.int .i8 (J i j))
  cm : ∀ i j, i < 8 → j < 8 → w.cell? ⟨b, 81 + i * 8 + j, none⟩ = some (.int .i8 (M i j))
end Go.Proofs.YtpmjcbjdcjjplaaGreat
