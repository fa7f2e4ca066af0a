/-
  NARROWER THAN 'FOR EVERY INPUT', by the rows' own cells (each row's printed sentence says how): RegionDominates: loops · RegionFalls: loops · RegionChain: loops · RegionLeast: loops · RegionOrders: loops · ModelReach: loops · ModelCounts: loops.
  DERIVED. THE GIVEN ROWS OF THIS SEAT. 7 by the template 'for every input the law returns true; each argument reads behind the call as it read before'; 0 by the template 'total and deterministic' (their statements: YtedajbpjokmlaaaTotals.lean).
  GIVEN WITH THE SEED: the statements are not yours to turn. If you find one false, say at which input.
  Laid BY PROGRAM, IN A SANDBOX (cutbox-rows.mjs): the forced cells as the released guide's own fill.sh prints them over the translation 005b369db5e2a272… (all of the seat's roots in one cut). By AI agents, Wed Nov 11 2026. No macro, syntax, notation, axiom, sorry.
-/
import Derived.Test.YtedajbpjokmlaaaChecked
import GoSem.Claim
import GoSem.ClaimJoined
import GoSem.ClaimMapViews
import Derived.JoinedTies
import Derived.KernelRfl
namespace Go.Proofs.Ytedajbpjokmlaaa
/- THE CELL 'sum', in the pinned program and in every row, IS THE sha256 OF THE DUMP (.gsa) THAT YtedajbpjokmlaaaProg.lean LOADS. Nothing in Lean hashes anything: it is a label: what it is worth is what the hold of that sum in a sandbox is worth. -/
noncomputable def Try.pinned : Pinned := { name := "ytedajbpjokmlaaa", sum := "005b369db5e2a272a8325ee64a088748d89e7b59a9237a181e3699d8c3ee0231", checked := Try.checked }
namespace Rows
def none {H : Type} : Left H := { results := [], args := [] }

/-- 'basculelaw15.RegionDominates': WHATEVER THE INPUT: true; the input reads as it did. -/
def regionDominatesSpec : ChangeSpec := { name := "regionDominates", fn := fun _ => fun
  | [d1, d2] => { results := [.lit (.bool true)], args := [d1, d2] }
  | _ => none }
def regionDominatesRow : OpenClaim := { program := "ytedajbpjokmlaaa", sum := "005b369db5e2a272a8325ee64a088748d89e7b59a9237a181e3699d8c3ee0231", func := "bascule/basculelaw15.RegionDominates", spec := "regionDominates", unfollowed := true, recurses := true, loops := true, apart := false }
def RegionDominatesSaid : Prop := regionDominatesRow.holds Try.pinned (OpenSpec.ofChange regionDominatesSpec)

/-- ITS FALSE NEIGHBOUR: 'it returns false'. Refute it at one input. -/
def regionDominatesWrong : ChangeSpec := { name := "regionDominates", fn := fun _ => fun
  | [d1, d2] => { results := [.lit (.bool false)], args := [d1, d2] }
  | _ => none }
def RegionDominatesWrongFalsely : Prop := regionDominatesRow.holds Try.pinned (OpenSpec.ofChange regionDominatesWrong)

/-- 'basculelaw15.RegionFalls': WHATEVER THE INPUT: true; the input reads as it did. -/
def regionFallsSpec : ChangeSpec := { name := "regionFalls", fn := fun _ => fun
  | [d] => { results := [.lit (.bool true)], args := [d] }
  | _ => none }
def regionFallsRow : OpenClaim := { program := "ytedajbpjokmlaaa", sum := "005b369db5e2a272a8325ee64a088748d89e7b59a9237a181e3699d8c3ee0231", func := "bascule/basculelaw15.RegionFalls", spec := "regionFalls", unfollowed := true, recurses := true, loops := true, apart := false }
def RegionFallsSaid : Prop := regionFallsRow.holds Try.pinned (OpenSpec.ofChange regionFallsSpec)

/-- ITS FALSE NEIGHBOUR: 'it returns false'. Refute it at one input. -/
def regionFallsWrong : ChangeSpec := { name := "regionFalls", fn := fun _ => fun
  | [d] => { results := [.lit (.bool false)], args := [d] }
  | _ => none }
def RegionFallsWrongFalsely : Prop := regionFallsRow.holds Try.pinned (OpenSpec.ofChange regionFallsWrong)

/-- 'basculelaw15.RegionChain': WHATEVER THE INPUT: true; the input reads as it did. -/
def regionChainSpec : ChangeSpec := { name := "regionChain", fn := fun _ => fun
  | [d1, d2] => { results := [.lit (.bool true)], args := [d1, d2] }
  | _ => none }
def regionChainRow : OpenClaim := { program := "ytedajbpjokmlaaa", sum := "005b369db5e2a272a8325ee64a088748d89e7b59a9237a181e3699d8c3ee0231", func := "bascule/basculelaw15.RegionChain", spec := "regionChain", unfollowed := true, recurses := true, loops := true, apart := false }
def RegionChainSaid : Prop := regionChainRow.holds Try.pinned (OpenSpec.ofChange regionChainSpec)

/-- ITS FALSE NEIGHBOUR: 'it returns false'. Refute it at one input. -/
def regionChainWrong : ChangeSpec := { name := "regionChain", fn := fun _ => fun
  | [d1, d2] => { results := [.lit (.bool false)], args := [d1, d2] }
  | _ => none }
def RegionChainWrongFalsely : Prop := regionChainRow.holds Try.pinned (OpenSpec.ofChange regionChainWrong)

/-- 'basculelaw15.RegionLeast': WHATEVER THE INPUT: true; the input reads as it did. -/
def regionLeastSpec : ChangeSpec := { name := "regionLeast", fn := fun _ => fun
  | [d1, d2] => { results := [.lit (.bool true)], args := [d1, d2] }
  | _ => none }
def regionLeastRow : OpenClaim := { program := "ytedajbpjokmlaaa", sum := "005b369db5e2a272a8325ee64a088748d89e7b59a9237a181e3699d8c3ee0231", func := "bascule/basculelaw15.RegionLeast", spec := "regionLeast", unfollowed := true, recurses := true, loops := true, apart := false }
def RegionLeastSaid : Prop := regionLeastRow.holds Try.pinned (OpenSpec.ofChange regionLeastSpec)

/-- ITS FALSE NEIGHBOUR: 'it returns false'. Refute it at one input. -/
def regionLeastWrong : ChangeSpec := { name := "regionLeast", fn := fun _ => fun
  | [d1, d2] => { results := [.lit (.bool false)], args := [d1, d2] }
  | _ => none }
def RegionLeastWrongFalsely : Prop := regionLeastRow.holds Try.pinned (OpenSpec.ofChange regionLeastWrong)

/-- 'basculelaw15.RegionOrders': WHATEVER THE INPUT: true; the input reads as it did. -/
def regionOrdersSpec : ChangeSpec := { name := "regionOrders", fn := fun _ => fun
  | [d] => { results := [.lit (.bool true)], args := [d] }
  | _ => none }
def regionOrdersRow : OpenClaim := { program := "ytedajbpjokmlaaa", sum := "005b369db5e2a272a8325ee64a088748d89e7b59a9237a181e3699d8c3ee0231", func := "bascule/basculelaw15.RegionOrders", spec := "regionOrders", unfollowed := true, recurses := true, loops := true, apart := false }
def RegionOrdersSaid : Prop := regionOrdersRow.holds Try.pinned (OpenSpec.ofChange regionOrdersSpec)

/-- ITS FALSE NEIGHBOUR: 'it returns false'. Refute it at one input. -/
def regionOrdersWrong : ChangeSpec := { name := "regionOrders", fn := fun _ => fun
  | [d] => { results := [.lit (.bool false)], args := [d] }
  | _ => none }
def RegionOrdersWrongFalsely : Prop := regionOrdersRow.holds Try.pinned (OpenSpec.ofChange regionOrdersWrong)

/-- 'basculelaw12.ModelReach': WHATEVER THE INPUT: true; the input reads as it did. -/
def modelReachSpec : ChangeSpec := { name := "modelReach", fn := fun _ => fun
  | [d1, d2] => { results := [.lit (.bool true)], args := [d1, d2] }
  | _ => none }
def modelReachRow : OpenClaim := { program := "ytedajbpjokmlaaa", sum := "005b369db5e2a272a8325ee64a088748d89e7b59a9237a181e3699d8c3ee0231", func := "bascule/basculelaw12.ModelReach", spec := "modelReach", inPlace := ["math.Float64frombits", "internal/bytealg.abigen_runtime_cmpstring"], unfollowed := true, recurses := true, loops := true, apart := false }
def ModelReachSaid : Prop := modelReachRow.holds Try.pinned (OpenSpec.ofChange modelReachSpec)

/-- ITS FALSE NEIGHBOUR: 'it returns false'. Refute it at one input. -/
def modelReachWrong : ChangeSpec := { name := "modelReach", fn := fun _ => fun
  | [d1, d2] => { results := [.lit (.bool false)], args := [d1, d2] }
  | _ => none }
def ModelReachWrongFalsely : Prop := modelReachRow.holds Try.pinned (OpenSpec.ofChange modelReachWrong)

/-- 'basculelaw12.ModelCounts': WHATEVER THE INPUT: true; the input reads as it did. -/
def modelCountsSpec : ChangeSpec := { name := "modelCounts", fn := fun _ => fun
  | [d] => { results := [.lit (.bool true)], args := [d] }
  | _ => none }
def modelCountsRow : OpenClaim := { program := "ytedajbpjokmlaaa", sum := "005b369db5e2a272a8325ee64a088748d89e7b59a9237a181e3699d8c3ee0231", func := "bascule/basculelaw12.ModelCounts", spec := "modelCounts", inPlace := ["math.Float64frombits", "internal/bytealg.abigen_runtime_cmpstring"], unfollowed := true, recurses := true, loops := true, apart := false }
def ModelCountsSaid : Prop := modelCountsRow.holds Try.pinned (OpenSpec.ofChange modelCountsSpec)

/-- ITS FALSE NEIGHBOUR: 'it returns false'. Refute it at one input. -/
def modelCountsWrong : ChangeSpec := { name := "modelCounts", fn := fun _ => fun
  | [d] => { results := [.lit (.bool false)], args := [d] }
  | _ => none }
def ModelCountsWrongFalsely : Prop := modelCountsRow.holds Try.pinned (OpenSpec.ofChange modelCountsWrong)

/- THE SECOND FORM. 'bulk': how many values and letters a reading holds, each counted each time it is reached (what is shared counts as often as it is met; a slice's spare places count too). A statement '..UptoSaid' is the law's where the arguments, and the package variables that the reading takes, are together of bulk at most 1048576: NARROWER than '..Said'. Prove '..Said' where nothing that the law and all that it calls make is longer than what came in: it says more and counts as full. Else prove '..UptoSaid'. A law counts once. -/
mutual
def uptoBulk {H : Type} : DataW H → Nat
  | .lit (.string bytes) => bytes.length + 1
  | .lit _ => 1
  | .nil => 1
  | .ptr d => uptoBulk d + 1
  | .slice elems spare => uptoBulkAll elems + uptoBulkAll spare + 1
  | .agg parts => uptoBulkAll parts + 1
  | .iface _ d => uptoBulk d + 1
  | .map entries => uptoBulkEntries entries + 1
  | .held _ => 1
def uptoBulkAll {H : Type} : List (DataW H) → Nat
  | [] => 0
  | d :: r => uptoBulk d + uptoBulkAll r
def uptoBulkEntries {H : Type} : List (Lit × DataW H) → Nat
  | [] => 0
  | x :: r => uptoBulkEntry x + uptoBulkEntries r
def uptoBulkEntry {H : Type} : Lit × DataW H → Nat
  | (.string bytes, d) => bytes.length + uptoBulk d + 1
  | (_, d) => uptoBulk d + 1
 end
def uptoSmall : (H : Type) → List (DataW H) → Bool := fun _ ds => decide (uptoBulkAll ds ≤ 1048576)
def OpenSpec.upto (s : _root_.Go.ChangeSpec) : _root_.Go.OpenSpec := { _root_.Go.OpenSpec.ofChange s with cond := some uptoSmall }

/-- 'basculelaw15.RegionDominates', WHERE WHAT IT READS IS OF BULK AT MOST 1048576: true; the input reads as it did. -/
def regionDominatesUptoRow : OpenClaim := { program := "ytedajbpjokmlaaa", sum := "005b369db5e2a272a8325ee64a088748d89e7b59a9237a181e3699d8c3ee0231", func := "bascule/basculelaw15.RegionDominates", spec := "regionDominates", unfollowed := true, recurses := true, loops := true, apart := false, narrowed := true }
def RegionDominatesUptoSaid : Prop := regionDominatesUptoRow.holds Try.pinned (OpenSpec.upto regionDominatesSpec)

/-- 'basculelaw15.RegionFalls', WHERE WHAT IT READS IS OF BULK AT MOST 1048576: true; the input reads as it did. -/
def regionFallsUptoRow : OpenClaim := { program := "ytedajbpjokmlaaa", sum := "005b369db5e2a272a8325ee64a088748d89e7b59a9237a181e3699d8c3ee0231", func := "bascule/basculelaw15.RegionFalls", spec := "regionFalls", unfollowed := true, recurses := true, loops := true, apart := false, narrowed := true }
def RegionFallsUptoSaid : Prop := regionFallsUptoRow.holds Try.pinned (OpenSpec.upto regionFallsSpec)

/-- 'basculelaw15.RegionChain', WHERE WHAT IT READS IS OF BULK AT MOST 1048576: true; the input reads as it did. -/
def regionChainUptoRow : OpenClaim := { program := "ytedajbpjokmlaaa", sum := "005b369db5e2a272a8325ee64a088748d89e7b59a9237a181e3699d8c3ee0231", func := "bascule/basculelaw15.RegionChain", spec := "regionChain", unfollowed := true, recurses := true, loops := true, apart := false, narrowed := true }
def RegionChainUptoSaid : Prop := regionChainUptoRow.holds Try.pinned (OpenSpec.upto regionChainSpec)

/-- 'basculelaw15.RegionLeast', WHERE WHAT IT READS IS OF BULK AT MOST 1048576: true; the input reads as it did. -/
def regionLeastUptoRow : OpenClaim := { program := "ytedajbpjokmlaaa", sum := "005b369db5e2a272a8325ee64a088748d89e7b59a9237a181e3699d8c3ee0231", func := "bascule/basculelaw15.RegionLeast", spec := "regionLeast", unfollowed := true, recurses := true, loops := true, apart := false, narrowed := true }
def RegionLeastUptoSaid : Prop := regionLeastUptoRow.holds Try.pinned (OpenSpec.upto regionLeastSpec)

/-- 'basculelaw15.RegionOrders', WHERE WHAT IT READS IS OF BULK AT MOST 1048576: true; the input reads as it did. -/
def regionOrdersUptoRow : OpenClaim := { program := "ytedajbpjokmlaaa", sum := "005b369db5e2a272a8325ee64a088748d89e7b59a9237a181e3699d8c3ee0231", func := "bascule/basculelaw15.RegionOrders", spec := "regionOrders", unfollowed := true, recurses := true, loops := true, apart := false, narrowed := true }
def RegionOrdersUptoSaid : Prop := regionOrdersUptoRow.holds Try.pinned (OpenSpec.upto regionOrdersSpec)

/-- 'basculelaw12.ModelReach', WHERE WHAT IT READS IS OF BULK AT MOST 1048576: true; the input reads as it did. -/
def modelReachUptoRow : OpenClaim := { program := "ytedajbpjokmlaaa", sum := "005b369db5e2a272a8325ee64a088748d89e7b59a9237a181e3699d8c3ee0231", func := "bascule/basculelaw12.ModelReach", spec := "modelReach", inPlace := ["math.Float64frombits", "internal/bytealg.abigen_runtime_cmpstring"], unfollowed := true, recurses := true, loops := true, apart := false, narrowed := true }
def ModelReachUptoSaid : Prop := modelReachUptoRow.holds Try.pinned (OpenSpec.upto modelReachSpec)

/-- 'basculelaw12.ModelCounts', WHERE WHAT IT READS IS OF BULK AT MOST 1048576: true; the input reads as it did. -/
def modelCountsUptoRow : OpenClaim := { program := "ytedajbpjokmlaaa", sum := "005b369db5e2a272a8325ee64a088748d89e7b59a9237a181e3699d8c3ee0231", func := "bascule/basculelaw12.ModelCounts", spec := "modelCounts", inPlace := ["math.Float64frombits", "internal/bytealg.abigen_runtime_cmpstring"], unfollowed := true, recurses := true, loops := true, apart := false, narrowed := true }
def ModelCountsUptoSaid : Prop := modelCountsUptoRow.holds Try.pinned (OpenSpec.upto modelCountsSpec)

end Rows
end Go.Proofs.Ytedajbpjokmlaaa
