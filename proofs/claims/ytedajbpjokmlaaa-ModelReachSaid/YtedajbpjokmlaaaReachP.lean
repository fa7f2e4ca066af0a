/- No program: what is reached; the plain law of ModelReach. -/
import Derived.Test.YtedajbpjokmlaaaModA
namespace Go.Proofs.Ytedajbpjokmlaaa
open Go Go.RowKit
set_option linter.unusedVariables false

def reachM (g : List GN) (r j : Nat) : Bool := reach g.length (graphE g) r j
theorem hasR_end {g : List GN} {r j : Nat} (hr : r < g.length) (hj : j < g.length) : hasK (reachL g (r : Int)) (reachL g (r : Int)).length j = reachM g r j := by
  rw [hasK_end]
  unfold reachL reachM
  rw [if_pos (isN_nat hr), Int.toNat_natCast, listN_has hj]
theorem reachL_mem {g : List GN} {r k : Nat} {x : Int} (hr : r < g.length) (h : (reachL g (r : Int))[k]? = some x) : ∃ y : Nat, x = y ∧ y < g.length ∧ reachM g r y = true := by
  unfold reachL at h
  rw [if_pos (isN_nat hr), Int.toNat_natCast] at h
  exact listN_at h
theorem reachM_edge {g : List GN} {r : Nat} {e : EdgeT} {y : Nat} (he : e ∈ edgesOf g) (hy : e.2.2 = (y : Int)) (hyn : y < g.length) (h : e.1 = r ∨ reachM g r e.1 = true) : reachM g r y = true := by
  have hm : (e.1, y) ∈ graphE g := by
    unfold graphE inE
    rw [List.mem_map]
    exact ⟨e, List.mem_filter.2 ⟨he, okE_iff.2 (by omega)⟩, by rw [hy, Int.toNat_natCast]⟩
  exact reach_closed (fun e he => (graphE_lt e he).2) _ hm h
theorem reachM_trans {g : List GN} {r x y : Nat} (h1 : reachM g r x = true) (h2 : reachM g x y = true) : reachM g r y = true := by
  have hE : ∀ e ∈ graphE g, e.2 < g.length := fun e he => (graphE_lt e he).2
  exact (reach_iff hE).2 (((reach_iff hE).1 h1).trans ((reach_iff hE).1 h2))
end Go.Proofs.Ytedajbpjokmlaaa
