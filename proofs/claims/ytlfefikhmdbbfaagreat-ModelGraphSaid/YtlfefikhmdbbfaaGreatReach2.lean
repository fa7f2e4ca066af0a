/- What is reached, whatever node is asked: the document's. -/
import Derived.Test.YtlfefikhmdbbfaaGreatReach
namespace Go.Proofs.YtlfefikhmdbbfaaGreat
open Go.RowKit
set_option linter.unusedVariables false

set_option maxHeartbeats 1000000 in
theorem rreach_any (g : List GN) (a : Int) (c0 c1 c2 c3 c4 v5 : Value) (w : World) (hg : GraphAt w w.heap.size v5 g) (hlen : (edgesOf g).length ≤ 10000) (hgn : g.length ≤ 10000) :
    Calls Tryz.prog 21 #[.agg ⟨[c0, c1, c2, c3, c4, v5]⟩, .int .i64 a] w (IntsPost w (reachL g a)) := by
  by_cases hin : isN g.length a = true
  · obtain ⟨x, hx, hxn⟩ : ∃ x : Nat, a = x ∧ x < g.length := by unfold isN at hin; simp at hin; exact ⟨a.toNat, by omega, by omega⟩
    subst hx
    have : reachL g (x : Int) = listN (reach g.length (graphE g) x) g.length := by unfold reachL; rw [if_pos hin]; simp
    rw [this]
    exact rreach_in g x c0 c1 c2 c3 c4 v5 w hg hlen hgn hxn
  · have hre : reachL g a = [] := by unfold reachL; rw [if_neg hin]
    rw [hre]
    have hno : a < 0 ∨ (g.length : Int) ≤ a := by unfold isN at hin; simp at hin; omega
    obtain ⟨hgl, A, c, rfl, hA⟩ := hg
    clear hA hlen hre hin
    go_enter Tryz.func21, Tryz.ntmps21
    go_upto_region 1 with (fail)
    have HB := Lib.hid (box_below w (.cells ⟨[c0, c1, c2, c3, c4, .slice A g.length c]⟩ 27))
    have HC5 := Lib.hid (cells_box w [c0, c1, c2, c3, c4, .slice A g.length c] 27 5 _ rfl)
    generalize w.alloc (.cells ⟨[c0, c1, c2, c3, c4, .slice A g.length c]⟩ 27) = W at *
    have d5 := HC5.out
    by_cases hneg : a < 0
    · have t1 : decide (a < 0) = true := by simp; omega
      clear hno hneg
      go_wp2
      go_ret
      exact ⟨_, rfl, OwnSl.nil _ _, HB.out⟩
    · have t1 : decide (a < 0) = false := by simp; omega
      have t2 : decide ((g.length : Int) ≤ a) = true := by simp; omega
      clear hno hneg
      go_wp2
      go_ret
      exact ⟨_, rfl, OwnSl.nil _ _, HB.out⟩
end Go.Proofs.YtlfefikhmdbbfaaGreat
