/- A whole load of a model in a region that draws its order. -/
import Derived.Test.YtedajbpjokmlaaaLaw15b
namespace Go.Proofs.Ytedajbpjokmlaaa
open Go Go.RowKit
set_option linter.unusedVariables false

section
variable {P : Program} {ops : Array Oper} {S : World → Prop} {Q : Exit → Act → World → Prop} {i : Nat} {r : List (Nat × Bool)} {a : Act} {w : World}
theorem ord_passd (d : Option Tmp) (o : Oper) (hi : ops[i]? = some o) (hd : o.dst = d) (hw : Region.wanted o (yielded ops a.tmps) = false) (hS : S w) (h : wpOrd P ops S Q r (a.put d undef) w) :
    wpOrd P ops S Q ((i, false) :: r) a w := by subst hd; exact ord_pass o hi hw hS h
theorem ord_skipd (d : Option Tmp) (o : Oper) (hi : ops[i]? = some o) (hd : o.dst = d) (hw : Region.wanted o (yielded ops a.tmps) = false) (hS : S w) (h : wpOrd P ops S Q r (a.put d undef) w) :
    wpOrd P ops S Q ((i, true) :: r) a w := by subst hd; exact ord_skip o hi hw hS h
end
theorem exec_mload (a : Act) (o : Oper) {x : Operand} (ho : o.op = .load 27 x) (b : Nat) (cs : List Value) {w : World} (hl : cs.length = 6) (hx : a.eval x = .pointer (some ⟨b, 0, none⟩)) (hm : w.rangeAt b 0 cs) :
    (execOp a.eval o).run Try.prog w = .ok (.value (.agg ⟨cs⟩)) w := by
  unfold execOp
  simp only [ho, hx, Instr.loadAt, Instr.sureAddr, Sem.run_bind, Sem.run_pure, Result.andThen_ok,
    run_loadVar_mid (P := Try.prog) w b 0 27 cs _ hm Try.underlying27 rfl (by rw [hl]; kernel_rfl)]
theorem ordL_len (g : List GN) : (ordL g).length ≤ g.length := by
  unfold ordL
  split
  · rw [natsI_len]
    exact (order_topo (n := g.length) (E := graphE g) g.length (Topo.nil _ _)).len
  · simp
theorem loopsOf_len (g : List GN) : (loopsOf g).length ≤ g.length := listN_len _ _
end Go.Proofs.Ytedajbpjokmlaaa
