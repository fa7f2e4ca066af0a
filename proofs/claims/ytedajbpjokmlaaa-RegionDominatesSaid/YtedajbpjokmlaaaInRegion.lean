/- No program: a region that draws its order, in a round of a range over a function: an order of one's own choice serves there too, where no operation calls a function. -/
import Derived.Test.YtedajbpjokmlaaaBut
import Derived.OrdersIn
namespace Go.Proofs.Ytedajbpjokmlaaa
open Go Go.RowKit
set_option linter.unusedVariables false

/-- operations that neither call a function nor leave the frame -/
def tame (o : Oper) : Bool :=
  match o.op with
  | .move _ | .assign _ | .load _ _ | .store _ _ _ | .indexAddr _ _ _ | .fieldAddr _ _ _ | .binOp .. | .unOp .. | .slice .. | .buildSlice .. | .extract .. => true
  | .call c => match c.callee with
    | .builtin .min | .builtin .max | .builtin .len | .builtin .append => true
    | _ => false
  | _ => false
def Plain : Result Next → Prop
  | .ok (.value _) _ | .ok .skip _ | .halt _ _ => True
  | _ => False
theorem plain_v (P : Program) (m : Sem Value) (w : World) : Plain ((do pure (Next.value (← m)) : Sem Next).run P w) := by
  simp only [Sem.run_bind, Sem.run_pure]
  cases m.run P w <;> trivial
theorem plain_u (P : Program) (m : Sem Unit) (w : World) : Plain ((do m; pure Next.skip : Sem Next).run P w) := by
  simp only [Sem.run_bind, Sem.run_pure]
  cases m.run P w <;> trivial
theorem plain_tame {o : Oper} (h : tame o = true) (ρ : Operand → Value) (P : Program) (w : World) : Plain ((execOp ρ o).run P w) := by
  unfold tame at h
  unfold execOp
  split at h <;> rename_i ho <;> simp only [ho]
  · trivial
  · trivial
  · exact plain_v ..
  · exact plain_u ..
  · exact plain_v ..
  · exact plain_v ..
  · exact plain_v ..
  · exact plain_v ..
  · exact plain_v ..
  · exact plain_v ..
  · exact plain_v ..
  · split at h <;> rename_i hc <;> simp only [hc, resolve, invoke, Sem.run_bind, Sem.run_pure, Result.andThen_ok, builtin]
    · generalize (Builtin.min_ _ _ _).run P w = r; cases r <;> trivial
    · generalize (Builtin.max_ _ _ _).run P w = r; cases r <;> trivial
    · generalize (Builtin.len_ _ _ _).run P w = r; cases r <;> trivial
    · generalize (Builtin.append_ _ _ _).run P w = r; cases r <;> trivial
    all_goals cases h
  · cases h
theorem about_tame {o : Oper} (h : tame o = true) (P : Program) (w : World) (ρ : Operand → Value) : o.about P w ρ = none := by
  unfold tame at h
  unfold Oper.about
  split at h <;> rename_i ho <;> simp only [ho]
  split at h <;> rename_i hc <;> simp only [hc, resolve, Sem.run_pure]
  all_goals first | rfl | cases h
theorem noDefer_tame {o : Oper} (h : tame o = true) : ∀ c, o.op ≠ .defer c := by
  intro c hc
  unfold tame at h
  rw [hc] at h
  cases h

/-- what follows, where nothing else is left by -/
def onlyN (K : Act → World → Prop) : Exit → Act → World → Prop
  | .normal, a, w => K a w
  | _, _, _ => False
section
variable {F : Fence} {n : Nat} {P : Program} {ops : Array Oper} {Q : Exit → Act → World → Prop} {md : Region.Mode}
theorem opIn_of_op (ht : ∀ (i : Nat) (o : Oper), ops[i]? = some o → tame o = true) {i : Nat} {K K' : Act → World → Prop} (hk : ∀ a w, K a w → K' a w) {R : Act → World → Prop} {a : Act} {w : World} (h : wpOp P ops (onlyN R) i K a w) : wpOpIn F n P ops Q i K' a w := by
  unfold wpOp at h
  unfold wpOpIn
  cases ho : ops[i]? with
  | none => rw [ho] at h; exact hk _ _ h
  | some o =>
    rw [ho] at h
    have hto := ht i o ho
    have hab := about_tame hto P w a.eval
    simp only at h ⊢
    by_cases hw : Region.wanted o (yielded ops a.tmps) = true
    · rw [if_pos hw] at h ⊢
      rcases h with h | ⟨_, ⟨_, _, h⟩⟩
      · refine ⟨fun f hf => (by rw [hab] at hf; cases hf), ?_⟩
        rw [Oper.semAt_eq _ _ _ (noDefer_tame hto)]
        have hp := plain_tame hto a.eval P w
        unfold Oper.wp at h
        generalize (execOp a.eval o).run P w = r at *
        cases r with
        | ok m w' =>
          cases m <;> simp only [Oper.upon, Oper.uponIn, Plain] at h hp ⊢
          · exact hk _ _ h
          · exact hk _ _ h
        | halt x w' =>
          cases x <;> simp only [Oper.upon] at h
          exact h.elim
      · exact h.elim
    · rw [if_neg hw] at h ⊢
      exact ⟨fun f hf => (by rw [hab] at hf; cases hf), hk _ _ h⟩
theorem anyIn_of_any (ht : ∀ (i : Nat) (o : Oper), ops[i]? = some o → tame o = true) {R : Act → World → Prop} (hq : ∀ a w, R a w → Q .normal a w) : ∀ (f : Nat) (listed : Array Bool) (a : Act) (w : World), wpAny P md ops (onlyN R) f listed a w → wpAnyIn F n P md ops Q f listed a w
  | 0, listed, a, w, h => ⟨h.1, hq _ _ h.2⟩
  | f + 1, listed, a, w, h => ⟨fun h0 => hq _ _ (h.1 h0), fun i hi => opIn_of_op ht (fun a w h => anyIn_of_any ht hq f _ a w h) (h.2 i hi)⟩
end
theorem any_ord_tail {P : Program} {Q : Exit → Act → World → Prop} {a : Act} {w : World} {l : List Oper} (n : Nat) (ord : List (Nat × Bool)) (S : World → Prop)
    (hB : ordTB .any l.toArray n ord = true) (hlen : ord.length = n)
    (hQ : ∀ c a d v w, Q (.panic c) (a.put d v) w → Q (.panic c) a w) (h : wpOrd P l.toArray S (Qt P l.toArray Q (l.drop n)) ord a w) : wpAny P .any l.toArray Q l.toArray.size (Array.replicate l.toArray.size false) a w := by
  simp only [ordTB, Bool.and_eq_true, decide_eq_true_eq] at hB
  obtain ⟨⟨⟨⟨hsel, hn⟩, hs⟩, hc⟩, hord⟩ := hB
  have inv0 : HeadInv .any l.toArray n (Array.replicate l.toArray.size false) :=
    ⟨by simp, fun j oj _ hl => (by rw [getD_replicate_false] at hl; cases hl), fun t _ ht => getD_in (by simpa using ht) (getD_replicate_false _ _)⟩
  have H := wpAnyT_of_ord (md := .any) hsel hs hc hn hQ ord _ a _ inv0 hord h
  have hdl : (l.drop n).length = l.toArray.size - n := by simp
  have := wpAny_of_headT (Q := Q) (g := l.toArray.size - n) (fun listed a' w' hL => by
    have := wpAny_of_seq (md := .any) (Q' := Q) (l.drop n) n listed a' w' (fun j => by simp [List.getElem?_drop]) (by rw [hdl]; exact hL.1) hL.2
    rwa [hdl] at this) _ _ _ _ H
  rw [hlen, show n + (l.toArray.size - n) = l.toArray.size by omega] at this
  exact this
def allTame (l : List Oper) : Bool := l.all tame
theorem wpIn_region_ord_tail {F : Fence} {nF : Nat} {P : Program} {Q : Exit → Act → World → Prop} {id : Nat} {a : Act} {w : World} {l : List Oper} (n : Nat) (ord : List (Nat × Bool)) (S : World → Prop) (hm : P.follows .mixedOrders = true)
    (hB : ordTB .any l.toArray n ord = true) (hlen : ord.length = n) (ht : allTame l = true) (R : Act → World → Prop) (hq : ∀ a w, R a w → Q .normal a w)
    (h : wpOrd P l.toArray S (Qt P l.toArray (onlyN R) (l.drop n)) ord a w.drew) : (Code.region id l.toArray true).wpIn F nF P Q a w := by
  refine wpIn_region_any hm (anyIn_of_any (fun i o ho => ?_) hq _ _ _ _ (any_ord_tail n ord S hB hlen (fun c a d v w h => h) h))
  have := List.all_eq_true.1 ht o (List.mem_of_getElem? (by simpa using ho))
  exact this
end Go.Proofs.Ytedajbpjokmlaaa
