/- Parts of a proof: Order, Order3. -/
import Derived.OrdersHeld
import Derived.BigQuiet
import Derived.WalkKit
section
namespace Go.Proofs.YtpmjcbjdcjjplaaGreat
open Go
def ordB (md : Region.Mode) (ops : Array Oper) : List (Nat × Bool) → Array Bool → Bool
  | [], listed => (Region.ready md ops listed).isEmpty
  | (i, true) :: r, listed => Region.free md ops listed i && (Region.ready md ops listed).contains i && ordB md ops r (listed.setIfInBounds i true)
  | (i, false) :: r, listed => (Region.ready md ops listed == [i]) && ordB md ops r (listed.setIfInBounds i true)
def wpOrd (P : Program) (ops : Array Oper) (S : World → Prop) (Q : Exit → Act → World → Prop) : List (Nat × Bool) → Act → World → Prop
  | [], a, w => Q .normal a w
  | (i, true) :: r, a, w => S w ∧ ∃ o v, ops[i]? = some o ∧ YieldsIf P ops S o v a ∧ wpOrd P ops S Q r (a.put o.dst v) w
  | (i, false) :: r, a, w => wpOp P ops Q i (fun a' w' => S w' ∧ wpOrd P ops S Q r a' w') a w
section
variable {P : Program} {ops : Array Oper} {S : World → Prop} {Q : Exit → Act → World → Prop}
theorem wpAnyH_of_ord (hs : Region.noSelect ops = true) (hQ : ∀ c a d v w, Q (.panic c) (a.put d v) w → Q (.panic c) a w) :
    ∀ (ord : List (Nat × Bool)) (listed : Array Bool) (a : Act) (w : World), ordB .any ops ord listed = true → wpOrd P ops S Q ord a w → wpAnyH P .any ops Q S ord.length listed a w
  | [], listed, a, w, hB, h => wpAnyH_done (by simpa [ordB] using hB) h _
  | (i, true) :: r, listed, a, w, hB, h => by
    simp only [ordB, Bool.and_eq_true] at hB
    obtain ⟨hS, o, v, hi, hy, hr⟩ := h
    exact wpAnyH_take hi hs hB.1.1 hB.1.2 (fun c a w hq => hQ c a _ _ w hq) hy hS (wpAnyH_of_ord hs hQ r _ _ _ hB.2 hr)
  | (i, false) :: r, listed, a, w, hB, h => by
    simp only [ordB, Bool.and_eq_true, beq_iff_eq] at hB
    refine wpAnyH_all hB.1 (by simp) fun j hj => ?_
    obtain rfl : j = i := by simpa using hj
    exact wpOp_mono (fun a' w' hh => ⟨hh.1, wpAnyH_of_ord hs hQ r _ _ _ hB.2 hh.2⟩) h
theorem wp_region_ord {id : Nat} {a : Act} {w : World} {l : List Oper} (ord : List (Nat × Bool)) (S : World → Prop) (hm : P.follows .mixedOrders = true) (hs : Region.noSelect l.toArray = true)
    (hB : ordB .any l.toArray ord (Array.replicate l.toArray.size false) = true) (hlen : ord.length = l.toArray.size)
    (hQ : ∀ c a d v w, Q (.panic c) (a.put d v) w → Q (.panic c) a w) (h : wpOrd P l.toArray S Q ord a w.drew) : (Code.region id l.toArray true).wp P Q a w := by
  refine wp_region_held (S := S) hm ?_
  have := wpAnyH_of_ord hs hQ ord _ a w.drew hB h
  rw [hlen] at this
  exact this
variable {i : Nat} {r : List (Nat × Bool)} {o : Oper} {a : Act} {w : World}
theorem ord_val (o : Oper) (v : Value) (hi : ops[i]? = some o) (hw : Region.wanted o (yielded ops a.tmps) = true) (hS : S w) (hv : ∀ w, S w → (execOp a.eval o).run P w = .ok (.value v) w)
    (h : wpOrd P ops S Q r (a.put o.dst v) w) : wpOrd P ops S Q ((i, true) :: r) a w :=
  ⟨hS, o, v, hi, .inl ⟨hw, hv⟩, h⟩
theorem ord_load (d : Option Tmp) (v : Value) (o : Oper) (hi : ops[i]? = some o) (hd : o.dst = d) (hw : Region.wanted o (yielded ops a.tmps) = true) (hS : S w) (hv : ∀ w, S w → (execOp a.eval o).run P w = .ok (.value v) w)
    (h : wpOrd P ops S Q r (a.put d v) w) : wpOrd P ops S Q ((i, true) :: r) a w := by
  subst hd; exact ord_val o v hi hw hS hv h
theorem ord_move (d : Option Tmp) (v : Value) (o : Oper) (x : Operand) (hi : ops[i]? = some o) (ho : o.op = .move x) (hd : o.dst = d) (hw : Region.wanted o (yielded ops a.tmps) = true) (hS : S w) (hv : a.eval x = v)
    (h : wpOrd P ops S Q r (a.put d v) w) : wpOrd P ops S Q ((i, true) :: r) a w := by
  subst hd; subst hv; exact ord_val o _ hi hw hS (fun w _ => by rw [BigFrame.run_move x ho]) h
theorem ord_assign (d : Option Tmp) (v : Value) (o : Oper) (x : Operand) (hi : ops[i]? = some o) (ho : o.op = .assign x) (hd : o.dst = d) (hw : Region.wanted o (yielded ops a.tmps) = true) (hS : S w) (hv : a.eval x = v)
    (h : wpOrd P ops S Q r (a.put d v) w) : wpOrd P ops S Q ((i, true) :: r) a w := by
  subst hd; subst hv; exact ord_val o _ hi hw hS (fun w _ => by rw [BigFrame.run_assign x ho]) h
theorem ord_act (o : Oper) (hi : ops[i]? = some o) (hw : Region.wanted o (yielded ops a.tmps) = true) (h : ∀ K : Act → World → Prop, (∀ a' w', S w' → wpOrd P ops S Q r a' w' → K a' w') → o.wp P a w K Q) :
    wpOrd P ops S Q ((i, false) :: r) a w := by
  show wpOp P ops Q i _ a w
  unfold wpOp
  simp only [hi, hw, if_true]
  exact .inl (h _ fun a' w' hS h => ⟨hS, h⟩)
theorem ord_end (h : Q .normal a w) : wpOrd P ops S Q [] a w := h
theorem ord_call (o : Oper) (f : FuncId) (args : Array Value) (hi : ops[i]? = some o) (hw : Region.wanted o (yielded ops a.tmps) = true) (hrun : (execOp a.eval o).run P w = .ok (.enter f args) w)
    (h : Calls P f args w fun e w' => ∃ v, e = .returned v ∧ S w' ∧ wpOrd P ops S Q r (a.put o.dst v) w') : wpOrd P ops S Q ((i, false) :: r) a w :=
  ord_act o hi hw fun K hK => by
    unfold Oper.wp
    rw [hrun, Oper.upon_enter]
    refine h.mono fun e w' he => ?_
    obtain ⟨v, rfl, hS, hh⟩ := he
    exact hK _ _ hS hh
theorem wanted_none {y : Nat → Option Bool} (hg : o.guard = none) : Region.wanted o y = true := by unfold Region.wanted; rw [hg]
theorem yielded_of {og : Oper} {g d : Nat} {b : Bool} (hog : ops[g]? = some og) (hd : og.dst = some d) (hv : a.tmps.getD d undef = .bool b) : yielded ops a.tmps g = some b := by
  unfold yielded
  rw [hog, Option.bind_some, hd, Option.bind_some]
  rw [Array.getD_eq_getD_getElem?] at hv
  cases h : a.tmps[d]? with
  | none => rw [h] at hv; simp [undef] at hv
  | some v => rw [h] at hv; simp at hv; rw [hv]
theorem wanted_if {g d : Nat} {b : Bool} {og : Oper} (hg : o.guard = some (g, b)) (hog : ops[g]? = some og) (hd : og.dst = some d) (hv : a.tmps.getD d undef = .bool b) :
    Region.wanted o (yielded ops a.tmps) = true := by
  unfold Region.wanted
  rw [hg]
  simp only [yielded_of hog hd hv]
  simp
def wantB (o : Oper) (ops : Array Oper) (tmps : Array Value) : Bool :=
  match o.guard with
  | none => true
  | some (g, b) =>
    match ops[g]? with
    | none => false
    | some og =>
      match og.dst with
      | none => false
      | some d =>
        match tmps.getD d undef with
        | .bool c => c == b
        | _ => false
theorem wantA {ops : Array Oper} {o : Oper} {a : Act} (h : wantB o ops a.tmps = true) : Region.wanted o (yielded ops a.tmps) = true := by
  unfold wantB at h
  cases hg : o.guard with
  | none => exact wanted_none hg
  | some gb =>
    obtain ⟨g, b⟩ := gb
    rw [hg] at h
    dsimp only at h
    cases ho : ops[g]? with
    | none => rw [ho] at h; cases h
    | some og =>
      rw [ho] at h
      dsimp only at h
      cases hd : og.dst with
      | none => rw [hd] at h; cases h
      | some d =>
        rw [hd] at h
        dsimp only at h
        split at h
        · next c hv =>
          rw [eq_of_beq h] at hv
          exact wanted_if hg ho hd hv
        · cases h
theorem exec_call {f : FuncId} {fn : Func} (hf : P.funcs[f]? = some fn) (hn : (fn.name == "runtime.NumGoroutine") = false) (hb : fn.body.isNone = false)
    (o : Oper) (args : Array Operand) (ts : Array TypeId) (ho : o.op = .call { callee := .value (.func f), args := args, argTypes := ts }) : (execOp a.eval o).run P w = .ok (.enter f (args.map a.eval)) w := by
  unfold execOp
  simp only [ho]
  simp [resolve, Deferred.ofValue, Act.eval, invoke, callFunc, hf]
  rw [if_neg (by simpa using hn), if_neg (by intro h; rw [h] at hb; cases hb)]
theorem ord_to (d : Option Tmp) (f : FuncId) {fn : Func} (hf : P.funcs[f]? = some fn) (hn : (fn.name == "runtime.NumGoroutine") = false) (hb : fn.body.isNone = false) (vals : List Value)
    (o : Oper) (args : List Operand) (ts : Array TypeId) (hi : ops[i]? = some o) (ho : o.op = .call { callee := .value (.func f), args := args.toArray, argTypes := ts })
    (hd : o.dst = d) (hw : Region.wanted o (yielded ops a.tmps) = true) (hv : args.map a.eval = vals)
    (h : Calls P f vals.toArray w fun e w' => ∃ v, e = .returned v ∧ S w' ∧ wpOrd P ops S Q r (a.put d v) w') : wpOrd P ops S Q ((i, false) :: r) a w :=
  ord_call o f vals.toArray hi hw (by rw [← hv, ← List.map_toArray]; exact exec_call hf hn hb o args.toArray ts ho) (hd ▸ h)
end
end Go.Proofs.YtpmjcbjdcjjplaaGreat
end
section
namespace Go.Proofs.YtpmjcbjdcjjplaaGreat
open Go
inductive OrdT where
  | done
  | take (i : Nat) (r : OrdT)
  | act (i : Nat) (r : OrdT)
  | two (i j : Nat) (r s : OrdT)
def OrdT.len : OrdT → Nat
  | .done => 0
  | .take _ r => r.len + 1
  | .act _ r => r.len + 1
  | .two _ _ r _ => r.len + 1
def OrdT.ok (md : Region.Mode) (ops : Array Oper) : OrdT → Array Bool → Bool
  | .done, listed => (Region.ready md ops listed).isEmpty
  | .take i r, listed => Region.free md ops listed i && (Region.ready md ops listed).contains i && r.ok md ops (listed.setIfInBounds i true)
  | .act i r, listed => (Region.ready md ops listed == [i]) && r.ok md ops (listed.setIfInBounds i true)
  | .two i j r s, listed => (Region.ready md ops listed == [i, j]) && r.ok md ops (listed.setIfInBounds i true) && s.ok md ops (listed.setIfInBounds j true) && (r.len == s.len)
def wpTree (P : Program) (ops : Array Oper) (S : World → Prop) (Q : Exit → Act → World → Prop) : OrdT → Act → World → Prop
  | .done, a, w => Q .normal a w
  | .take i r, a, w => S w ∧ ∃ o v, ops[i]? = some o ∧ YieldsIf P ops S o v a ∧ wpTree P ops S Q r (a.put o.dst v) w
  | .act i r, a, w => wpOp P ops Q i (fun a' w' => S w' ∧ wpTree P ops S Q r a' w') a w
  | .two i j r s, a, w => wpOp P ops Q i (fun a' w' => S w' ∧ wpTree P ops S Q r a' w') a w ∧ wpOp P ops Q j (fun a' w' => S w' ∧ wpTree P ops S Q s a' w') a w
def OrdT.of : List (Nat × Bool) → OrdT → OrdT
  | [], t => t
  | (i, true) :: r, t => .take i (OrdT.of r t)
  | (i, false) :: r, t => .act i (OrdT.of r t)
section
variable {P : Program} {ops : Array Oper} {S : World → Prop} {Q : Exit → Act → World → Prop}
theorem wpAnyH_of_tree (hs : Region.noSelect ops = true) (hQ : ∀ c a d v w, Q (.panic c) (a.put d v) w → Q (.panic c) a w) :
    ∀ (t : OrdT) (listed : Array Bool) (a : Act) (w : World), t.ok .any ops listed = true → wpTree P ops S Q t a w → wpAnyH P .any ops Q S t.len listed a w
  | .done, listed, a, w, hB, h => wpAnyH_done (by simpa [OrdT.ok] using hB) h _
  | .take i r, listed, a, w, hB, h => by
    simp only [OrdT.ok, Bool.and_eq_true] at hB
    obtain ⟨hS, o, v, hi, hy, hr⟩ := h
    exact wpAnyH_take hi hs hB.1.1 hB.1.2 (fun c a w hq => hQ c a _ _ w hq) hy hS (wpAnyH_of_tree hs hQ r _ _ _ hB.2 hr)
  | .act i r, listed, a, w, hB, h => by
    simp only [OrdT.ok, Bool.and_eq_true, beq_iff_eq] at hB
    refine wpAnyH_all hB.1 (by simp) fun j hj => ?_
    obtain rfl : j = i := by simpa using hj
    exact wpOp_mono (fun a' w' hh => ⟨hh.1, wpAnyH_of_tree hs hQ r _ _ _ hB.2 hh.2⟩) h
  | .two i j r s, listed, a, w, hB, h => by
    simp only [OrdT.ok, Bool.and_eq_true, beq_iff_eq] at hB
    obtain ⟨⟨⟨h1, h2⟩, h3⟩, h4⟩ := hB
    refine wpAnyH_all h1 (by simp) fun k hk => ?_
    rcases List.mem_cons.1 hk with rfl | hk
    · exact wpOp_mono (fun a' w' hh => ⟨hh.1, wpAnyH_of_tree hs hQ r _ _ _ h2 hh.2⟩) h.1
    · obtain rfl : k = j := by simpa using hk
      refine wpOp_mono (fun a' w' hh => ⟨hh.1, ?_⟩) h.2
      have := wpAnyH_of_tree hs hQ s _ _ _ h3 hh.2
      rw [← h4] at this
      exact this
theorem wp_region_tree {id : Nat} {a : Act} {w : World} {l : List Oper} (t : OrdT) (S : World → Prop) (hm : P.follows .mixedOrders = true) (hs : Region.noSelect l.toArray = true)
    (hB : t.ok .any l.toArray (Array.replicate l.toArray.size false) = true) (hlen : t.len = l.toArray.size)
    (hQ : ∀ c a d v w, Q (.panic c) (a.put d v) w → Q (.panic c) a w) (h : wpTree P l.toArray S Q t a w.drew) : (Code.region id l.toArray true).wp P Q a w := by
  refine wp_region_held (S := S) hm ?_
  have := wpAnyH_of_tree hs hQ t _ a w.drew hB h
  rw [hlen] at this
  exact this
end
section
variable {P : Program} {ops : Array Oper} {S : World → Prop} {Q : Exit → Act → World → Prop} {i : Nat} {r : OrdT} {a : Act} {w : World}
theorem tree_val (o : Oper) (v : Value) (hi : ops[i]? = some o) (hw : Region.wanted o (yielded ops a.tmps) = true) (hS : S w) (hv : ∀ w, S w → (execOp a.eval o).run P w = .ok (.value v) w)
    (h : wpTree P ops S Q r (a.put o.dst v) w) : wpTree P ops S Q (.take i r) a w :=
  ⟨hS, o, v, hi, .inl ⟨hw, hv⟩, h⟩
theorem tree_load (d : Option Tmp) (v : Value) (o : Oper) (hi : ops[i]? = some o) (hd : o.dst = d) (hw : Region.wanted o (yielded ops a.tmps) = true) (hS : S w) (hv : ∀ w, S w → (execOp a.eval o).run P w = .ok (.value v) w)
    (h : wpTree P ops S Q r (a.put d v) w) : wpTree P ops S Q (.take i r) a w := by
  subst hd; exact tree_val o v hi hw hS hv h
theorem tree_move (d : Option Tmp) (v : Value) (o : Oper) (x : Operand) (hi : ops[i]? = some o) (ho : o.op = .move x) (hd : o.dst = d) (hw : Region.wanted o (yielded ops a.tmps) = true) (hS : S w) (hv : a.eval x = v)
    (h : wpTree P ops S Q r (a.put d v) w) : wpTree P ops S Q (.take i r) a w := by
  subst hd; subst hv; exact tree_val o _ hi hw hS (fun w _ => by rw [BigFrame.run_move x ho]) h
theorem tree_assign (d : Option Tmp) (v : Value) (o : Oper) (x : Operand) (hi : ops[i]? = some o) (ho : o.op = .assign x) (hd : o.dst = d) (hw : Region.wanted o (yielded ops a.tmps) = true) (hS : S w) (hv : a.eval x = v)
    (h : wpTree P ops S Q r (a.put d v) w) : wpTree P ops S Q (.take i r) a w := by
  subst hd; subst hv; exact tree_val o _ hi hw hS (fun w _ => by rw [BigFrame.run_assign x ho]) h
theorem tree_act (o : Oper) (hi : ops[i]? = some o) (hw : Region.wanted o (yielded ops a.tmps) = true) (h : ∀ K : Act → World → Prop, (∀ a' w', S w' → wpTree P ops S Q r a' w' → K a' w') → o.wp P a w K Q) :
    wpTree P ops S Q (.act i r) a w := by
  show wpOp P ops Q i _ a w
  unfold wpOp
  simp only [hi, hw, if_true]
  exact .inl (h _ fun a' w' hS h => ⟨hS, h⟩)
theorem tree_end (h : Q .normal a w) : wpTree P ops S Q .done a w := h
theorem tree_call (o : Oper) (f : FuncId) (args : Array Value) (hi : ops[i]? = some o) (hw : Region.wanted o (yielded ops a.tmps) = true) (hrun : (execOp a.eval o).run P w = .ok (.enter f args) w)
    (h : Calls P f args w fun e w' => ∃ v, e = .returned v ∧ S w' ∧ wpTree P ops S Q r (a.put o.dst v) w') : wpTree P ops S Q (.act i r) a w :=
  tree_act o hi hw fun K hK => by
    unfold Oper.wp
    rw [hrun, Oper.upon_enter]
    refine h.mono fun e w' he => ?_
    obtain ⟨v, rfl, hS, hh⟩ := he
    exact hK _ _ hS hh
theorem tree_to (d : Option Tmp) (f : FuncId) {fn : Func} (hf : P.funcs[f]? = some fn) (hn : (fn.name == "runtime.NumGoroutine") = false) (hb : fn.body.isNone = false) (vals : List Value)
    (o : Oper) (args : List Operand) (ts : Array TypeId) (hi : ops[i]? = some o) (ho : o.op = .call { callee := .value (.func f), args := args.toArray, argTypes := ts })
    (hd : o.dst = d) (hw : Region.wanted o (yielded ops a.tmps) = true) (hv : args.map a.eval = vals)
    (h : Calls P f vals.toArray w fun e w' => ∃ v, e = .returned v ∧ S w' ∧ wpTree P ops S Q r (a.put d v) w') : wpTree P ops S Q (.act i r) a w :=
  tree_call o f vals.toArray hi hw (by rw [← hv, ← List.map_toArray]; exact exec_call hf hn hb o args.toArray ts ho) (hd ▸ h)
theorem tree_pick (d : Option Tmp) (v : Value) (o : Oper) (c x y : Operand) (b : Bool) (hi : ops[i]? = some o) (ho : o.op = .pick c x y) (hd : o.dst = d) (hc : a.eval c = .bool b) (hw : Region.wanted o (yielded ops a.tmps) = true)
    (hS : S w) (hv : (if b then a.eval x else a.eval y) = v) (h : wpTree P ops S Q r (a.put d v) w) : wpTree P ops S Q (.take i r) a w := by
  subst hd; subst hv
  exact tree_val o _ hi hw hS (fun w _ => by
    unfold execOp
    simp only [ho, hc]
    cases b <;> simp [asBool]) h
theorem op_call {K : Act → World → Prop} (o : Oper) (f : FuncId) (args : Array Value) (hi : ops[i]? = some o) (hw : Region.wanted o (yielded ops a.tmps) = true) (hrun : (execOp a.eval o).run P w = .ok (.enter f args) w)
    (h : Calls P f args w fun e w' => ∃ v, e = .returned v ∧ K (a.put o.dst v) w') : wpOp P ops Q i K a w := by
  unfold wpOp
  simp only [hi, hw, if_true]
  left
  unfold Oper.wp
  rw [hrun, Oper.upon_enter]
  refine h.mono fun e w' he => ?_
  obtain ⟨v, rfl, hh⟩ := he
  exact hh
theorem op_run {K : Act → World → Prop} (o : Oper) (v : Value) (w' : World) (hi : ops[i]? = some o) (hw : Region.wanted o (yielded ops a.tmps) = true) (hrun : (execOp a.eval o).run P w = .ok (.value v) w')
    (h : K (a.put o.dst v) w') : wpOp P ops Q i K a w := by
  unfold wpOp
  simp only [hi, hw, if_true]
  left
  unfold Oper.wp
  rw [hrun]
  exact h
theorem put_comm (a : Act) {d1 d2 : Nat} (hne : d1 ≠ d2) (u v : Value) : (a.put (some d2) v).put (some d1) u = (a.put (some d1) u).put (some d2) v := by
  show ({ a with tmps := (a.tmps.setIfInBounds d2 v).setIfInBounds d1 u } : Act) = { a with tmps := (a.tmps.setIfInBounds d1 u).setIfInBounds d2 v }
  rw [Array.setIfInBounds_comm _ _ (Ne.symm hne)]
theorem tree_pair {j d1 d2 n : Nat} {T : TypeId} (A B : Value → World → Prop) (f : FuncId) {fn : Func} (hf : P.funcs[f]? = some fn) (hn : (fn.name == "runtime.NumGoroutine") = false) (hb : fn.body.isNone = false) (vals : List Value) (C : Array Value)
    (o1 o2 : Oper) (args : List Operand) (ts : Array TypeId) (hi : ops[i]? = some o1) (hj : ops[j]? = some o2) (ho : o1.op = .call { callee := .value (.func f), args := args.toArray, argTypes := ts })
    (hd1 : o1.dst = some d1) (hd2 : o2.dst = some d2) (hw1 : Region.wanted o1 (yielded ops a.tmps) = true) (hw1' : ∀ v, Region.wanted o1 (yielded ops (a.put (some d2) v).tmps) = true)
    (hw2 : Region.wanted o2 (yielded ops a.tmps) = true) (hw2' : ∀ v, Region.wanted o2 (yielded ops (a.put (some d1) v).tmps) = true)
    (hv : args.map a.eval = vals) (hv' : ∀ v, args.map (a.put (some d2) v).eval = vals)
    (hr : ∀ z : World, (execOp a.eval o2).run P z = .ok (.value (.slice (some ⟨z.heap.size, 0, none⟩) n n)) (z.alloc (.cells C T)))
    (hr' : ∀ (v : Value) (z : World), (execOp (a.put (some d1) v).eval o2).run P z = .ok (.value (.slice (some ⟨z.heap.size, 0, none⟩) n n)) (z.alloc (.cells C T)))
    (hc : ∀ z : World, S z → Calls P f vals.toArray z fun e z' => ∃ v, e = .returned v ∧ S z' ∧ A v z' ∧ ∀ u, B u z → B u z')
    (hSa : ∀ z : World, S z → S (z.alloc (.cells C T))) (hAa : ∀ v (z : World), A v z → A v (z.alloc (.cells C T))) (hBa : ∀ z : World, B (.slice (some ⟨z.heap.size, 0, none⟩) n n) (z.alloc (.cells C T)))
    (hne : d1 ≠ d2) (hS : S w)
    (h : ∀ u v z, S z → A u z → B v z → wpTree P ops S Q r ((a.put (some d1) u).put (some d2) v) z) : wpTree P ops S Q (.two i j (.act j r) (.act i r)) a w := by
  have e1 : (execOp a.eval o1).run P w = .ok (.enter f vals.toArray) w := by rw [← hv, ← List.map_toArray]; exact exec_call hf hn hb o1 args.toArray ts ho
  refine ⟨op_call o1 f vals.toArray hi hw1 e1 ((hc w hS).mono ?_), op_run o2 _ _ hj hw2 (hr w) ⟨hSa w hS, ?_⟩⟩
  · rintro e z ⟨v, rfl, hSz, hAz, -⟩
    refine ⟨v, rfl, hSz, ?_⟩
    rw [hd1]
    show wpOp P ops Q j _ _ z
    refine op_run o2 _ _ hj (hw2' v) (hr' v z) ⟨hSa z hSz, ?_⟩
    rw [hd2]
    exact h _ _ _ (hSa z hSz) (hAa v z hAz) (hBa z)
  · rw [hd2]
    show wpOp P ops Q i _ _ _
    refine op_call o1 f vals.toArray hi (hw1' _) (by rw [← hv' (.slice (some ⟨w.heap.size, 0, none⟩) n n), ← List.map_toArray]; exact exec_call hf hn hb o1 args.toArray ts ho) ((hc _ (hSa w hS)).mono ?_)
    rintro e z ⟨v, rfl, hSz, hAz, hBz⟩
    refine ⟨v, rfl, hSz, ?_⟩
    rw [hd1, put_comm a hne]
    exact h _ _ _ hSz hAz (hBz _ (hBa w))
end
end Go.Proofs.YtpmjcbjdcjjplaaGreat
end
