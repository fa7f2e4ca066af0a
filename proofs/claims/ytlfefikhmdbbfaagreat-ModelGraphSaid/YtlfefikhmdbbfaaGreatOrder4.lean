/- No program: a region that draws its order: a literal and a call on it, and another literal that is ready all the while. -/
import Derived.Test.YtlfefikhmdbbfaaGreatOrder3
namespace Go.Proofs.YtlfefikhmdbbfaaGreat
open Go

/-! whether a tree is an order: piece by piece (a tree's branches come to the same state) -/
section
variable {md : Region.Mode} {ops : Array Oper}
def okL (md : Region.Mode) (ops : Array Oper) : List (Nat × Bool) → Array Bool → Bool
  | [], _ => true
  | (i, true) :: l, listed => Region.free md ops listed i && (Region.ready md ops listed).contains i && okL md ops l (listed.setIfInBounds i true)
  | (i, false) :: l, listed => (Region.ready md ops listed == [i]) && okL md ops l (listed.setIfInBounds i true)
def setL : List (Nat × Bool) → Array Bool → Array Bool
  | [], listed => listed
  | (i, _) :: l, listed => setL l (listed.setIfInBounds i true)
theorem ok_of : ∀ (l : List (Nat × Bool)) (t : OrdT) (listed : Array Bool), okL md ops l listed = true → t.ok md ops (setL l listed) = true → (OrdT.of l t).ok md ops listed = true
  | [], t, listed, _, h => h
  | (i, true) :: l, t, listed, h, ht => by
    simp only [okL, Bool.and_eq_true] at h
    show OrdT.ok md ops (.take i (OrdT.of l t)) listed = true
    simp only [OrdT.ok, Bool.and_eq_true]
    exact ⟨h.1, ok_of l t _ h.2 ht⟩
  | (i, false) :: l, t, listed, h, ht => by
    simp only [okL, Bool.and_eq_true] at h
    show OrdT.ok md ops (.act i (OrdT.of l t)) listed = true
    simp only [OrdT.ok, Bool.and_eq_true]
    exact ⟨h.1, ok_of l t _ h.2 ht⟩
theorem ok_float {i k j : Nat} {r : OrdT} {listed : Array Bool} (hij : i ≠ j) (hkj : k ≠ j)
    (h0 : (Region.ready md ops listed == [i, j]) = true) (h1 : (Region.ready md ops (listed.setIfInBounds i true) == [k, j]) = true) (h2 : (Region.ready md ops ((listed.setIfInBounds i true).setIfInBounds k true) == [j]) = true)
    (h3 : (Region.ready md ops ((listed.setIfInBounds i true).setIfInBounds j true) == [k]) = true) (h4 : (Region.ready md ops (listed.setIfInBounds j true) == [i]) = true)
    (hr : r.ok md ops (((listed.setIfInBounds i true).setIfInBounds k true).setIfInBounds j true) = true) :
    OrdT.ok md ops (.two i j (.two k j (.act j r) (.act k r)) (.act i (.act k r))) listed = true := by
  have e1 : ((listed.setIfInBounds i true).setIfInBounds j true).setIfInBounds k true = ((listed.setIfInBounds i true).setIfInBounds k true).setIfInBounds j true := Array.setIfInBounds_comm _ _ (Ne.symm hkj)
  have e2 : (listed.setIfInBounds j true).setIfInBounds i true = (listed.setIfInBounds i true).setIfInBounds j true := Array.setIfInBounds_comm _ _ (Ne.symm hij)
  simp only [OrdT.ok, OrdT.len, Bool.and_eq_true, beq_self_eq_true, and_true]
  refine ⟨⟨h0, ⟨h1, h2, hr⟩, h3, ?_⟩, h4, ?_, ?_⟩
  · rw [e1]; exact hr
  · rw [e2]; exact h3
  · rw [e2, e1]; exact hr
theorem ok_pair {i j : Nat} {r : OrdT} {listed : Array Bool} (hij : i ≠ j) (h0 : (Region.ready md ops listed == [i, j]) = true) (h1 : (Region.ready md ops (listed.setIfInBounds i true) == [j]) = true) (h2 : (Region.ready md ops (listed.setIfInBounds j true) == [i]) = true)
    (hr : r.ok md ops ((listed.setIfInBounds i true).setIfInBounds j true) = true) : OrdT.ok md ops (.two i j (.act j r) (.act i r)) listed = true := by
  have e2 : (listed.setIfInBounds j true).setIfInBounds i true = (listed.setIfInBounds i true).setIfInBounds j true := Array.setIfInBounds_comm _ _ (Ne.symm hij)
  simp only [OrdT.ok, OrdT.len, Bool.and_eq_true, beq_self_eq_true, and_true]
  refine ⟨⟨h0, h1, hr⟩, h2, ?_⟩
  rw [e2]; exact hr
end

section
variable {P : Program} {ops : Array Oper} {S : World → Prop} {Q : Exit → Act → World → Prop} {i : Nat} {r : OrdT} {a : Act} {w : World}
theorem tree_float {k j d1 d2 d3 n1 n3 : Nat} {T : TypeId} (A B : Value → World → Prop) (F : Value → Value) (f : FuncId) (C1 C3 : Array Value)
    (o1 o2 o3 : Oper) (hi : ops[i]? = some o1) (hk : ops[k]? = some o2) (hj : ops[j]? = some o3) (hd1 : o1.dst = some d1) (hd2 : o2.dst = some d2) (hd3 : o3.dst = some d3)
    (hw1 : Region.wanted o1 (yielded ops a.tmps) = true) (hw1' : ∀ v, Region.wanted o1 (yielded ops (a.put (some d3) v).tmps) = true)
    (hw2 : ∀ u, Region.wanted o2 (yielded ops (a.put (some d1) u).tmps) = true) (hw2' : ∀ u v, Region.wanted o2 (yielded ops ((a.put (some d1) u).put (some d3) v).tmps) = true)
    (hw3 : Region.wanted o3 (yielded ops a.tmps) = true) (hw3' : ∀ u, Region.wanted o3 (yielded ops (a.put (some d1) u).tmps) = true) (hw3'' : ∀ u v, Region.wanted o3 (yielded ops ((a.put (some d1) u).put (some d2) v).tmps) = true)
    (r1 : ∀ z : World, (execOp a.eval o1).run P z = .ok (.value (.slice (some ⟨z.heap.size, 0, none⟩) n1 n1)) (z.alloc (.cells C1 T)))
    (r1' : ∀ v (z : World), (execOp (a.put (some d3) v).eval o1).run P z = .ok (.value (.slice (some ⟨z.heap.size, 0, none⟩) n1 n1)) (z.alloc (.cells C1 T)))
    (r2 : ∀ u (z : World), (execOp (a.put (some d1) u).eval o2).run P z = .ok (.enter f #[u]) z) (r2' : ∀ u v (z : World), (execOp ((a.put (some d1) u).put (some d3) v).eval o2).run P z = .ok (.enter f #[u]) z)
    (r3 : ∀ z : World, (execOp a.eval o3).run P z = .ok (.value (.slice (some ⟨z.heap.size, 0, none⟩) n3 n3)) (z.alloc (.cells C3 T)))
    (r3' : ∀ u (z : World), (execOp (a.put (some d1) u).eval o3).run P z = .ok (.value (.slice (some ⟨z.heap.size, 0, none⟩) n3 n3)) (z.alloc (.cells C3 T)))
    (r3'' : ∀ u v (z : World), (execOp ((a.put (some d1) u).put (some d2) v).eval o3).run P z = .ok (.value (.slice (some ⟨z.heap.size, 0, none⟩) n3 n3)) (z.alloc (.cells C3 T)))
    (hc : ∀ u (z : World), S z → A u z → Calls P f #[u] z fun e z' => e = .returned (F u) ∧ S z' ∧ A u z' ∧ ∀ v, B v z → B v z')
    (hS1 : ∀ z : World, S z → S (z.alloc (.cells C1 T))) (hS3 : ∀ z : World, S z → S (z.alloc (.cells C3 T)))
    (hA : ∀ z : World, A (.slice (some ⟨z.heap.size, 0, none⟩) n1 n1) (z.alloc (.cells C1 T))) (hB : ∀ z : World, B (.slice (some ⟨z.heap.size, 0, none⟩) n3 n3) (z.alloc (.cells C3 T)))
    (hA3 : ∀ u (z : World), A u z → A u (z.alloc (.cells C3 T))) (hB1 : ∀ u (z : World), B u z → B u (z.alloc (.cells C1 T)))
    (h13 : d1 ≠ d3) (h23 : d2 ≠ d3) (hS : S w)
    (h : ∀ u v z, S z → A u z → B v z → wpTree P ops S Q r (((a.put (some d1) u).put (some d2) (F u)).put (some d3) v) z) :
    wpTree P ops S Q (.two i j (.two k j (.act j r) (.act k r)) (.act i (.act k r))) a w := by
  -- the call, then the rest, where both literals stand
  have hcall : ∀ (u v : Value) (z : World), S z → A u z → B v z → wpTree P ops S Q (.act k r) ((a.put (some d1) u).put (some d3) v) z := by
    intro u v z hSz hAz hBz
    show wpOp P ops Q k _ _ z
    refine op_call o2 f #[u] hk (hw2' u v) (r2' u v z) ((hc u z hSz hAz).mono ?_)
    rintro e z' ⟨rfl, hS', hA', hB'⟩
    refine ⟨_, rfl, hS', ?_⟩
    rw [hd2, put_comm _ h23]
    exact h u v z' hS' hA' (hB' v hBz)
  refine ⟨?_, ?_⟩
  · refine op_run o1 _ _ hi hw1 (r1 w) ⟨hS1 w hS, ?_⟩
    rw [hd1]
    refine ⟨?_, ?_⟩
    · refine op_call o2 f _ hk (hw2 _) (r2 _ _) ((hc _ _ (hS1 w hS) (hA w)).mono ?_)
      rintro e z ⟨rfl, hS', hA', -⟩
      refine ⟨_, rfl, hS', ?_⟩
      rw [hd2]
      show wpOp P ops Q j _ _ z
      refine op_run o3 _ _ hj (hw3'' _ _) (r3'' _ _ z) ⟨hS3 z hS', ?_⟩
      rw [hd3]
      exact h _ _ _ (hS3 z hS') (hA3 _ z hA') (hB z)
    · refine op_run o3 _ _ hj (hw3' _) (r3' _ _) ⟨hS3 _ (hS1 w hS), ?_⟩
      rw [hd3]
      exact hcall _ _ _ (hS3 _ (hS1 w hS)) (hA3 _ _ (hA w)) (hB _)
  · refine op_run o3 _ _ hj hw3 (r3 w) ⟨hS3 w hS, ?_⟩
    rw [hd3]
    show wpOp P ops Q i _ _ _
    refine op_run o1 _ _ hi (hw1' _) (r1' _ _) ⟨hS1 _ (hS3 w hS), ?_⟩
    rw [hd1, put_comm _ h13]
    exact hcall _ _ _ (hS1 _ (hS3 w hS)) (hA _) (hB1 _ _ (hB w))
theorem tree_calld (d : Option Tmp) (o : Oper) (f : FuncId) (args : Array Value) (hi : ops[i]? = some o) (hd : o.dst = d) (hw : Region.wanted o (yielded ops a.tmps) = true) (hrun : (execOp a.eval o).run P w = .ok (.enter f args) w)
    (h : Calls P f args w fun e w' => ∃ v, e = .returned v ∧ S w' ∧ wpTree P ops S Q r (a.put d v) w') : wpTree P ops S Q (.act i r) a w := by
  subst hd; exact tree_call o f args hi hw hrun h
theorem tree_pair2 {j d1 d2 n : Nat} {T : TypeId} (A B : Value → World → Prop) (f : FuncId) (vals : Array Value) (C : Array Value)
    (o1 o2 : Oper) (hi : ops[i]? = some o1) (hj : ops[j]? = some o2) (hd1 : o1.dst = some d1) (hd2 : o2.dst = some d2)
    (hw1 : Region.wanted o1 (yielded ops a.tmps) = true) (hw1' : ∀ v, Region.wanted o1 (yielded ops (a.put (some d2) v).tmps) = true)
    (hw2 : Region.wanted o2 (yielded ops a.tmps) = true) (hw2' : ∀ v, Region.wanted o2 (yielded ops (a.put (some d1) v).tmps) = true)
    (e1 : ∀ z : World, (execOp a.eval o1).run P z = .ok (.enter f vals) z) (e1' : ∀ v (z : World), (execOp (a.put (some d2) v).eval o1).run P z = .ok (.enter f vals) z)
    (hr : ∀ z : World, (execOp a.eval o2).run P z = .ok (.value (.slice (some ⟨z.heap.size, 0, none⟩) n n)) (z.alloc (.cells C T)))
    (hr' : ∀ (v : Value) (z : World), (execOp (a.put (some d1) v).eval o2).run P z = .ok (.value (.slice (some ⟨z.heap.size, 0, none⟩) n n)) (z.alloc (.cells C T)))
    (hc : ∀ z : World, S z → Calls P f vals z fun e z' => ∃ v, e = .returned v ∧ S z' ∧ A v z' ∧ ∀ u, B u z → B u z')
    (hSa : ∀ z : World, S z → S (z.alloc (.cells C T))) (hAa : ∀ v (z : World), A v z → A v (z.alloc (.cells C T))) (hBa : ∀ z : World, B (.slice (some ⟨z.heap.size, 0, none⟩) n n) (z.alloc (.cells C T)))
    (hne : d1 ≠ d2) (hS : S w)
    (h : ∀ u v z, S z → A u z → B v z → wpTree P ops S Q r ((a.put (some d1) u).put (some d2) v) z) : wpTree P ops S Q (.two i j (.act j r) (.act i r)) a w := by
  refine ⟨op_call o1 f vals hi hw1 (e1 w) ((hc w hS).mono ?_), op_run o2 _ _ hj hw2 (hr w) ⟨hSa w hS, ?_⟩⟩
  · rintro e z ⟨v, rfl, hSz, hAz, -⟩
    refine ⟨v, rfl, hSz, ?_⟩
    rw [hd1]
    show wpOp P ops Q j _ _ z
    refine op_run o2 _ _ hj (hw2' v) (hr' v z) ⟨hSa z hSz, ?_⟩
    rw [hd2]
    exact h _ _ _ (hSa z hSz) (hAa v z hAz) (hBa z)
  · rw [hd2]
    show wpOp P ops Q i _ _ _
    refine op_call o1 f vals hi (hw1' _) (e1' _ _) ((hc _ (hSa w hS)).mono ?_)
    rintro e z ⟨v, rfl, hSz, hAz, hBz⟩
    refine ⟨v, rfl, hSz, ?_⟩
    rw [hd1, put_comm a hne]
    exact h _ _ _ hSz hAz (hBz _ (hBa w))
end
end Go.Proofs.YtlfefikhmdbbfaaGreat
