/- Parts of a proof: Order2, Ord3. -/
import Derived.StillTail
import Derived.Test.YtpmjcbjdcjjplaaGreatPack7
section
namespace Go.Proofs.YtpmjcbjdcjjplaaGreat
open Go
def Qt (P : Program) (ops : Array Oper) (Q : Exit → Act → World → Prop) (tl : List Oper) : Exit → Act → World → Prop
  | .normal, a, w => wpList P ops Q tl a w
  | x, a, w => Q x a w
def wpAnyT (P : Program) (md : Region.Mode) (ops : Array Oper) (Q : Exit → Act → World → Prop) (S : World → Prop) (n : Nat) (L : Array Bool → Act → World → Prop) : Nat → Array Bool → Act → World → Prop
  | 0, listed, a, w => L listed a w
  | f + 1, listed, a, w => Region.ready md ops listed ≠ [] ∧ ∀ i ∈ Region.ready md ops listed, i < n ∧ wpOp P ops Q i (fun a' w' => S w' ∧ wpAnyT P md ops Q S n L f (listed.setIfInBounds i true) a' w') a w
def ordT (md : Region.Mode) (ops : Array Oper) (n : Nat) : List (Nat × Bool) → Array Bool → Bool
  | [], listed => Region.seqB md ops (ops.size - n) n listed
  | (i, true) :: r, listed => decide (i < n) && Region.free md ops listed i && (Region.ready md ops listed).contains i && ordT md ops n r (listed.setIfInBounds i true)
  | (i, false) :: r, listed => decide (i < n) && (Region.ready md ops listed == [i]) && ordT md ops n r (listed.setIfInBounds i true)
def ordTB (md : Region.Mode) (ops : Array Oper) (n : Nat) (ord : List (Nat × Bool)) : Bool :=
  Region.noSelect ops && decide (n < ops.size) && Region.sinkB md ops n && Region.chainB md ops n && ordT md ops n ord (Array.replicate ops.size false)
section
variable {P : Program} {ops : Array Oper} {S : World → Prop} {Q : Exit → Act → World → Prop} {md : Region.Mode}
theorem wpOp_exits {Q1 Q2 : Exit → Act → World → Prop} {i : Nat} {K : Act → World → Prop} {a : Act} {w : World} (h1 : ∀ c a w, Q1 (.panic c) a w → Q2 (.panic c) a w) (h2 : LetsOut Q1 → LetsOut Q2)
    (h : wpOp P ops Q1 i K a w) : wpOp P ops Q2 i K a w := by
  unfold wpOp at *
  split
  · simpa [*] using h
  · rename_i o ho
    simp only [ho] at h
    split
    · rename_i hw
      simp only [hw, if_true] at h
      rcases h with h | ⟨h, hl⟩
      · refine .inl ?_
        unfold Oper.wp at *
        generalize (execOp a.eval o).run P w = r at *
        cases r with
        | ok m w' =>
          cases m <;> simp only [Oper.upon] at h ⊢ <;>
            first
              | exact h
              | exact Calls.mono h (fun e w'' he => by cases e <;> first | exact he | exact h1 _ _ _ he | exact h2 he)
        | halt x w' => cases x <;> simp only [Oper.upon] at h ⊢ <;> first | exact h1 _ _ _ h | exact h
      · exact .inr ⟨h, h2 hl⟩
    · rename_i hw
      simp only [hw] at h
      exact h
theorem wpAnyT_first {n i : Nat} {oi : Oper} {v : Value} {L : Array Bool → Act → World → Prop} (hi : ops[i]? = some oi) (hsel : ∀ (j : Nat) (o : Oper) cs b, ops[j]? = some o → o.op ≠ .select cs b)
    (hQ : ∀ c a w, Q (.panic c) (a.put oi.dst v) w → Q (.panic c) a w)
    (hs : Region.sinkB md ops n = true) (hc : Region.chainB md ops n = true) (hn : n < ops.size) (hin : i < n)
    (hdone : ∀ listed a w, L listed a w → ∀ j ∈ Region.ready md ops listed, n ≤ j) :
    ∀ (f : Nat) (listed : Array Bool) (a : Act) (w : World), HeadInv md ops n listed →
      (∀ j oj, ops[j]? = some oj → j ≠ i → listed.getD j true = false → (∀ e ∈ oj.after, Region.binds md e = true → e.on ≠ i) → oi.apart ops oj = true) →
      i ∈ Region.ready md ops listed → YieldsIf P ops S oi v a → S w →
      wpAnyT P md ops Q S n L f (listed.setIfInBounds i true) (a.put oi.dst v) w → wpAnyT P md ops Q S n L (f + 1) listed a w := by
  intro f
  induction f with
  | zero =>
    intro listed a w inv _ hr hy hS H
    have hun := (mem_ready.1 hr).1
    refine ⟨fun h => (by rw [h] at hr; cases hr), fun j hj => ?_⟩
    have hjn : j < n := by
      rcases Nat.lt_or_ge j n with h | h
      · exact h
      · exact absurd hj (tail_waits hs hc hn inv _ i rfl hin hun j h)
    refine ⟨hjn, ?_⟩
    by_cases hji : j = i
    · subst hji; exact hy.wpOp hi hS ⟨hS, H⟩
    · have := hdone _ _ _ H j (ready_mono hj hji)
      omega
  | succ f ih =>
    intro listed a w inv hfree hr hy hS H
    have hun := (mem_ready.1 hr).1
    refine ⟨fun h => (by rw [h] at hr; cases hr), fun j hj => ?_⟩
    have hjn : j < n := by
      rcases Nat.lt_or_ge j n with h | h
      · exact h
      · exact absurd hj (tail_waits hs hc hn inv _ i rfl hin hun j h)
    refine ⟨hjn, ?_⟩
    by_cases hji : j = i
    · subst hji; exact hy.wpOp hi hS ⟨hS, H⟩
    · have h1 := (H.2 j (ready_mono hj hji)).2
      obtain ⟨hjun, oj, hoj, hall⟩ := mem_ready.1 hj
      have hnot : ∀ e ∈ oj.after, Region.binds md e = true → e.on ≠ i := fun e he hb heq => by
        have h1 := hall e he hb
        rw [heq, getD_both hun] at h1
        cases h1
      have h2 := wpOp_putIf hoj (hfree j oj hoj hji hjun hnot) (fun cs b => hsel i oi cs b hi) (fun cs b => hsel j oj cs b hoj) hQ hy h1
      have hfree' : ∀ k ok, ops[k]? = some ok → k ≠ i → (listed.setIfInBounds j true).getD k true = false →
          (∀ e ∈ ok.after, Region.binds md e = true → e.on ≠ i) → oi.apart ops ok = true := fun k ok hk hki hun hno => by
        refine hfree k ok hk hki ?_ hno
        by_cases hjk : j = k
        · subst hjk; exact hjun
        · rw [getD_set_ne true hjk] at hun; exact hun
      refine wpOp_mono (fun a' w' h3 => ⟨h3.2.1, ih (listed.setIfInBounds j true) a' w' (inv.set hj hjn) hfree' (ready_mono hr (Ne.symm hji)) h3.1 h3.2.1 ?_⟩) h2
      rw [Array.setIfInBounds_comm _ _ hji]
      exact h3.2.2
theorem wpAnyT_of_ord {n : Nat} {tl : List Oper} (hsel : Region.noSelect ops = true) (hs : Region.sinkB md ops n = true) (hc : Region.chainB md ops n = true) (hn : n < ops.size)
    (hQ : ∀ c a d v w, Q (.panic c) (a.put d v) w → Q (.panic c) a w) :
    ∀ (ord : List (Nat × Bool)) (listed : Array Bool) (a : Act) (w : World), HeadInv md ops n listed → ordT md ops n ord listed = true → wpOrd P ops S (Qt P ops Q tl) ord a w →
      wpAnyT P md ops Q S n (fun listed' a' w' => Region.seqB md ops (ops.size - n) n listed' = true ∧ wpList P ops Q tl a' w') ord.length listed a w
  | [], listed, a, w, _, hB, h => ⟨hB, h⟩
  | (i, true) :: r, listed, a, w, inv, hB, h => by
    simp only [ordT, Bool.and_eq_true, decide_eq_true_eq] at hB
    obtain ⟨hS, o, v, hi, hy, hr⟩ := h
    have hrd : i ∈ Region.ready md ops listed := by simpa using hB.1.2
    exact wpAnyT_first hi (Region.noSelect_spec hsel) (fun c a w hq => hQ c a _ _ w hq) hs hc hn hB.1.1.1 (fun _ _ _ hL => seqB_ready hL.1) r.length listed a w inv (Region.free_spec hi hB.1.1.2) hrd hy hS
      (wpAnyT_of_ord hsel hs hc hn hQ r _ _ _ (inv.set hrd hB.1.1.1) hB.2 hr)
  | (i, false) :: r, listed, a, w, inv, hB, h => by
    simp only [ordT, Bool.and_eq_true, beq_iff_eq, decide_eq_true_eq] at hB
    refine ⟨by rw [hB.1.2]; simp, fun j hj => ?_⟩
    have hj' := hj
    rw [hB.1.2] at hj'
    obtain rfl : j = i := by simpa using hj'
    exact ⟨hB.1.1, wpOp_mono (fun a' w' hh => ⟨hh.1, wpAnyT_of_ord hsel hs hc hn hQ r _ _ _ (inv.set hj hB.1.1) hB.2 hh.2⟩) (wpOp_exits (Q1 := Qt P ops Q tl) (fun _ _ _ => id) id h)⟩
theorem wpAny_of_headT {n g : Nat} {L : Array Bool → Act → World → Prop} (hL : ∀ listed a w, L listed a w → wpAny P md ops Q g listed a w) :
    ∀ (f : Nat) (listed : Array Bool) (a : Act) (w : World), wpAnyT P md ops Q S n L f listed a w → wpAny P md ops Q (f + g) listed a w
  | 0, listed, a, w, h => by rw [Nat.zero_add]; exact hL _ _ _ h
  | f + 1, listed, a, w, h => by
    rw [show f + 1 + g = (f + g) + 1 by omega]
    exact ⟨fun h0 => absurd h0 h.1, fun i hi => wpOp_mono (fun a' w' h' => wpAny_of_headT hL f _ a' w' h'.2) (h.2 i hi).2⟩
theorem wp_region_ord_tail {id : Nat} {a : Act} {w : World} {l : List Oper} (n : Nat) (ord : List (Nat × Bool)) (S : World → Prop) (hm : P.follows .mixedOrders = true)
    (hB : ordTB .any l.toArray n ord = true) (hlen : ord.length = n)
    (hQ : ∀ c a d v w, Q (.panic c) (a.put d v) w → Q (.panic c) a w) (h : wpOrd P l.toArray S (Qt P l.toArray Q (l.drop n)) ord a w.drew) : (Code.region id l.toArray true).wp P Q a w := by
  simp only [ordTB, Bool.and_eq_true, decide_eq_true_eq] at hB
  obtain ⟨⟨⟨⟨hsel, hn⟩, hs⟩, hc⟩, hord⟩ := hB
  have inv0 : HeadInv .any l.toArray n (Array.replicate l.toArray.size false) :=
    ⟨by simp, fun j oj _ hl => (by rw [getD_replicate_false] at hl; cases hl), fun t _ ht => getD_in (by simpa using ht) (getD_replicate_false _ _)⟩
  have H := wpAnyT_of_ord (md := .any) hsel hs hc hn hQ ord _ a _ inv0 hord h
  have hdl : (l.drop n).length = l.toArray.size - n := by simp
  refine wp_region_any hm ?_
  have := wpAny_of_headT (Q := Q) (g := l.toArray.size - n) (fun listed a' w' hL => by
    have := wpAny_of_seq (md := .any) (Q' := Q) (l.drop n) n listed a' w' (fun j => by simp [List.getElem?_drop]) (by rw [hdl]; exact hL.1) hL.2
    rwa [hdl] at this) _ _ _ _ H
  rw [hlen, show n + (l.toArray.size - n) = l.toArray.size by omega] at this
  exact this
theorem ord_run {i : Nat} {r : List (Nat × Bool)} {a : Act} {w : World} (d : Option Tmp) (v : Value) (w' : World) (o : Oper) (hi : ops[i]? = some o) (hd : o.dst = d) (hw : Region.wanted o (yielded ops a.tmps) = true)
    (hrun : (execOp a.eval o).run P w = .ok (.value v) w') (hS : S w') (h : wpOrd P ops S Q r (a.put d v) w') : wpOrd P ops S Q ((i, false) :: r) a w := by
  subst hd
  refine ord_act o hi hw fun K hK => ?_
  unfold Oper.wp
  rw [hrun]
  exact hK _ _ hS h
theorem ord_tail {a : Act} {w : World} {tl : List Oper} (h : wpList P ops Q tl a w) : wpOrd P ops S (Qt P ops Q tl) [] a w := h
end
end Go.Proofs.YtpmjcbjdcjjplaaGreat
end
section
namespace Go.Proofs.YtpmjcbjdcjjplaaGreat
open Go
def wpAnyG (P : Program) (md : Region.Mode) (ops : Array Oper) (Q : Exit → Act → World → Prop) (st : Nat) (S : World → Prop) : Nat → Array Bool → Act → World → Prop
  | 0, listed, a, w => Region.ready md ops listed = [] ∧ Q .normal a w
  | fuel + 1, listed, a, w => (Region.ready md ops listed = [] → Q .normal a w) ∧
    ∀ i ∈ Region.ready md ops listed, wpOp P ops Q i (fun a' w' => ((listed.setIfInBounds i true).getD st true = false → S w') ∧ wpAnyG P md ops Q st S fuel (listed.setIfInBounds i true) a' w') a w
def wpOrd3 (P : Program) (ops : Array Oper) (S : World → Prop) (Q : Exit → Act → World → Prop) : List (Nat × Nat) → Act → World → Prop
  | [], a, w => Q .normal a w
  | (i, 0) :: r, a, w => ∃ o v, ops[i]? = some o ∧ YieldsIf P ops (fun _ => True) o v a ∧ wpOrd3 P ops S Q r (a.put o.dst v) w
  | (i, 1) :: r, a, w => S w ∧ ∃ o v, ops[i]? = some o ∧ YieldsIf P ops S o v a ∧ wpOrd3 P ops S Q r (a.put o.dst v) w
  | (i, 2) :: r, a, w => wpOp P ops Q i (fun a' w' => S w' ∧ wpOrd3 P ops S Q r a' w') a w
  | (i, _ + 3) :: r, a, w => wpOp P ops Q i (fun a' w' => wpOrd3 P ops S Q r a' w') a w
def waitsB (md : Region.Mode) (ops : Array Oper) (st i : Nat) : Bool := match ops[st]? with
  | none => false
  | some o => o.after.any fun e => Region.binds md e && e.on == i
def ord3B (md : Region.Mode) (ops : Array Oper) (st : Nat) : List (Nat × Nat) → Array Bool → Bool
  | [], listed => (Region.ready md ops listed).isEmpty
  | (i, 0) :: r, listed => (i != st) && Region.free md ops listed i && (Region.ready md ops listed).contains i && ord3B md ops st r (listed.setIfInBounds i true)
  | (i, 1) :: r, listed => (i != st) && waitsB md ops st i && (listed.getD st true == false) && Region.free md ops listed i && (Region.ready md ops listed).contains i && ord3B md ops st r (listed.setIfInBounds i true)
  | (i, 2) :: r, listed => (Region.ready md ops listed == [i]) && ord3B md ops st r (listed.setIfInBounds i true)
  | (i, _ + 3) :: r, listed => (Region.ready md ops listed == [i]) && (i == st || listed.getD st true) && ((listed.setIfInBounds i true).getD st true == true) && ord3B md ops st r (listed.setIfInBounds i true)
section
variable {P : Program} {ops : Array Oper} {S : World → Prop} {Q : Exit → Act → World → Prop} {md : Region.Mode} {st : Nat}
theorem wpAny_of_G : ∀ (fuel : Nat) (listed : Array Bool) (a : Act) (w : World), wpAnyG P md ops Q st S fuel listed a w → wpAny P md ops Q fuel listed a w
  | 0, _, _, _, h => h
  | fuel + 1, _, _, _, h => ⟨h.1, fun i hi => wpOp_mono (fun a' w' h' => wpAny_of_G fuel _ a' w' h'.2) (h.2 i hi)⟩
theorem getD_set_st {l : Array Bool} {i st : Nat} (h : i ≠ st) : (l.setIfInBounds i true).getD st true = l.getD st true := by
  exact getD_set_ne true h
theorem wpAnyG_pure {i : Nat} {oi : Oper} {v : Value} (hi : ops[i]? = some oi) (hsel : ∀ (j : Nat) (o : Oper) cs b, ops[j]? = some o → o.op ≠ .select cs b)
    (hQ : ∀ c a w, Q (.panic c) (a.put oi.dst v) w → Q (.panic c) a w) (hist : i ≠ st) :
    ∀ (fuel : Nat) (listed : Array Bool) (a : Act) (w : World),
      (∀ j oj, ops[j]? = some oj → j ≠ i → listed.getD j true = false → (∀ e ∈ oj.after, Region.binds md e = true → e.on ≠ i) → oi.apart ops oj = true) →
      i ∈ Region.ready md ops listed → YieldsIf P ops (fun _ => True) oi v a → (listed.getD st true = false → S w) →
      wpAnyG P md ops Q st S fuel (listed.setIfInBounds i true) (a.put oi.dst v) w → wpAnyG P md ops Q st S (fuel + 1) listed a w := by
  intro fuel
  induction fuel with
  | zero =>
    intro listed a w _ hr hy hS H
    refine ⟨fun h => (by rw [h] at hr; cases hr), fun j hj => ?_⟩
    by_cases hji : j = i
    · subst hji; exact hy.wpOp hi trivial ⟨fun h => hS (by rw [← getD_set_st hist]; exact h), H⟩
    · have := ready_mono hj hji
      rw [H.1] at this
      cases this
  | succ fuel ih =>
    intro listed a w hfree hr hy hS H
    refine ⟨fun h => (by rw [h] at hr; cases hr), fun j hj => ?_⟩
    by_cases hji : j = i
    · subst hji; exact hy.wpOp hi trivial ⟨fun h => hS (by rw [← getD_set_st hist]; exact h), H⟩
    · have h1 := H.2 j (ready_mono hj hji)
      obtain ⟨hjun, oj, hoj, hall⟩ := mem_ready.1 hj
      have hnot : ∀ e ∈ oj.after, Region.binds md e = true → e.on ≠ i := fun e he hb heq => by
        have h1 := hall e he hb
        have h0 := (mem_ready.1 hr).1
        rw [heq, getD_both h0] at h1
        cases h1
      have h2 := wpOp_putIf hoj (hfree j oj hoj hji hjun hnot) (fun cs b => hsel i oi cs b hi) (fun cs b => hsel j oj cs b hoj) hQ hy h1
      have hfree' : ∀ k ok, ops[k]? = some ok → k ≠ i → (listed.setIfInBounds j true).getD k true = false →
          (∀ e ∈ ok.after, Region.binds md e = true → e.on ≠ i) → oi.apart ops ok = true := fun k ok hk hki hun hno => by
        refine hfree k ok hk hki ?_ hno
        by_cases hjk : j = k
        · subst hjk; exact hjun
        · rw [getD_set_ne true hjk] at hun; exact hun
      refine wpOp_mono (fun a' w' h3 => ?_) h2
      have hS3 : (listed.setIfInBounds j true).getD st true = false → S w' := fun h => h3.2.1 (by
        rw [Array.setIfInBounds_comm _ _ (Ne.symm hji), getD_set_st hist]; exact h)
      refine ⟨hS3, ih (listed.setIfInBounds j true) a' w' hfree' (ready_mono hr (Ne.symm hji)) h3.1 hS3 ?_⟩
      rw [Array.setIfInBounds_comm _ _ hji]
      exact h3.2.2
theorem wpAnyG_load {i : Nat} {oi : Oper} {v : Value} (hi : ops[i]? = some oi) (hsel : ∀ (j : Nat) (o : Oper) cs b, ops[j]? = some o → o.op ≠ .select cs b)
    (hQ : ∀ c a w, Q (.panic c) (a.put oi.dst v) w → Q (.panic c) a w) (hist : i ≠ st) (hw : waitsB md ops st i = true) :
    ∀ (fuel : Nat) (listed : Array Bool) (a : Act) (w : World),
      (∀ j oj, ops[j]? = some oj → j ≠ i → listed.getD j true = false → (∀ e ∈ oj.after, Region.binds md e = true → e.on ≠ i) → oi.apart ops oj = true) →
      i ∈ Region.ready md ops listed → YieldsIf P ops S oi v a → S w → listed.getD st true = false →
      wpAnyG P md ops Q st S fuel (listed.setIfInBounds i true) (a.put oi.dst v) w → wpAnyG P md ops Q st S (fuel + 1) listed a w := by
  intro fuel
  induction fuel with
  | zero =>
    intro listed a w _ hr hy hS _ H
    refine ⟨fun h => (by rw [h] at hr; cases hr), fun j hj => ?_⟩
    by_cases hji : j = i
    · subst hji; exact hy.wpOp hi hS ⟨fun _ => hS, H⟩
    · have := ready_mono hj hji
      rw [H.1] at this
      cases this
  | succ fuel ih =>
    intro listed a w hfree hr hy hS hst H
    refine ⟨fun h => (by rw [h] at hr; cases hr), fun j hj => ?_⟩
    by_cases hji : j = i
    · subst hji; exact hy.wpOp hi hS ⟨fun _ => hS, H⟩
    · have h1 := H.2 j (ready_mono hj hji)
      obtain ⟨hjun, oj, hoj, hall⟩ := mem_ready.1 hj
      have hnot : ∀ e ∈ oj.after, Region.binds md e = true → e.on ≠ i := fun e he hb heq => by
        have h1 := hall e he hb
        have h0 := (mem_ready.1 hr).1
        rw [heq, getD_both h0] at h1
        cases h1
      have hjst : j ≠ st := fun e => by
        subst e
        unfold waitsB at hw
        rw [hoj] at hw
        simp only at hw
        rw [Array.any_eq_true'] at hw
        obtain ⟨e, he, hb⟩ := hw
        rw [Bool.and_eq_true, beq_iff_eq] at hb
        exact hnot e he hb.1 hb.2
      have h2 := wpOp_putIf hoj (hfree j oj hoj hji hjun hnot) (fun cs b => hsel i oi cs b hi) (fun cs b => hsel j oj cs b hoj) hQ hy h1
      have hfree' : ∀ k ok, ops[k]? = some ok → k ≠ i → (listed.setIfInBounds j true).getD k true = false →
          (∀ e ∈ ok.after, Region.binds md e = true → e.on ≠ i) → oi.apart ops ok = true := fun k ok hk hki hun hno => by
        refine hfree k ok hk hki ?_ hno
        by_cases hjk : j = k
        · subst hjk; exact hjun
        · rw [getD_set_ne true hjk] at hun; exact hun
      refine wpOp_mono (fun a' w' h3 => ?_) h2
      have hst2 : (listed.setIfInBounds j true).getD st true = false := by rw [getD_set_st hjst]; exact hst
      have hS3 : S w' := h3.2.1 (by rw [Array.setIfInBounds_comm _ _ (Ne.symm hji), getD_set_st hist]; exact hst2)
      refine ⟨fun _ => hS3, ih (listed.setIfInBounds j true) a' w' hfree' (ready_mono hr (Ne.symm hji)) h3.1 hS3 hst2 ?_⟩
      rw [Array.setIfInBounds_comm _ _ hji]
      exact h3.2.2
theorem wpAnyG_of_ord3 (hs : Region.noSelect ops = true) (hQ : ∀ c a d v w, Q (.panic c) (a.put d v) w → Q (.panic c) a w) :
    ∀ (ord : List (Nat × Nat)) (listed : Array Bool) (a : Act) (w : World), ord3B md ops st ord listed = true → (listed.getD st true = false → S w) → wpOrd3 P ops S Q ord a w → wpAnyG P md ops Q st S ord.length listed a w
  | [], listed, a, w, hB, _, h => ⟨by simpa [ord3B] using hB, h⟩
  | (i, 0) :: r, listed, a, w, hB, hS, h => by
    simp only [ord3B, Bool.and_eq_true, bne_iff_ne, ne_eq] at hB
    obtain ⟨o, v, hi, hy, hr⟩ := h
    have hrd : i ∈ Region.ready md ops listed := by simpa using hB.1.2
    exact wpAnyG_pure hi (Region.noSelect_spec hs) (fun c a w hq => hQ c a _ _ w hq) hB.1.1.1 r.length listed a w (Region.free_spec hi hB.1.1.2) hrd hy hS
      (wpAnyG_of_ord3 hs hQ r _ _ _ hB.2 (fun h => hS (by rw [← getD_set_st hB.1.1.1]; exact h)) hr)
  | (i, 1) :: r, listed, a, w, hB, hS, h => by
    simp only [ord3B, Bool.and_eq_true, bne_iff_ne, ne_eq, beq_iff_eq] at hB
    obtain ⟨hS1, o, v, hi, hy, hr⟩ := h
    have hrd : i ∈ Region.ready md ops listed := by simpa using hB.1.2
    exact wpAnyG_load hi (Region.noSelect_spec hs) (fun c a w hq => hQ c a _ _ w hq) hB.1.1.1.1.1 hB.1.1.1.1.2 r.length listed a w (Region.free_spec hi hB.1.1.2) hrd hy hS1 hB.1.1.1.2
      (wpAnyG_of_ord3 hs hQ r _ _ _ hB.2 (fun _ => hS1) hr)
  | (i, 2) :: r, listed, a, w, hB, hS, h => by
    simp only [ord3B, Bool.and_eq_true, beq_iff_eq] at hB
    refine ⟨fun h0 => (by rw [hB.1] at h0; cases h0), fun j hj => ?_⟩
    rw [hB.1] at hj
    obtain rfl : j = i := by simpa using hj
    exact wpOp_mono (fun a' w' hh => ⟨fun _ => hh.1, wpAnyG_of_ord3 hs hQ r _ _ _ hB.2 (fun _ => hh.1) hh.2⟩) h
  | (i, n + 3) :: r, listed, a, w, hB, hS, h => by
    simp only [ord3B, Bool.and_eq_true, beq_iff_eq] at hB
    refine ⟨fun h0 => (by rw [hB.1.1.1] at h0; cases h0), fun j hj => ?_⟩
    rw [hB.1.1.1] at hj
    obtain rfl : j = i := by simpa using hj
    have hno : ∀ {p : Prop}, (listed.setIfInBounds j true).getD st true = false → p := fun h => by rw [hB.1.2] at h; cases h
    exact wpOp_mono (fun a' w' hh => ⟨fun h => hno h, wpAnyG_of_ord3 hs hQ r _ _ _ hB.2 (fun h => hno h) hh⟩) h
theorem wp_region_ord3 {id : Nat} {a : Act} {w : World} {l : List Oper} (st : Nat) (ord : List (Nat × Nat)) (S : World → Prop)
    (hm : (P.follows .mixedOrders && Region.noSelect l.toArray && ord3B .any l.toArray st ord (Array.replicate l.toArray.size false) && (ord.length == l.toArray.size)) = true)
    (hQ : ∀ c a d v w, Q (.panic c) (a.put d v) w → Q (.panic c) a w) (hS : S w.drew) (h : wpOrd3 P l.toArray S Q ord a w.drew) : (Code.region id l.toArray true).wp P Q a w := by
  simp only [Bool.and_eq_true, beq_iff_eq] at hm
  refine wp_region_any hm.1.1.1 ?_
  have := wpAnyG_of_ord3 (md := .any) (st := st) (S := S) hm.1.1.2 hQ ord _ a w.drew hm.1.2 (fun _ => hS) h
  rw [hm.2] at this
  exact wpAny_of_G _ _ _ _ this
variable {i : Nat} {r : List (Nat × Nat)} {o : Oper} {a : Act} {w : World}
theorem o3_pure (d : Nat) (v : Value) {o : Oper} (hi : ops[i]? = some o) (hd : o.dst = some d) (hw : Region.wanted o (yielded ops a.tmps) = true) (hv : ∀ w, (execOp a.eval o).run P w = .ok (.value v) w)
    (h : wpOrd3 P ops S Q r (a.put (some d) v) w) : wpOrd3 P ops S Q ((i, 0) :: r) a w :=
  ⟨o, v, hi, .inl ⟨hw, fun w _ => hv w⟩, by rw [hd]; exact h⟩
theorem o3_load (d : Nat) (v : Value) {o : Oper} (hi : ops[i]? = some o) (hd : o.dst = some d) (hw : Region.wanted o (yielded ops a.tmps) = true) (hS : S w) (hv : ∀ w, S w → (execOp a.eval o).run P w = .ok (.value v) w)
    (h : wpOrd3 P ops S Q r (a.put (some d) v) w) : wpOrd3 P ops S Q ((i, 1) :: r) a w :=
  ⟨hS, o, v, hi, .inl ⟨hw, hv⟩, by rw [hd]; exact h⟩
theorem o3_call (d : Nat) (f : FuncId) {fn : Func} (hf : P.funcs[f]? = some fn) (hn : (fn.name == "runtime.NumGoroutine") = false) (hb : fn.body.isNone = false) (vals : List Value)
    {o : Oper} {args : List Operand} {ts : Array TypeId} (hi : ops[i]? = some o) (ho : o.op = .call { callee := .value (.func f), args := args.toArray, argTypes := ts })
    (hd : o.dst = some d) (hw : Region.wanted o (yielded ops a.tmps) = true) (hv : args.map a.eval = vals)
    (h : Calls P f vals.toArray w fun e w' => ∃ v, e = .returned v ∧ S w' ∧ wpOrd3 P ops S Q r (a.put (some d) v) w') : wpOrd3 P ops S Q ((i, 2) :: r) a w := by
  show wpOp P ops Q i _ a w
  unfold wpOp
  simp only [hi, hw, if_true]
  refine .inl ?_
  unfold Oper.wp
  rw [show (execOp a.eval o).run P w = .ok (.enter f vals.toArray) w by rw [← hv, ← List.map_toArray]; exact exec_call hf hn hb o args.toArray ts ho, Oper.upon_enter]
  refine h.mono fun e w' he => ?_
  obtain ⟨v, rfl, hS, hh⟩ := he
  rw [← hd] at hh
  exact ⟨hS, hh⟩
theorem o3_store {o : Oper} (w' : World) (hi : ops[i]? = some o) (hd : o.dst = none) (hw : Region.wanted o (yielded ops a.tmps) = true) (hrun : (execOp a.eval o).run P w = .ok .skip w')
    (h : wpOrd3 P ops S Q r a w') : wpOrd3 P ops S Q ((i, 3) :: r) a w := by
  show wpOp P ops Q i _ a w
  unfold wpOp
  simp only [hi, hw, if_true]
  refine .inl ?_
  unfold Oper.wp
  rw [hrun]
  show wpOrd3 P ops S Q r (a.put o.dst undef) w'
  rw [hd]
  exact h
end
end Go.Proofs.YtpmjcbjdcjjplaaGreat
end
