/- No program: ways along edges; what is reached. -/
namespace Go.Proofs.YtlfefikhmdbbfaaGreat
set_option linter.unusedVariables false

inductive Way (E : List (Nat × Nat)) : Nat → Nat → Prop
  | one {a b : Nat} : (a, b) ∈ E → Way E a b
  | more {a b c : Nat} : Way E a b → (b, c) ∈ E → Way E a c
theorem Way.trans {E : List (Nat × Nat)} {a b c : Nat} (h : Way E a b) (k : Way E b c) : Way E a c := by
  induction k with
  | one h2 => exact .more h h2
  | more _ h2 ih => exact .more ih h2
theorem Way.first {E : List (Nat × Nat)} {a c : Nat} (h : Way E a c) : ∃ b, (a, b) ∈ E ∧ (b = c ∨ Way E b c) := by
  induction h with
  | one h => exact ⟨_, h, .inl rfl⟩
  | more _ h2 ih =>
    obtain ⟨b, hb, hc⟩ := ih
    refine ⟨b, hb, .inr ?_⟩
    rcases hc with rfl | hc
    · exact .one h2
    · exact .more hc h2
theorem Way.lt {E : List (Nat × Nat)} {n a c : Nat} (hE : ∀ e ∈ E, e.2 < n) (h : Way E a c) : c < n := by
  cases h with
  | one h => exact hE _ h
  | more _ h => exact hE _ h
theorem Way.mono {E F : List (Nat × Nat)} (hs : ∀ e ∈ E, e ∈ F) {a c : Nat} (h : Way E a c) : Way F a c := by
  induction h with
  | one h => exact .one (hs _ h)
  | more _ h ih => exact .more ih (hs _ h)

def stepM (a : Nat) (m : Nat → Bool) (e : Nat × Nat) : Nat → Bool := if e.1 == a || m e.1 then fun b => b == e.2 || m b else m
def sweepM (E : List (Nat × Nat)) (a : Nat) (m : Nat → Bool) : Nat → Bool := E.foldl (stepM a) m
def sweepsM (E : List (Nat × Nat)) (a : Nat) : Nat → Nat → Bool
  | 0 => fun _ => false
  | k + 1 => sweepM E a (sweepsM E a k)
def cnt (n : Nat) (m : Nat → Bool) : Nat := (List.range n).countP m
theorem cnt_le (n : Nat) (m : Nat → Bool) : cnt n m ≤ n := by unfold cnt; exact Nat.le_trans List.countP_le_length (by simp)
theorem cntP_lt {α : Type} {p q : α → Bool} : ∀ {l : List α}, (∀ x, p x = true → q x = true) → (∃ x, x ∈ l ∧ q x = true ∧ p x = false) → l.countP p < l.countP q
  | [], _, ⟨_, hx, _⟩ => by cases hx
  | a :: l, hpq, ⟨x, hx, h1, h2⟩ => by
    have hle : l.countP p ≤ l.countP q := List.countP_mono_left fun y _ => hpq y
    rw [List.countP_cons, List.countP_cons]
    rcases List.mem_cons.1 hx with rfl | hx
    · rw [h1, h2]; simp; omega
    · have := cntP_lt (l := l) hpq ⟨x, hx, h1, h2⟩
      cases hp : p a with
      | false => simp; split <;> omega
      | true => rw [hpq a hp]; simp; omega
theorem cnt_lt {n : Nat} {m m' : Nat → Bool} (h : ∀ b, m b = true → m' b = true) {b : Nat} (hb : b < n) (h1 : m' b = true) (h2 : m b = false) : cnt n m < cnt n m' :=
  cntP_lt h ⟨b, List.mem_range.2 hb, h1, h2⟩
theorem cnt_mono {n : Nat} {m m' : Nat → Bool} (h : ∀ b, m b = true → m' b = true) : cnt n m ≤ cnt n m' := by
  unfold cnt; exact List.countP_mono_left fun y _ => h y
theorem stepM_mono (a : Nat) (m : Nat → Bool) (e : Nat × Nat) : ∀ b, m b = true → stepM a m e b = true := by
  intro b h; unfold stepM; split
  · simp [h]
  · exact h
theorem sweepM_mono (a : Nat) : ∀ (E : List (Nat × Nat)) (m : Nat → Bool), ∀ b, m b = true → sweepM E a m b = true
  | [], _, _, h => h
  | e :: E, m, b, h => sweepM_mono a E _ b (stepM_mono a m e b h)
def ClosedM (E : List (Nat × Nat)) (a : Nat) (m : Nat → Bool) : Prop := ∀ e ∈ E, (e.1 = a ∨ m e.1 = true) → m e.2 = true
theorem sweepM_room (n a : Nat) : ∀ (E : List (Nat × Nat)) (m : Nat → Bool), (∀ e ∈ E, e.2 < n) → (sweepM E a m = m ∧ ClosedM E a m) ∨ cnt n m < cnt n (sweepM E a m)
  | [], m, _ => .inl ⟨rfl, fun e he => by cases he⟩
  | e :: E, m, hE => by
    have hE' : ∀ x ∈ E, x.2 < n := fun x hx => hE x (List.mem_cons_of_mem _ hx)
    show (sweepM E a (stepM a m e) = m ∧ _) ∨ _ < cnt n (sweepM E a (stepM a m e))
    by_cases hc : (e.1 == a || m e.1) = true ∧ m e.2 = false
    · refine .inr (Nat.lt_of_lt_of_le (cnt_lt (stepM_mono a m e) (hE e (List.mem_cons_self ..)) ?_ hc.2) (cnt_mono (sweepM_mono a E _)))
      unfold stepM; rw [if_pos hc.1]; simp
    · have hs : stepM a m e = m := by
        unfold stepM
        split
        · rename_i h1
          funext b
          by_cases hb : b = e.2
          · subst hb; cases h2 : m e.2 with
            | true => simp
            | false => exact absurd ⟨h1, h2⟩ hc
          · simp [hb]
        · rfl
      rw [hs]
      rcases sweepM_room n a E m hE' with ⟨h1, h2⟩ | h1
      · refine .inl ⟨h1, fun x hx hp => ?_⟩
        rcases List.mem_cons.1 hx with rfl | hx
        · cases h3 : m x.2 with
          | true => rfl
          | false => exact absurd ⟨by simpa using hp, h3⟩ hc
        · exact h2 x hx hp
      · exact .inr h1
theorem sweepsM_room (n a : Nat) (E : List (Nat × Nat)) (hE : ∀ e ∈ E, e.2 < n) : ∀ k, (sweepsM E a (k + 1) = sweepsM E a k ∧ ClosedM E a (sweepsM E a k)) ∨ k + 1 ≤ cnt n (sweepsM E a (k + 1))
  | 0 => by
    rcases sweepM_room n a E (sweepsM E a 0) hE with h | h
    · exact .inl h
    · right; show 0 + 1 ≤ cnt n (sweepM E a (sweepsM E a 0)); omega
  | k + 1 => by
    rcases sweepM_room n a E (sweepsM E a (k + 1)) hE with h | h
    · exact .inl h
    · rcases sweepsM_room n a E hE k with h1 | h1
      · left
        have e2 : sweepsM E a (k + 2) = sweepsM E a (k + 1) := by
          show sweepM E a (sweepsM E a (k + 1)) = sweepM E a (sweepsM E a k)
          rw [h1.1]
        exact ⟨e2, by rw [h1.1]; exact h1.2⟩
      · right; show k + 1 + 1 ≤ cnt n (sweepM E a (sweepsM E a (k + 1))); omega
/-- what is reached from a -/
def reach (n : Nat) (E : List (Nat × Nat)) (a : Nat) : Nat → Bool := sweepsM E a (n + 1)
theorem reach_closed {n a : Nat} {E : List (Nat × Nat)} (hE : ∀ e ∈ E, e.2 < n) : ClosedM E a (reach n E a) := by
  rcases sweepsM_room n a E hE n with h | h
  · unfold reach; rw [h.1]; exact h.2
  · have := cnt_le n (sweepsM E a (n + 1)); omega
theorem sweepM_way {E : List (Nat × Nat)} {a : Nat} : ∀ (F : List (Nat × Nat)) (m : Nat → Bool), (∀ e ∈ F, e ∈ E) → (∀ b, m b = true → Way E a b) → ∀ b, sweepM F a m b = true → Way E a b
  | [], _, _, hm, b, h => hm b h
  | e :: F, m, hF, hm, b, h => by
    refine sweepM_way F (stepM a m e) (fun x hx => hF x (List.mem_cons_of_mem _ hx)) (fun c hc => ?_) b h
    unfold stepM at hc
    split at hc
    · rename_i h1
      simp only [Bool.or_eq_true, beq_iff_eq] at hc h1
      have he := hF e (List.mem_cons_self ..)
      rcases hc with rfl | hc
      · rcases h1 with h1 | h1
        · exact .one (by rw [← h1]; exact he)
        · exact .more (hm _ h1) he
      · exact hm c hc
    · exact hm c hc
theorem sweepsM_way {E : List (Nat × Nat)} {a : Nat} : ∀ k b, sweepsM E a k b = true → Way E a b
  | 0, b, h => by cases h
  | k + 1, b, h => sweepM_way E _ (fun _ h => h) (sweepsM_way k) b h
theorem closed_way {E : List (Nat × Nat)} {a : Nat} {m : Nat → Bool} (hc : ClosedM E a m) {b : Nat} (h : Way E a b) : m b = true := by
  induction h with
  | one h => exact hc _ h (.inl rfl)
  | more _ h ih => exact hc _ h (.inr ih)
theorem reach_iff {n a b : Nat} {E : List (Nat × Nat)} (hE : ∀ e ∈ E, e.2 < n) : reach n E a b = true ↔ Way E a b :=
  ⟨sweepsM_way _ b, closed_way (reach_closed hE)⟩
theorem reach_eq {n a : Nat} {E : List (Nat × Nat)} (hE : ∀ e ∈ E, e.2 < n) {m : Nat → Bool} (hc : ClosedM E a m) (hw : ∀ b, m b = true → Way E a b) (b : Nat) : m b = reach n E a b := by
  rw [Bool.eq_iff_iff, reach_iff hE]
  exact ⟨hw b, closed_way hc⟩

/-! order -/
def freeN (E : List (Nat × Nat)) (D : List Nat) (i : Nat) : Bool := !D.contains i && E.all fun e => !(e.2 == i) || D.contains e.1
def pickN (n : Nat) (E : List (Nat × Nat)) (D : List Nat) : Option Nat := (List.range n).find? (freeN E D)
def orderN (n : Nat) (E : List (Nat × Nat)) : Nat → List Nat → List Nat
  | 0, D => D
  | k + 1, D => match pickN n E D with | none => D | some i => orderN n E k (D ++ [i])
/-- the nodes in order, as far as they come -/
def orderOf (n : Nat) (E : List (Nat × Nat)) : List Nat := orderN n E n []

structure Topo (n : Nat) (E : List (Nat × Nat)) (D : List Nat) : Prop where
  lt : ∀ i ∈ D, i < n
  nodup : D.Nodup
  pred : ∀ (j : Nat) (i : Nat), D[j]? = some i → ∀ e ∈ E, e.2 = i → ∃ k, k < j ∧ D[k]? = some e.1
theorem Topo.nil (n : Nat) (E : List (Nat × Nat)) : Topo n E [] := ⟨fun i h => (by cases h), List.nodup_nil, fun j i h => (by simp at h)⟩
theorem pick_some {n : Nat} {E : List (Nat × Nat)} {D : List Nat} {i : Nat} (h : pickN n E D = some i) : i < n ∧ i ∉ D ∧ (∀ e ∈ E, e.2 = i → e.1 ∈ D) ∧ ∀ j, j < i → freeN E D j = false := by
  unfold pickN at h
  rw [List.find?_range_eq_some] at h
  obtain ⟨h1, h2, h3⟩ := h
  unfold freeN at h1
  simp only [Bool.and_eq_true, Bool.not_eq_true', List.all_eq_true, Bool.or_eq_true, beq_eq_false_iff_ne, ne_eq, List.contains_iff_mem] at h1
  refine ⟨List.mem_range.1 h2, by simpa using h1.1, fun e he hei => ?_, fun j hj => by simpa using h3 j hj⟩
  rcases h1.2 e he with h | h
  · exact absurd hei h
  · simpa using h
theorem pick_none {n : Nat} {E : List (Nat × Nat)} {D : List Nat} (h : pickN n E D = none) {i : Nat} (hi : i < n) (hD : i ∉ D) : ∃ e ∈ E, e.2 = i ∧ e.1 ∉ D := by
  unfold pickN at h
  rw [List.find?_eq_none] at h
  have := h i (List.mem_range.2 hi)
  unfold freeN at this
  rw [Bool.and_eq_true] at this
  have hc : (!D.contains i) = true := by simpa using hD
  have h2 : ¬ (E.all fun e => !(e.2 == i) || D.contains e.1) = true := fun h2 => this ⟨hc, h2⟩
  rw [List.all_eq_true] at h2
  obtain ⟨e, he⟩ := Classical.not_forall.1 h2
  obtain ⟨he, h3⟩ := Classical.not_imp.1 he
  simp at h3
  exact ⟨e, he, h3.1, h3.2⟩
theorem Topo.step {n : Nat} {E : List (Nat × Nat)} {D : List Nat} (t : Topo n E D) {i : Nat} (h : pickN n E D = some i) : Topo n E (D ++ [i]) := by
  obtain ⟨h1, h2, h3, _⟩ := pick_some h
  refine ⟨fun x hx => ?_, ?_, fun j x hj e he hex => ?_⟩
  · rcases List.mem_append.1 hx with hx | hx
    · exact t.lt x hx
    · rw [List.mem_singleton.1 hx]; exact h1
  · rw [List.nodup_append]
    refine ⟨t.nodup, by simp, fun a ha b hb => ?_⟩
    rw [List.mem_singleton.1 hb]; exact fun h => h2 (h ▸ ha)
  · rcases Nat.lt_or_ge j D.length with hl | hl
    · rw [List.getElem?_append_left hl] at hj
      obtain ⟨k, hk, hd⟩ := t.pred j x hj e he hex
      exact ⟨k, hk, by rw [List.getElem?_append_left (by omega)]; exact hd⟩
    · rw [List.getElem?_append_right hl] at hj
      have hj0 : j - D.length = 0 := by have := (List.getElem?_eq_some_iff.1 hj).1; simp at this; omega
      rw [hj0] at hj
      simp at hj
      subst hj
      obtain ⟨k, hk⟩ := List.mem_iff_getElem?.1 (h3 e he hex)
      have hkl := (List.getElem?_eq_some_iff.1 hk).1
      exact ⟨k, by omega, by rw [List.getElem?_append_left hkl]; exact hk⟩
theorem countP_or_ne {a : Nat} {r : List Nat} (ha : a ∉ r) : ∀ l : List Nat, l.countP (fun x => x == a || r.contains x) = l.countP (fun x => x == a) + l.countP (fun x => r.contains x)
  | [] => rfl
  | x :: l => by
    rw [List.countP_cons, List.countP_cons, List.countP_cons, countP_or_ne ha l]
    by_cases hx : x = a
    · subst hx
      have : r.contains x = false := by simpa using ha
      rw [this]; simp; omega
    · have : (x == a) = false := by simpa using hx
      rw [this]; simp; omega
theorem countP_one (a : Nat) : ∀ n, (List.range n).countP (fun x => x == a) = if a < n then 1 else 0
  | 0 => rfl
  | n + 1 => by
    rw [List.range_succ, List.countP_append, countP_one a n]
    simp only [List.countP_cons, List.countP_nil]
    by_cases h : n = a
    · subst h; simp
    · have : (n == a) = false := by simpa using h
      rw [this]
      by_cases h2 : a < n
      · have h3 : a < n + 1 := by omega
        simp [h2, h3]
      · have h3 : ¬ a < n + 1 := by omega
        simp [h2, h3]
theorem nodup_cnt {n : Nat} : ∀ {D : List Nat}, D.Nodup → (∀ i ∈ D, i < n) → cnt n (fun x => D.contains x) = D.length
  | [], _, _ => by unfold cnt; simp
  | a :: r, hn, hl => by
    have h1 := List.nodup_cons.1 hn
    have h2 : cnt n (fun x => (a :: r).contains x) = (List.range n).countP (fun x => x == a || r.contains x) := by
      unfold cnt
      exact List.countP_congr fun x _ => by simp
    rw [h2, countP_or_ne h1.1, countP_one, if_pos (hl a (List.mem_cons_self ..))]
    have := nodup_cnt (n := n) h1.2 fun i hi => hl i (List.mem_cons_of_mem _ hi)
    unfold cnt at this
    rw [this, List.length_cons]; omega
theorem nodup_len {n : Nat} {D : List Nat} (hn : D.Nodup) (hl : ∀ i ∈ D, i < n) : D.length ≤ n := by
  rw [← nodup_cnt hn hl]; exact cnt_le _ _
theorem cnt_all {n : Nat} {m : Nat → Bool} (h : cnt n m = n) {i : Nat} (hi : i < n) : m i = true := by
  cases hm : m i with
  | true => rfl
  | false =>
    have := cnt_lt (n := n) (m := m) (m' := fun _ => true) (fun _ _ => rfl) hi rfl hm
    have h2 := cnt_le n (fun _ => true)
    omega
theorem Topo.len {n : Nat} {E : List (Nat × Nat)} {D : List Nat} (t : Topo n E D) : D.length ≤ n := nodup_len t.nodup t.lt
theorem Topo.all {n : Nat} {E : List (Nat × Nat)} {D : List Nat} (t : Topo n E D) (hl : D.length = n) {i : Nat} (hi : i < n) : i ∈ D := by
  have := cnt_all (by rw [nodup_cnt t.nodup t.lt]; exact hl) hi
  simpa using this
theorem Topo.less {n : Nat} {E : List (Nat × Nat)} {D : List Nat} (t : Topo n E D) (hl : D.length < n) : ∃ i, i < n ∧ i ∉ D := by
  refine Classical.byContradiction fun hno => ?_
  have hall : ∀ i, i < n → D.contains i = true := fun i hi => Classical.byContradiction fun h => hno ⟨i, hi, by simpa using h⟩
  have h1 : cnt n (fun x => D.contains x) = n := by
    unfold cnt
    rw [List.countP_eq_length.2 fun x hx => hall x (List.mem_range.1 hx)]
    simp
  rw [nodup_cnt t.nodup t.lt] at h1
  omega
theorem Topo.way {n : Nat} {E : List (Nat × Nat)} {D : List Nat} (t : Topo n E D) {a b : Nat} (h : Way E a b) : ∀ j : Nat, D[j]? = some b → ∃ k : Nat, k < j ∧ D[k]? = some a := by
  induction h with
  | one h => exact fun j hj => t.pred j _ hj _ h rfl
  | more _ h ih =>
    intro j hj
    obtain ⟨k, hk, hd⟩ := t.pred j _ hj _ h rfl
    obtain ⟨k2, hk2, hd2⟩ := ih k hd
    exact ⟨k2, by omega, hd2⟩
theorem nodup_at {D : List Nat} (hn : D.Nodup) {j k : Nat} {i : Nat} (hj : D[j]? = some i) (hk : D[k]? = some i) : j = k := by
  obtain ⟨h1, h2⟩ := List.getElem?_eq_some_iff.1 hj
  obtain ⟨h3, h4⟩ := List.getElem?_eq_some_iff.1 hk
  have hp := List.pairwise_iff_getElem.1 hn
  rcases Nat.lt_trichotomy j k with h | h | h
  · exact absurd (h2.trans h4.symm) (hp j k h1 h3 h)
  · exact h
  · exact absurd (h4.trans h2.symm) (hp k j h3 h1 h)
theorem Topo.acyclic {n : Nat} {E : List (Nat × Nat)} {D : List Nat} (t : Topo n E D) {i : Nat} (hi : i ∈ D) : ¬ Way E i i := by
  intro h
  obtain ⟨j, hj⟩ := List.mem_iff_getElem?.1 hi
  obtain ⟨k, hk, hd⟩ := t.way h j hj
  have := nodup_at t.nodup hj hd
  omega
/-- where there is no loop there is always one that is free -/
theorem pick_free {n : Nat} {E : List (Nat × Nat)} (hE1 : ∀ e ∈ E, e.1 < n) (hE : ∀ e ∈ E, e.2 < n) (hac : ∀ i, i < n → ¬ Way E i i) {D : List Nat} : ∀ (c i : Nat), cnt n (fun x => reach n E x i) ≤ c → i < n → i ∉ D → pickN n E D ≠ none
  | c, i, hc, hi, hD => by
    intro hnone
    obtain ⟨e, he, hei, heD⟩ := pick_none hnone hi hD
    have hw : Way E e.1 i := by rw [← hei]; exact .one he
    have hlt : cnt n (fun x => reach n E x e.1) < cnt n (fun x => reach n E x i) := by
      refine cnt_lt (fun x hx => ?_) (hE1 e he) ((reach_iff hE).2 hw) ?_
      · exact (reach_iff hE).2 (((reach_iff hE).1 hx).trans hw)
      · cases h : reach n E e.1 e.1 with
        | false => rfl
        | true => exact absurd ((reach_iff hE).1 h) (hac _ (hE1 e he))
    cases c with
    | zero => omega
    | succ c => exact pick_free hE1 hE hac c e.1 (by omega) (hE1 e he) heD hnone
theorem order_topo {n : Nat} {E : List (Nat × Nat)} : ∀ (k : Nat) {D : List Nat}, Topo n E D → Topo n E (orderN n E k D)
  | 0, _, t => t
  | k + 1, D, t => by
    unfold orderN
    split
    · exact t
    · exact order_topo k (t.step ‹_›)
theorem order_len {n : Nat} {E : List (Nat × Nat)} (hp : ∀ D : List Nat, Topo n E D → D.length < n → pickN n E D ≠ none) : ∀ (k : Nat) {D : List Nat}, Topo n E D → D.length + k = n → (orderN n E k D).length = n
  | 0, D, t, h => by simpa [orderN] using h
  | k + 1, D, t, h => by
    unfold orderN
    split
    · exact absurd ‹_› (hp D t (by omega))
    · exact order_len hp k (t.step ‹_›) (by simp; omega)
/-- all come just if there is no loop -/
theorem order_whole {n : Nat} {E : List (Nat × Nat)} (hE1 : ∀ e ∈ E, e.1 < n) (hE : ∀ e ∈ E, e.2 < n) : (orderOf n E).length = n ↔ ∀ i, i < n → ¬ Way E i i := by
  have t := order_topo n (Topo.nil n E)
  constructor
  · intro h i hi
    exact t.acyclic (t.all h hi)
  · intro hac
    refine order_len (fun D tD hl => ?_) n (Topo.nil n E) (by simp)
    obtain ⟨i, hi, hD⟩ := tD.less hl
    exact pick_free hE1 hE hac _ i (Nat.le_refl _) hi hD
end Go.Proofs.YtlfefikhmdbbfaaGreat
