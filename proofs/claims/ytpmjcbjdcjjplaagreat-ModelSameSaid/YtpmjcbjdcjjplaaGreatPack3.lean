/- Parts of a proof: Graph, Graph2, Graph3. -/
section
namespace Go.Proofs.YtpmjcbjdcjjplaaGreat
set_option linter.unusedVariables false
inductive Way (E : List (Nat × Nat)) : Nat → Nat → Prop
  | one {a b : Nat} : (a, b) ∈ E → Way E a b
  | more {a b c : Nat} : Way E a b → (b, c) ∈ E → Way E a c
theorem Way.trans {E : List (Nat × Nat)} {a b c : Nat} (h : Way E a b) (k : Way E b c) : Way E a c := by
  induction k with
  | one h2 => exact .more h h2
  | more _ h2 ih => exact .more ih h2
theorem Way.first {E : List (Nat × Nat)} {a c : Nat} (h : Way E a c) : ∃ b, (a, b) ∈ E ∧ (b = c ∨ Way E b c) := by
  induction h with
  | one h => exact ⟨_, h, .inl rfl⟩
  | more _ h2 ih =>
    obtain ⟨b, hb, hc⟩ := ih
    refine ⟨b, hb, .inr ?_⟩
    rcases hc with rfl | hc
    · exact .one h2
    · exact .more hc h2
theorem Way.lt {E : List (Nat × Nat)} {n a c : Nat} (hE : ∀ e ∈ E, e.2 < n) (h : Way E a c) : c < n := by
  cases h with
  | one h => exact hE _ h
  | more _ h => exact hE _ h
theorem Way.mono {E F : List (Nat × Nat)} (hs : ∀ e ∈ E, e ∈ F) {a c : Nat} (h : Way E a c) : Way F a c := by
  induction h with
  | one h => exact .one (hs _ h)
  | more _ h ih => exact .more ih (hs _ h)
def stepM (a : Nat) (m : Nat → Bool) (e : Nat × Nat) : Nat → Bool := if e.1 == a || m e.1 then fun b => b == e.2 || m b else m
def sweepM (E : List (Nat × Nat)) (a : Nat) (m : Nat → Bool) : Nat → Bool := E.foldl (stepM a) m
def sweepsM (E : List (Nat × Nat)) (a : Nat) : Nat → Nat → Bool
  | 0 => fun _ => false
  | k + 1 => sweepM E a (sweepsM E a k)
def cnt (n : Nat) (m : Nat → Bool) : Nat := (List.range n).countP m
theorem cnt_le (n : Nat) (m : Nat → Bool) : cnt n m ≤ n := by unfold cnt; exact Nat.le_trans List.countP_le_length (by simp)
theorem cntP_lt {α : Type} {p q : α → Bool} : ∀ {l : List α}, (∀ x, p x = true → q x = true) → (∃ x, x ∈ l ∧ q x = true ∧ p x = false) → l.countP p < l.countP q
  | [], _, ⟨_, hx, _⟩ => by cases hx
  | a :: l, hpq, ⟨x, hx, h1, h2⟩ => by
    have hle : l.countP p ≤ l.countP q := List.countP_mono_left fun y _ => hpq y
    rw [List.countP_cons, List.countP_cons]
    rcases List.mem_cons.1 hx with rfl | hx
    · rw [h1, h2]; simp; omega
    · have := cntP_lt (l := l) hpq ⟨x, hx, h1, h2⟩
      cases hp : p a with
      | false => simp; split <;> omega
      | true => rw [hpq a hp]; simp; omega
theorem cnt_lt {n : Nat} {m m' : Nat → Bool} (h : ∀ b, m b = true → m' b = true) {b : Nat} (hb : b < n) (h1 : m' b = true) (h2 : m b = false) : cnt n m < cnt n m' :=
  cntP_lt h ⟨b, List.mem_range.2 hb, h1, h2⟩
theorem cnt_mono {n : Nat} {m m' : Nat → Bool} (h : ∀ b, m b = true → m' b = true) : cnt n m ≤ cnt n m' := by
  unfold cnt; exact List.countP_mono_left fun y _ => h y
theorem stepM_mono (a : Nat) (m : Nat → Bool) (e : Nat × Nat) : ∀ b, m b = true → stepM a m e b = true := by
  intro b h; unfold stepM; split
  · simp [h]
  · exact h
theorem sweepM_mono (a : Nat) : ∀ (E : List (Nat × Nat)) (m : Nat → Bool), ∀ b, m b = true → sweepM E a m b = true
  | [], _, _, h => h
  | e :: E, m, b, h => sweepM_mono a E _ b (stepM_mono a m e b h)
def ClosedM (E : List (Nat × Nat)) (a : Nat) (m : Nat → Bool) : Prop := ∀ e ∈ E, (e.1 = a ∨ m e.1 = true) → m e.2 = true
theorem sweepM_room (n a : Nat) : ∀ (E : List (Nat × Nat)) (m : Nat → Bool), (∀ e ∈ E, e.2 < n) → (sweepM E a m = m ∧ ClosedM E a m) ∨ cnt n m < cnt n (sweepM E a m)
  | [], m, _ => .inl ⟨rfl, fun e he => by cases he⟩
  | e :: E, m, hE => by
    have hE' : ∀ x ∈ E, x.2 < n := fun x hx => hE x (List.mem_cons_of_mem _ hx)
    show (sweepM E a (stepM a m e) = m ∧ _) ∨ _ < cnt n (sweepM E a (stepM a m e))
    by_cases hc : (e.1 == a || m e.1) = true ∧ m e.2 = false
    · refine .inr (Nat.lt_of_lt_of_le (cnt_lt (stepM_mono a m e) (hE e (List.mem_cons_self ..)) ?_ hc.2) (cnt_mono (sweepM_mono a E _)))
      unfold stepM; rw [if_pos hc.1]; simp
    · have hs : stepM a m e = m := by
        unfold stepM
        split
        · rename_i h1
          funext b
          by_cases hb : b = e.2
          · subst hb; cases h2 : m e.2 with
            | true => simp
            | false => exact absurd ⟨h1, h2⟩ hc
          · simp [hb]
        · rfl
      rw [hs]
      rcases sweepM_room n a E m hE' with ⟨h1, h2⟩ | h1
      · refine .inl ⟨h1, fun x hx hp => ?_⟩
        rcases List.mem_cons.1 hx with rfl | hx
        · cases h3 : m x.2 with
          | true => rfl
          | false => exact absurd ⟨by simpa using hp, h3⟩ hc
        · exact h2 x hx hp
      · exact .inr h1
theorem sweepsM_room (n a : Nat) (E : List (Nat × Nat)) (hE : ∀ e ∈ E, e.2 < n) : ∀ k, (sweepsM E a (k + 1) = sweepsM E a k ∧ ClosedM E a (sweepsM E a k)) ∨ k + 1 ≤ cnt n (sweepsM E a (k + 1))
  | 0 => by
    rcases sweepM_room n a E (sweepsM E a 0) hE with h | h
    · exact .inl h
    · right; show 0 + 1 ≤ cnt n (sweepM E a (sweepsM E a 0)); omega
  | k + 1 => by
    rcases sweepM_room n a E (sweepsM E a (k + 1)) hE with h | h
    · exact .inl h
    · rcases sweepsM_room n a E hE k with h1 | h1
      · left
        have e2 : sweepsM E a (k + 2) = sweepsM E a (k + 1) := by
          show sweepM E a (sweepsM E a (k + 1)) = sweepM E a (sweepsM E a k)
          rw [h1.1]
        exact ⟨e2, by rw [h1.1]; exact h1.2⟩
      · right; show k + 1 + 1 ≤ cnt n (sweepM E a (sweepsM E a (k + 1))); omega
def reach (n : Nat) (E : List (Nat × Nat)) (a : Nat) : Nat → Bool := sweepsM E a (n + 1)
theorem reach_closed {n a : Nat} {E : List (Nat × Nat)} (hE : ∀ e ∈ E, e.2 < n) : ClosedM E a (reach n E a) := by
  rcases sweepsM_room n a E hE n with h | h
  · unfold reach; rw [h.1]; exact h.2
  · have := cnt_le n (sweepsM E a (n + 1)); omega
theorem sweepM_way {E : List (Nat × Nat)} {a : Nat} : ∀ (F : List (Nat × Nat)) (m : Nat → Bool), (∀ e ∈ F, e ∈ E) → (∀ b, m b = true → Way E a b) → ∀ b, sweepM F a m b = true → Way E a b
  | [], _, _, hm, b, h => hm b h
  | e :: F, m, hF, hm, b, h => by
    refine sweepM_way F (stepM a m e) (fun x hx => hF x (List.mem_cons_of_mem _ hx)) (fun c hc => ?_) b h
    unfold stepM at hc
    split at hc
    · rename_i h1
      simp only [Bool.or_eq_true, beq_iff_eq] at hc h1
      have he := hF e (List.mem_cons_self ..)
      rcases hc with rfl | hc
      · rcases h1 with h1 | h1
        · exact .one (by rw [← h1]; exact he)
        · exact .more (hm _ h1) he
      · exact hm c hc
    · exact hm c hc
theorem sweepsM_way {E : List (Nat × Nat)} {a : Nat} : ∀ k b, sweepsM E a k b = true → Way E a b
  | 0, b, h => by cases h
  | k + 1, b, h => sweepM_way E _ (fun _ h => h) (sweepsM_way k) b h
theorem closed_way {E : List (Nat × Nat)} {a : Nat} {m : Nat → Bool} (hc : ClosedM E a m) {b : Nat} (h : Way E a b) : m b = true := by
  induction h with
  | one h => exact hc _ h (.inl rfl)
  | more _ h ih => exact hc _ h (.inr ih)
theorem reach_iff {n a b : Nat} {E : List (Nat × Nat)} (hE : ∀ e ∈ E, e.2 < n) : reach n E a b = true ↔ Way E a b :=
  ⟨sweepsM_way _ b, closed_way (reach_closed hE)⟩
theorem reach_eq {n a : Nat} {E : List (Nat × Nat)} (hE : ∀ e ∈ E, e.2 < n) {m : Nat → Bool} (hc : ClosedM E a m) (hw : ∀ b, m b = true → Way E a b) (b : Nat) : m b = reach n E a b := by
  rw [Bool.eq_iff_iff, reach_iff hE]
  exact ⟨hw b, closed_way hc⟩
def freeN (E : List (Nat × Nat)) (D : List Nat) (i : Nat) : Bool := !D.contains i && E.all fun e => !(e.2 == i) || D.contains e.1
def pickN (n : Nat) (E : List (Nat × Nat)) (D : List Nat) : Option Nat := (List.range n).find? (freeN E D)
structure Topo (n : Nat) (E : List (Nat × Nat)) (D : List Nat) : Prop where
  lt : ∀ i ∈ D, i < n
  nodup : D.Nodup
  pred : ∀ (j : Nat) (i : Nat), D[j]? = some i → ∀ e ∈ E, e.2 = i → ∃ k, k < j ∧ D[k]? = some e.1
theorem Topo.nil (n : Nat) (E : List (Nat × Nat)) : Topo n E [] := ⟨fun i h => (by cases h), List.nodup_nil, fun j i h => (by simp at h)⟩
theorem pick_some {n : Nat} {E : List (Nat × Nat)} {D : List Nat} {i : Nat} (h : pickN n E D = some i) : i < n ∧ i ∉ D ∧ (∀ e ∈ E, e.2 = i → e.1 ∈ D) ∧ ∀ j, j < i → freeN E D j = false := by
  unfold pickN at h
  rw [List.find?_range_eq_some] at h
  obtain ⟨h1, h2, h3⟩ := h
  unfold freeN at h1
  simp only [Bool.and_eq_true, Bool.not_eq_true', List.all_eq_true, Bool.or_eq_true, beq_eq_false_iff_ne, ne_eq, List.contains_iff_mem] at h1
  refine ⟨List.mem_range.1 h2, by simpa using h1.1, fun e he hei => ?_, fun j hj => by simpa using h3 j hj⟩
  rcases h1.2 e he with h | h
  · exact absurd hei h
  · simpa using h
theorem Topo.step {n : Nat} {E : List (Nat × Nat)} {D : List Nat} (t : Topo n E D) {i : Nat} (h : pickN n E D = some i) : Topo n E (D ++ [i]) := by
  obtain ⟨h1, h2, h3, _⟩ := pick_some h
  refine ⟨fun x hx => ?_, ?_, fun j x hj e he hex => ?_⟩
  · rcases List.mem_append.1 hx with hx | hx
    · exact t.lt x hx
    · rw [List.mem_singleton.1 hx]; exact h1
  · rw [List.nodup_append]
    refine ⟨t.nodup, by simp, fun a ha b hb => ?_⟩
    rw [List.mem_singleton.1 hb]; exact fun h => h2 (h ▸ ha)
  · rcases Nat.lt_or_ge j D.length with hl | hl
    · rw [List.getElem?_append_left hl] at hj
      obtain ⟨k, hk, hd⟩ := t.pred j x hj e he hex
      exact ⟨k, hk, by rw [List.getElem?_append_left (by omega)]; exact hd⟩
    · rw [List.getElem?_append_right hl] at hj
      have hj0 : j - D.length = 0 := by have := (List.getElem?_eq_some_iff.1 hj).1; simp at this; omega
      rw [hj0] at hj
      simp at hj
      subst hj
      obtain ⟨k, hk⟩ := List.mem_iff_getElem?.1 (h3 e he hex)
      have hkl := (List.getElem?_eq_some_iff.1 hk).1
      exact ⟨k, by omega, by rw [List.getElem?_append_left hkl]; exact hk⟩
theorem countP_or_ne {a : Nat} {r : List Nat} (ha : a ∉ r) : ∀ l : List Nat, l.countP (fun x => x == a || r.contains x) = l.countP (fun x => x == a) + l.countP (fun x => r.contains x)
  | [] => rfl
  | x :: l => by
    rw [List.countP_cons, List.countP_cons, List.countP_cons, countP_or_ne ha l]
    by_cases hx : x = a
    · subst hx
      have : r.contains x = false := by simpa using ha
      rw [this]; simp; omega
    · have : (x == a) = false := by simpa using hx
      rw [this]; simp; omega
theorem countP_one (a : Nat) : ∀ n, (List.range n).countP (fun x => x == a) = if a < n then 1 else 0
  | 0 => rfl
  | n + 1 => by
    rw [List.range_succ, List.countP_append, countP_one a n]
    simp only [List.countP_cons, List.countP_nil]
    by_cases h : n = a
    · subst h; simp
    · have : (n == a) = false := by simpa using h
      rw [this]
      by_cases h2 : a < n
      · have h3 : a < n + 1 := by omega
        simp [h2, h3]
      · have h3 : ¬ a < n + 1 := by omega
        simp [h2, h3]
theorem nodup_cnt {n : Nat} : ∀ {D : List Nat}, D.Nodup → (∀ i ∈ D, i < n) → cnt n (fun x => D.contains x) = D.length
  | [], _, _ => by unfold cnt; simp
  | a :: r, hn, hl => by
    have h1 := List.nodup_cons.1 hn
    have h2 : cnt n (fun x => (a :: r).contains x) = (List.range n).countP (fun x => x == a || r.contains x) := by
      unfold cnt
      exact List.countP_congr fun x _ => by simp
    rw [h2, countP_or_ne h1.1, countP_one, if_pos (hl a (List.mem_cons_self ..))]
    have := nodup_cnt (n := n) h1.2 fun i hi => hl i (List.mem_cons_of_mem _ hi)
    unfold cnt at this
    rw [this, List.length_cons]; omega
theorem nodup_len {n : Nat} {D : List Nat} (hn : D.Nodup) (hl : ∀ i ∈ D, i < n) : D.length ≤ n := by
  rw [← nodup_cnt hn hl]; exact cnt_le _ _
theorem cnt_all {n : Nat} {m : Nat → Bool} (h : cnt n m = n) {i : Nat} (hi : i < n) : m i = true := by
  cases hm : m i with
  | true => rfl
  | false =>
    have := cnt_lt (n := n) (m := m) (m' := fun _ => true) (fun _ _ => rfl) hi rfl hm
    have h2 := cnt_le n (fun _ => true)
    omega
theorem Topo.len {n : Nat} {E : List (Nat × Nat)} {D : List Nat} (t : Topo n E D) : D.length ≤ n := nodup_len t.nodup t.lt
theorem Topo.all {n : Nat} {E : List (Nat × Nat)} {D : List Nat} (t : Topo n E D) (hl : D.length = n) {i : Nat} (hi : i < n) : i ∈ D := by
  have := cnt_all (by rw [nodup_cnt t.nodup t.lt]; exact hl) hi
  simpa using this
theorem Topo.less {n : Nat} {E : List (Nat × Nat)} {D : List Nat} (t : Topo n E D) (hl : D.length < n) : ∃ i, i < n ∧ i ∉ D := by
  refine Classical.byContradiction fun hno => ?_
  have hall : ∀ i, i < n → D.contains i = true := fun i hi => Classical.byContradiction fun h => hno ⟨i, hi, by simpa using h⟩
  have h1 : cnt n (fun x => D.contains x) = n := by
    unfold cnt
    rw [List.countP_eq_length.2 fun x hx => hall x (List.mem_range.1 hx)]
    simp
  rw [nodup_cnt t.nodup t.lt] at h1
  omega
theorem Topo.way {n : Nat} {E : List (Nat × Nat)} {D : List Nat} (t : Topo n E D) {a b : Nat} (h : Way E a b) : ∀ j : Nat, D[j]? = some b → ∃ k : Nat, k < j ∧ D[k]? = some a := by
  induction h with
  | one h => exact fun j hj => t.pred j _ hj _ h rfl
  | more _ h ih =>
    intro j hj
    obtain ⟨k, hk, hd⟩ := t.pred j _ hj _ h rfl
    obtain ⟨k2, hk2, hd2⟩ := ih k hd
    exact ⟨k2, by omega, hd2⟩
end Go.Proofs.YtpmjcbjdcjjplaaGreat
end
section
namespace Go.Proofs.YtpmjcbjdcjjplaaGreat
set_option linter.unusedVariables false
def ins (E : List (Nat × Nat)) (i : Nat) : List Nat := (E.filter fun e => e.2 == i).map (·.1)
theorem mem_ins {E : List (Nat × Nat)} {i k : Nat} : k ∈ ins E i ↔ (k, i) ∈ E := by
  unfold ins
  rw [List.mem_map]
  constructor
  · rintro ⟨e, he, rfl⟩
    obtain ⟨h1, h2⟩ := List.mem_filter.1 he
    simp only [beq_iff_eq] at h2
    rw [← h2]; exact h1
  · intro h
    exact ⟨(k, i), List.mem_filter.2 ⟨h, by simp⟩, rfl⟩
theorem take_at {α : Type} {l : List α} {j : Nat} {x : α} (h : l[j]? = some x) : l.take (j + 1) = l.take j ++ [x] := by
  rw [List.take_add_one, h]; rfl
end Go.Proofs.YtpmjcbjdcjjplaaGreat
end
section
namespace Go.Proofs.YtpmjcbjdcjjplaaGreat
set_option linter.unusedVariables false
def come (n : Nat) (E : List (Nat × Nat)) (r x : Nat) : Bool := x == r || reach n E r x
def less (E : List (Nat × Nat)) (d : Nat) : List (Nat × Nat) := E.filter fun e => !(e.2 == d)
def domOf (n : Nat) (E : List (Nat × Nat)) (r d i : Nat) : Bool := come n E r d && come n E r i && (d == r || i == d || !come n (less E d) r i)
theorem mem_less {E : List (Nat × Nat)} {d : Nat} {e : Nat × Nat} : e ∈ less E d ↔ e ∈ E ∧ e.2 ≠ d := by
  unfold less; rw [List.mem_filter]; simp
theorem less_lt {n : Nat} {E : List (Nat × Nat)} (hE : ∀ e ∈ E, e.2 < n) (d : Nat) : ∀ e ∈ less E d, e.2 < n := fun e he => hE e (mem_less.1 he).1
theorem come_iff {n : Nat} {E : List (Nat × Nat)} (hE : ∀ e ∈ E, e.2 < n) {r x : Nat} : come n E r x = true ↔ x = r ∨ Way E r x := by
  unfold come; rw [Bool.or_eq_true, reach_iff hE]; simp
theorem come_next {n : Nat} {E : List (Nat × Nat)} (hE : ∀ e ∈ E, e.2 < n) {r x y : Nat} (h : come n E r x = true) (he : (x, y) ∈ E) : come n E r y = true := by
  rw [come_iff hE] at *
  rcases h with rfl | h
  · exact .inr (.one he)
  · exact .inr (.more h he)
def aboveS (n : Nat) (E : List (Nat × Nat)) (r : Nat) (S : Nat → Nat → Bool) (i d : Nat) : Bool :=
  come n E r d && (d == i || (ins E i).all fun k => !come n E r k || S k d)
structure DomInv (n : Nat) (E : List (Nat × Nat)) (r : Nat) (S : Nat → Nat → Bool) : Prop where
  root : ∀ d, S r d = (d == r)
  some : ∀ i d, come n E r i = true → S i d = true → come n E r d = true
  dom : ∀ i d, come n E r i = true → domOf n E r d i = true → S i d = true
  down : ∀ i d, come n E r i = true → i ≠ r → aboveS n E r S i d = true → S i d = true
  self : ∀ i, come n E r i = true → S i i = true
section
variable {n : Nat} {E : List (Nat × Nat)} {r : Nat} (hE : ∀ e ∈ E, e.2 < n)
include hE
omit hE in
theorem dom_root {d : Nat} : domOf n E r d r = (d == r) := by
  unfold domOf
  have h1 : ∀ F, come n F r r = true := fun F => by unfold come; simp
  rw [h1, h1]
  by_cases h : d = r
  · subst h; simp [h1]
  · have h2 : (d == r) = false := by simpa using h
    have h3 : (r == d) = false := by simpa using fun h4 => h h4.symm
    rw [h2, h3]; simp
theorem dom_pred {d i k : Nat} (h : domOf n E r d i = true) (hi : i ≠ r) (hne : d ≠ i) (he : (k, i) ∈ E) (hk : come n E r k = true) : domOf n E r d k = true := by
  unfold domOf at *
  simp only [Bool.and_eq_true, Bool.or_eq_true, Bool.not_eq_true', beq_iff_eq] at *
  obtain ⟨⟨h1, h2⟩, h3⟩ := h
  refine ⟨⟨h1, hk⟩, ?_⟩
  rcases h3 with (h3 | h3) | h3
  · exact .inl (.inl h3)
  · exact absurd h3.symm hne
  · right
    cases hc : come n (less E d) r k with
    | false => rfl
    | true =>
      have := come_next (less_lt hE d) hc (mem_less.2 ⟨he, fun h4 => hne h4.symm⟩)
      rw [this] at h3; cases h3
omit hE in
theorem DomInv.start {S : Nat → Nat → Bool} (h1 : ∀ d, S r d = (d == r)) (h2 : ∀ i d, i ≠ r → S i d = come n E r d) : DomInv n E r S := by
  have hr : come n E r r = true := by unfold come; simp
  refine ⟨h1, fun i d hi hS => ?_, fun i d hi hd => ?_, fun i d hi hne ha => ?_, fun i hi => ?_⟩
  · by_cases e : i = r
    · subst e; rw [h1] at hS; simp at hS; subst hS; exact hr
    · rwa [h2 i d e] at hS
  · by_cases e : i = r
    · subst e; rw [dom_root] at hd; rw [h1]; exact hd
    · rw [h2 i d e]
      unfold domOf at hd
      simp only [Bool.and_eq_true] at hd
      exact hd.1.1
  · rw [h2 i d hne]
    unfold aboveS at ha
    simp only [Bool.and_eq_true] at ha
    exact ha.1
  · by_cases e : i = r
    · subst e; rw [h1]; simp
    · rw [h2 i i e]; exact hi
omit hE in
theorem above_mono {S S' : Nat → Nat → Bool} (h : ∀ i d, S' i d = true → S i d = true) {i d : Nat} (ha : aboveS n E r S' i d = true) : aboveS n E r S i d = true := by
  unfold aboveS at *
  simp only [Bool.and_eq_true, Bool.or_eq_true, List.all_eq_true, Bool.not_eq_true', beq_iff_eq] at *
  refine ⟨ha.1, ?_⟩
  rcases ha.2 with h2 | h2
  · exact .inl h2
  · exact .inr fun k hk => (h2 k hk).imp id (h k d)
theorem DomInv.next {S S' : Nat → Nat → Bool} (v : DomInv n E r S) {i : Nat} (hi : come n E r i = true) (hne : i ≠ r) (h1 : ∀ d, S' i d = aboveS n E r S i d) (h2 : ∀ j d, j ≠ i → S' j d = S j d) : DomInv n E r S' := by
  have hle : ∀ j d, S' j d = true → S j d = true := fun j d h => by
    by_cases e : j = i
    · subst e; rw [h1] at h; exact v.down j d hi hne h
    · rwa [h2 j d e] at h
  refine ⟨fun d => ?_, fun j d hj hS => v.some j d hj (hle j d hS), fun j d hj hd => ?_, fun j d hj hnr ha => ?_, fun j hj => ?_⟩
  · rw [h2 r d hne.symm]; exact v.root d
  · by_cases e : j = i
    · subst e
      rw [h1]
      have hcd : come n E r d = true := by unfold domOf at hd; simp only [Bool.and_eq_true] at hd; exact hd.1.1
      unfold aboveS
      simp only [Bool.and_eq_true, Bool.or_eq_true, List.all_eq_true, Bool.not_eq_true', beq_iff_eq]
      refine ⟨hcd, ?_⟩
      by_cases e2 : d = j
      · exact .inl e2
      · right
        intro k hk
        cases hck : come n E r k with
        | false => exact .inl rfl
        | true => exact .inr (v.dom k d hck (dom_pred hE hd hne e2 (mem_ins.1 hk) hck))
    · rw [h2 j d e]; exact v.dom j d hj hd
  · have ha2 := above_mono hle ha
    by_cases e : j = i
    · subst e; rw [h1]; exact ha2
    · rw [h2 j d e]; exact v.down j d hj hnr ha2
  · by_cases e : j = i
    · subst e
      rw [h1]
      unfold aboveS
      simp [hj]
    · rw [h2 j j e]; exact v.self j hj
theorem DomInv.done {S : Nat → Nat → Bool} (v : DomInv n E r S) (hfix : ∀ i d, come n E r i = true → i ≠ r → S i d = true → aboveS n E r S i d = true) (i d : Nat) (hi : come n E r i = true) : S i d = domOf n E r d i := by
  rw [Bool.eq_iff_iff]
  refine ⟨fun hS => ?_, v.dom i d hi⟩
  have hcd := v.some i d hi hS
  unfold domOf
  rw [hcd, hi]
  simp only [Bool.true_and, Bool.or_eq_true, Bool.not_eq_true', beq_iff_eq]
  by_cases e1 : d = r
  · exact .inl (.inl e1)
  by_cases e2 : i = d
  · exact .inl (.inr e2)
  right
  cases hc : come n (less E d) r i with
  | false => rfl
  | true =>
    exfalso
    have base : S r d = false := by rw [v.root]; simpa using e1
    rw [come_iff (less_lt hE d)] at hc
    rcases hc with rfl | hw
    · rw [hS] at base; cases base
    · have key : ∀ x, Way (less E d) r x → S x d = false := fun x hx => by
        have stp : ∀ y x, come n E r y = true → S y d = false → (y, x) ∈ less E d → S x d = false := fun y x hy hSy he => by
          cases hSx : S x d with
          | false => rfl
          | true =>
            exfalso
            have hx' := mem_less.1 he
            have hcx := come_next hE hy hx'.1
            have hxr : x ≠ r := fun h => by subst h; rw [hSx] at base; cases base
            have ha := hfix x d hcx hxr hSx
            unfold aboveS at ha
            simp only [Bool.and_eq_true, Bool.or_eq_true, List.all_eq_true, Bool.not_eq_true', beq_iff_eq] at ha
            rcases ha.2 with h2 | h2
            · exact hx'.2 h2.symm
            · rcases h2 y (mem_ins.2 hx'.1) with h3 | h3
              · rw [hy] at h3; cases h3
              · rw [hSy] at h3; cases h3
        have both : ∀ x, Way (less E d) r x → come n E r x = true ∧ S x d = false := fun x hx => by
          have hr : come n E r r = true := by unfold come; simp
          induction hx with
          | one he => exact ⟨come_next hE hr (mem_less.1 he).1, stp _ _ hr base he⟩
          | more _ he ih => exact ⟨come_next hE ih.1 (mem_less.1 he).1, stp _ _ ih.1 ih.2 he⟩
        exact (both x hx).2
      rw [key i hw] at hS; cases hS
end
end Go.Proofs.YtpmjcbjdcjjplaaGreat
end
