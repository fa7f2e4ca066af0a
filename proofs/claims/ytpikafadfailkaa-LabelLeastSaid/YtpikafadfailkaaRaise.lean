/- No program: the least labels that rise along edges. -/
import Derived.Test.YtpikafadfailkaaOrd
namespace Go.Proofs.Ytpikafadfailkaa.P

set_option linter.unusedVariables false
def gv (o : List Nat) (i : Nat) : Nat := o.getD i 0
theorem gv_set {o : List Nat} {i : Nat} (hi : i < o.length) (y j : Nat) : gv (o.set i y) j = if j = i then y else gv o j := by
  unfold gv
  rw [List.getD_eq_getElem?_getD, List.getD_eq_getElem?_getD, List.getElem?_set]
  by_cases h : i = j
  · subst h; simp [hi]
  · have h2 : ¬ j = i := fun e => h e.symm
    simp [h, h2]
theorem ext_gv {a b : List Nat} (hl : a.length = b.length) (h : ∀ i, i < a.length → gv a i = gv b i) : a = b := by
  refine List.ext_getElem hl fun i h1 h2 => ?_
  have := h i h1
  unfold gv at this
  rw [List.getD_eq_getElem?_getD, List.getD_eq_getElem?_getD, List.getElem?_eq_getElem h1, List.getElem?_eq_getElem h2] at this
  simpa using this

def LabN (n : Nat) (o : List Nat) : Prop := ∀ i, i < o.length → gv o i < n
def LeN (L : Rel) (a b : List Nat) : Prop := a.length = b.length ∧ ∀ i, i < a.length → L (gv a i) (gv b i) = true
def ClosedN (L : Rel) (E : List (Nat × Nat)) (o : List Nat) : Prop := ∀ e, e ∈ E → L (gv o e.1) (gv o e.2) = true
def EdN (m : Nat) (E : List (Nat × Nat)) : Prop := ∀ e, e ∈ E → e.1 < m ∧ e.2 < m
structure Under (n : Nat) (L : Rel) (E : List (Nat × Nat)) (low o : List Nat) : Prop where
  lab : LabN n o
  le : LeN L low o
  least : ∀ c, LabN n c → LeN L low c → ClosedN L E c → LeN L o c

section
variable {n : Nat} {L : Rel} (h : Lat n L) {E : List (Nat × Nat)} {low o : List Nat}
theorem Under.start (h : Lat n L) (hl : LabN n low) : Under n L E low low :=
  ⟨hl, ⟨rfl, fun i hi => h.refl _ (hl i hi)⟩, fun _ _ hc _ => hc⟩
include h
theorem Under.unique {o' : List Nat} (u : Under n L E low o) (u' : Under n L E low o') (c : ClosedN L E o) (c' : ClosedN L E o') : o = o' := by
  have h1 := u.least o' u'.lab u'.le c'
  have h2 := u'.least o u.lab u.le c
  refine ext_gv h1.1 fun i hi => h.anti _ _ (h1.2 i hi) (h2.2 i (by rw [h2.1]; exact hi))

def stepR (n : Nat) (L : Rel) (o : List Nat) (e : Nat × Nat) : List Nat := o.set e.2 (jj n L (gv o e.1) (gv o e.2))
omit h in
theorem stepR_len (o : List Nat) (e : Nat × Nat) : (stepR n L o e).length = o.length := by unfold stepR; simp
theorem Under.step (u : Under n L E low o) (hE : EdN low.length E) {e : Nat × Nat} (he : e ∈ E) : Under n L E low (stepR n L o e) := by
  have hl : low.length = o.length := u.le.1
  obtain ⟨h1, h2⟩ := hE e he
  rw [hl] at h1 h2
  have sp := h.jj_spec (u.lab _ h1) (u.lab _ h2)
  refine ⟨fun i hi => ?_, ⟨by rw [stepR_len]; exact hl, fun i hi => ?_⟩, fun c k1 k2 k3 => ⟨?_, fun i hi => ?_⟩⟩
  · rw [stepR_len] at hi
    unfold stepR; rw [gv_set h2]
    split
    · exact sp.2.1
    · exact u.lab i hi
  · unfold stepR; rw [gv_set h2]
    split
    · rename_i e2; subst e2
      exact h.trans _ _ _ (u.le.2 _ hi) sp.2.2.2.1
    · exact u.le.2 i hi
  · rw [stepR_len]; exact (u.least c k1 k2 k3).1
  · rw [stepR_len] at hi
    have hc := u.least c k1 k2 k3
    unfold stepR; rw [gv_set h2]
    split
    · rename_i e2; subst e2
      exact sp.2.2.2.2 _ (h.trans _ _ _ (hc.2 _ h1) (k3 e he)) (hc.2 _ h2)
    · exact hc.2 i hi

/-- how much room is above -/
def ht (n : Nat) (L : Rel) (x : Nat) : Nat := (List.range n).countP (L x)
omit h in
theorem countP_lt {α : Type} {p q : α → Bool} : ∀ {l : List α}, (∀ x, p x = true → q x = true) → (∃ x, x ∈ l ∧ q x = true ∧ p x = false) → l.countP p < l.countP q
  | [], _, ⟨_, hx, _⟩ => by cases hx
  | a :: l, hpq, ⟨x, hx, h1, h2⟩ => by
    have hle : l.countP p ≤ l.countP q := List.countP_mono_left fun y _ => hpq y
    rcases List.mem_cons.1 hx with rfl | hx
    · rw [List.countP_cons, List.countP_cons, h1, h2]; simp; omega
    · have := countP_lt hpq ⟨x, hx, h1, h2⟩
      rw [List.countP_cons, List.countP_cons]
      cases hp : p a with
      | true => rw [hpq a hp]; simp; omega
      | false => cases q a <;> simp <;> omega
theorem ht_lt {x y : Nat} (hx : x < n) (hxy : L x y = true) (hne : x ≠ y) : ht n L y < ht n L x := by
  refine countP_lt (fun z hz => h.trans _ _ _ hxy hz) ⟨x, List.mem_range.2 hx, h.refl x hx, ?_⟩
  cases e : L y x with
  | false => rfl
  | true => exact absurd (h.anti _ _ hxy e) hne
omit h in
theorem ht_le (x : Nat) : ht n L x ≤ n := by unfold ht; exact Nat.le_trans List.countP_le_length (by simp)
def mu (n : Nat) (L : Rel) (o : List Nat) : Nat := (o.map (ht n L)).sum
omit h in
theorem mu_le : ∀ o : List Nat, mu n L o ≤ n * o.length
  | [] => by simp [mu]
  | a :: o => by
    have h1 := mu_le o
    have h2 : ht n L a ≤ n := ht_le a
    unfold mu at *
    simp only [List.map_cons, List.sum_cons, List.length_cons, Nat.mul_add, Nat.mul_one]
    omega
omit h in
theorem mu_set (y : Nat) : ∀ (o : List Nat) (i : Nat), i < o.length → mu n L (o.set i y) + ht n L (gv o i) = mu n L o + ht n L y
  | [], i, hi => by cases hi
  | a :: o, 0, _ => by simp [mu, gv]; omega
  | a :: o, i + 1, hi => by
    have := mu_set y o i (by simpa using hi)
    unfold mu gv at *
    simp only [List.set_cons_succ, List.map_cons, List.sum_cons, List.getD_cons_succ]
    omega
theorem mu_step (hl : LabN n o) {e : Nat × Nat} (h1 : e.1 < o.length) (h2 : e.2 < o.length) :
    (jj n L (gv o e.1) (gv o e.2) = gv o e.2 ∧ stepR n L o e = o) ∨ (jj n L (gv o e.1) (gv o e.2) ≠ gv o e.2 ∧ mu n L (stepR n L o e) < mu n L o) := by
  have sp := h.jj_spec (hl _ h1) (hl _ h2)
  by_cases hj : jj n L (gv o e.1) (gv o e.2) = gv o e.2
  · refine .inl ⟨hj, ?_⟩
    unfold stepR
    rw [hj]
    refine ext_gv (by simp) fun i _ => ?_
    rw [gv_set h2]
    split
    · rename_i e2; rw [e2]
    · rfl
  · refine .inr ⟨hj, ?_⟩
    have := mu_set (n := n) (L := L) (jj n L (gv o e.1) (gv o e.2)) o e.2 h2
    have := ht_lt h (hl _ h2) sp.2.2.2.1 (fun e => hj e.symm)
    unfold stepR
    omega

def sweep (n : Nat) (L : Rel) (E : List (Nat × Nat)) (o : List Nat) : List Nat := E.foldl (stepR n L) o
def sweeps (n : Nat) (L : Rel) (E : List (Nat × Nat)) : Nat → List Nat → List Nat
  | 0, o => o
  | k + 1, o => sweep n L E (sweeps n L E k o)
theorem Under.fold (hE : EdN low.length E) : ∀ {E' : List (Nat × Nat)} {o : List Nat}, (∀ e, e ∈ E' → e ∈ E) → Under n L E low o → Under n L E low (sweep n L E' o)
  | [], _, _, u => u
  | e :: E', o, hs, u => Under.fold hE (E' := E') (fun x hx => hs x (List.mem_cons_of_mem _ hx)) (u.step h hE (hs e (List.mem_cons_self ..)))
theorem Under.sweeps (hE : EdN low.length E) (u : Under n L E low o) : ∀ k, Under n L E low (sweeps n L E k o)
  | 0 => u
  | k + 1 => Under.fold h hE (fun _ hx => hx) (Under.sweeps hE u k)
theorem mu_sweep (hE : EdN low.length E) : ∀ {E' : List (Nat × Nat)} {o : List Nat}, (∀ e, e ∈ E' → e ∈ E) → Under n L E low o →
    (sweep n L E' o = o ∧ ∀ e, e ∈ E' → jj n L (gv o e.1) (gv o e.2) = gv o e.2) ∨ mu n L (sweep n L E' o) < mu n L o
  | [], o, _, _ => .inl ⟨rfl, fun _ he => by cases he⟩
  | e :: E', o, hs, u => by
    have he := hs e (List.mem_cons_self ..)
    have hl : low.length = o.length := u.le.1
    obtain ⟨h1, h2⟩ := hE e he
    rw [hl] at h1 h2
    have ih := mu_sweep hE (E' := E') (fun x hx => hs x (List.mem_cons_of_mem _ hx)) (u.step h hE he)
    have e1 : sweep n L (e :: E') o = sweep n L E' (stepR n L o e) := rfl
    rw [e1]
    rcases mu_step h u.lab h1 h2 with ⟨k1, k2⟩ | ⟨_, k2⟩
    · rw [k2] at ih ⊢
      rcases ih with ⟨i1, i2⟩ | i1
      · exact .inl ⟨i1, fun x hx => by
          rcases List.mem_cons.1 hx with rfl | hx
          · exact k1
          · exact i2 x hx⟩
      · exact .inr i1
    · rcases ih with ⟨i1, _⟩ | i1
      · rw [i1]; exact .inr k2
      · exact .inr (by omega)
theorem closed_of (hl : LabN n o) (hE : EdN o.length E) (hj : ∀ e, e ∈ E → jj n L (gv o e.1) (gv o e.2) = gv o e.2) : ClosedN L E o := by
  intro e he
  obtain ⟨h1, h2⟩ := hE e he
  rw [h.leq_jj (hl _ h1) (hl _ h2)]
  exact decide_eq_true (hj e he)
theorem sweeps_room (hE : EdN low.length E) (u : Under n L E low o) : ∀ k, (sweep n L E (sweeps n L E k o) = sweeps n L E k o) ∨ mu n L (sweeps n L E k o) + k ≤ mu n L o
  | 0 => .inr (Nat.le_refl _)
  | k + 1 => by
    rcases sweeps_room hE u k with h1 | h1
    · refine .inl ?_
      show sweep n L E (sweep n L E (sweeps n L E k o)) = sweep n L E (sweeps n L E k o)
      rw [h1, h1]
    · rcases mu_sweep h hE (fun _ hx => hx) (u.sweeps h hE k) with h2 | h2
      · refine .inl ?_
        show sweep n L E (sweep n L E (sweeps n L E k o)) = sweep n L E (sweeps n L E k o)
        rw [h2.1, h2.1]
      · refine .inr ?_
        show mu n L (sweep n L E (sweeps n L E k o)) + (k + 1) ≤ mu n L o
        omega

def raiseN (n : Nat) (L : Rel) (E : List (Nat × Nat)) (low : List Nat) : List Nat := sweeps n L E (8 * low.length) low
theorem raise_under (hE : EdN low.length E) (hl : LabN n low) : Under n L E low (raiseN n L E low) := (Under.start h hl).sweeps h hE _
theorem raise_closed (h8 : n ≤ 8) (hE : EdN low.length E) (hl : LabN n low) : ClosedN L E (raiseN n L E low) := by
  have u := raise_under h hE hl
  have hlen : low.length = (raiseN n L E low).length := u.le.1
  refine closed_of h u.lab (by rw [← hlen]; exact hE) ?_
  rcases mu_sweep h hE (fun _ hx => hx) u with h1 | h1
  · exact h1.2
  · exfalso
    rcases sweeps_room h hE (Under.start (E := E) h hl) (8 * low.length) with h2 | h2
    · have h3 : mu n L (sweep n L E (raiseN n L E low)) = mu n L (raiseN n L E low) := congrArg _ h2
      omega
    · have h3 : mu n L low ≤ n * low.length := mu_le low
      have h4 : n * low.length ≤ 8 * low.length := Nat.mul_le_mul_right _ h8
      have h5 : mu n L (raiseN n L E low) + 8 * low.length ≤ mu n L low := h2
      omega
theorem raise_eq (h8 : n ≤ 8) (hE : EdN low.length E) (hl : LabN n low) (u : Under n L E low o) (c : ClosedN L E o) : o = raiseN n L E low :=
  u.unique h (raise_under h hE hl) c (raise_closed h h8 hE hl)
/-- raised again -/
theorem raise_again (h8 : n ≤ 8) (hE : EdN low.length E) (hl : LabN n low) : raiseN n L E (raiseN n L E low) = raiseN n L E low := by
  have u := raise_under h hE hl
  have hlen : low.length = (raiseN n L E low).length := u.le.1
  have c := raise_closed h h8 hE hl
  refine (raise_eq h h8 (by rw [← hlen]; exact hE) u.lab (Under.start h u.lab) c).symm
end
end Go.Proofs.Ytpikafadfailkaa.P
