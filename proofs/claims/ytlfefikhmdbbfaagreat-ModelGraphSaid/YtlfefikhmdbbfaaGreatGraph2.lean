/- No program: how many edges are left; weights; the longest wait. -/
import Derived.Test.YtlfefikhmdbbfaaGreatGraph
namespace Go.Proofs.YtlfefikhmdbbfaaGreat
set_option linter.unusedVariables false

def outs (E : List (Nat × Nat)) (i : Nat) : List Nat := (E.filter fun e => e.1 == i).map (·.2)
def ins (E : List (Nat × Nat)) (i : Nat) : List Nat := (E.filter fun e => e.2 == i).map (·.1)
theorem mem_outs {E : List (Nat × Nat)} {i k : Nat} : k ∈ outs E i ↔ (i, k) ∈ E := by
  unfold outs
  rw [List.mem_map]
  constructor
  · rintro ⟨e, he, rfl⟩
    obtain ⟨h1, h2⟩ := List.mem_filter.1 he
    simp only [beq_iff_eq] at h2
    rw [← h2]; exact h1
  · intro h
    exact ⟨(i, k), List.mem_filter.2 ⟨h, by simp⟩, rfl⟩
theorem mem_ins {E : List (Nat × Nat)} {i k : Nat} : k ∈ ins E i ↔ (k, i) ∈ E := by
  unfold ins
  rw [List.mem_map]
  constructor
  · rintro ⟨e, he, rfl⟩
    obtain ⟨h1, h2⟩ := List.mem_filter.1 he
    simp only [beq_iff_eq] at h2
    rw [← h2]; exact h1
  · intro h
    exact ⟨(k, i), List.mem_filter.2 ⟨h, by simp⟩, rfl⟩
theorem outs_snoc (E : List (Nat × Nat)) (e : Nat × Nat) (i : Nat) : outs (E ++ [e]) i = if e.1 = i then outs E i ++ [e.2] else outs E i := by
  unfold outs
  rw [List.filter_append, List.map_append]
  by_cases h : e.1 = i
  · simp [h]
  · simp [h]
theorem ins_snoc (E : List (Nat × Nat)) (e : Nat × Nat) (i : Nat) : ins (E ++ [e]) i = if e.2 = i then ins E i ++ [e.1] else ins E i := by
  unfold ins
  rw [List.filter_append, List.map_append]
  by_cases h : e.2 = i
  · simp [h]
  · simp [h]
theorem outs_len (E : List (Nat × Nat)) (i : Nat) : (outs E i).length ≤ E.length := by unfold outs; rw [List.length_map]; exact List.length_filter_le ..
theorem ins_len (E : List (Nat × Nat)) (i : Nat) : (ins E i).length ≤ E.length := by unfold ins; rw [List.length_map]; exact List.length_filter_le ..

/-! what is left: the edges that lead to a node from one that has not come yet; -1: it has come itself -/
def leftAt (E : List (Nat × Nat)) (D : List Nat) (i : Nat) : Int := if D.contains i then -1 else ((E.countP fun e => e.2 == i && !D.contains e.1 : Nat) : Int)
def leftL (n : Nat) (E : List (Nat × Nat)) (D : List Nat) : List Int := (List.range n).map (leftAt E D)
theorem leftL_len (n : Nat) (E : List (Nat × Nat)) (D : List Nat) : (leftL n E D).length = n := by simp [leftL]
theorem leftL_at {n : Nat} {E : List (Nat × Nat)} {D : List Nat} {i : Nat} (h : i < n) : (leftL n E D)[i]? = some (leftAt E D i) := by
  unfold leftL; rw [List.getElem?_map, List.getElem?_range h]; rfl
theorem left_zero {E : List (Nat × Nat)} {D : List Nat} {i : Nat} : (leftAt E D i = 0) ↔ freeN E D i = true := by
  unfold leftAt freeN
  by_cases h : D.contains i = true
  · rw [if_pos h, h]; simp
  · have h2 : D.contains i = false := by simpa using h
    rw [if_neg h, h2]
    simp only [Bool.not_false, Bool.true_and, List.all_eq_true, Bool.or_eq_true, Bool.not_eq_true']
    have hz : ((E.countP fun e => e.2 == i && !D.contains e.1 : Nat) : Int) = 0 ↔ (E.countP fun e => e.2 == i && !D.contains e.1) = 0 := by omega
    rw [hz, List.countP_eq_zero]
    constructor
    · intro h e he
      have := h e he
      simp only [Bool.and_eq_true, Bool.not_eq_true', not_and, Bool.not_eq_false] at this
      by_cases h3 : (e.2 == i) = true
      · exact .inr (this h3)
      · exact .inl (by simpa using h3)
    · intro h e he
      have := h e he
      simp only [Bool.and_eq_true, Bool.not_eq_true', not_and, Bool.not_eq_false]
      intro h3
      rcases this with h4 | h4
      · rw [h3] at h4; cases h4
      · exact h4
theorem left_start {n : Nat} {E : List (Nat × Nat)} : leftL n E [] = (List.range n).map fun i => ((ins E i).length : Int) := by
  unfold leftL
  refine List.map_congr_left fun i _ => ?_
  unfold leftAt ins
  simp [List.countP_eq_length_filter]
/-- midway: the one that comes is struck, and some of its edges -/
def leftMid (n : Nat) (E : List (Nat × Nat)) (D : List Nat) (i j : Nat) : List Int :=
  (List.range n).map fun x => (if x = i then -1 else leftAt E D x) - (((outs E i).take j).count x : Nat)
theorem leftMid_len (n : Nat) (E : List (Nat × Nat)) (D : List Nat) (i j : Nat) : (leftMid n E D i j).length = n := by simp [leftMid]
theorem leftMid_at {n : Nat} {E : List (Nat × Nat)} {D : List Nat} {i j x : Nat} (h : x < n) : (leftMid n E D i j)[x]? = some ((if x = i then -1 else leftAt E D x) - (((outs E i).take j).count x : Nat)) := by
  unfold leftMid; rw [List.getElem?_map, List.getElem?_range h]; rfl
theorem leftMid_getD {n : Nat} {E : List (Nat × Nat)} {D : List Nat} {i j x : Nat} (h : x < n) : (leftMid n E D i j).getD x 0 = (if x = i then -1 else leftAt E D x) - (((outs E i).take j).count x : Nat) := by
  rw [List.getD_eq_getElem?_getD, leftMid_at h]; rfl
theorem ext_below {n : Nat} {a b : List Int} (ha : a.length = n) (hb : b.length = n) (h : ∀ x, x < n → a[x]? = b[x]?) : a = b := by
  refine List.ext_getElem? fun x => ?_
  by_cases hx : x < n
  · exact h x hx
  · rw [List.getElem?_eq_none (by omega), List.getElem?_eq_none (by omega)]
theorem leftMid_zero {n : Nat} {E : List (Nat × Nat)} {D : List Nat} {i : Nat} : leftMid n E D i 0 = (leftL n E D).set i (-1) := by
  refine ext_below (n := n) (by simp [leftMid]) (by simp [leftL]) fun x hx => ?_
  rw [leftMid_at hx, List.getElem?_set]
  simp only [List.take_zero, List.count_nil]
  by_cases h : x = i
  · subst h; rw [if_pos rfl, if_pos rfl, if_pos (by rw [leftL_len]; exact hx)]; simp
  · rw [if_neg h, if_neg (fun h4 => h h4.symm), leftL_at hx]; simp
theorem take_at {α : Type} {l : List α} {j : Nat} {x : α} (h : l[j]? = some x) : l.take (j + 1) = l.take j ++ [x] := by
  rw [List.take_add_one, h]; rfl
theorem leftMid_succ {n : Nat} {E : List (Nat × Nat)} {D : List Nat} {i j k : Nat} (hk : (outs E i)[j]? = some k) (hkn : k < n) :
    leftMid n E D i (j + 1) = (leftMid n E D i j).set k ((leftMid n E D i j).getD k 0 - 1) := by
  refine ext_below (n := n) (by simp [leftMid]) (by simp [leftMid]) fun x hx => ?_
  rw [List.getElem?_set, leftMid_getD hkn, leftMid_at hx, leftMid_at hx, take_at hk, List.count_append, leftMid_len]
  by_cases h : k = x
  · subst h; rw [if_pos rfl, if_pos hkn]; simp; omega
  · rw [if_neg h]; simp [h]
theorem leftMid_end {n : Nat} {E : List (Nat × Nat)} {D : List Nat} {i : Nat} (t : Topo n E D) (h : pickN n E D = some i) : leftMid n E D i (outs E i).length = leftL n E (D ++ [i]) := by
  obtain ⟨h1, h2, h3, _⟩ := pick_some h
  refine ext_below (n := n) (by simp [leftMid]) (by simp [leftL]) fun x hx => ?_
  rw [leftMid_at hx, leftL_at hx, List.take_of_length_le (Nat.le_refl _)]
  congr 1
  by_cases hxi : x = i
  · subst hxi
    have hc : (outs E x).count x = 0 := List.count_eq_zero.2 fun hm => h2 (h3 _ (mem_outs.1 hm) rfl)
    rw [if_pos rfl, hc]
    unfold leftAt
    simp
  · rw [if_neg hxi]
    by_cases hxD : x ∈ D
    · have hc : (outs E i).count x = 0 := List.count_eq_zero.2 fun hm => by
        obtain ⟨j, hj⟩ := List.mem_iff_getElem?.1 hxD
        obtain ⟨k, _, hk⟩ := t.pred j x hj _ (mem_outs.1 hm) rfl
        exact h2 (List.mem_of_getElem? hk)
      unfold leftAt
      have : D.contains x = true := by simpa using hxD
      have h5 : (D ++ [i]).contains x = true := by simp [hxD]
      rw [this, h5, hc]; simp
    · unfold leftAt
      have : D.contains x = false := by simpa using hxD
      have h5 : (D ++ [i]).contains x = false := by simp [hxD, hxi]
      rw [this, h5]
      simp only [Bool.false_eq_true, if_false]
      have key : ∀ F : List (Nat × Nat), F.countP (fun e => e.2 == x && !D.contains e.1) = F.countP (fun e => e.2 == x && !(D ++ [i]).contains e.1) + ((F.filter fun e => e.1 == i).map (·.2)).count x := by
        intro F
        induction F with
        | nil => rfl
        | cons e F ih =>
          rw [List.countP_cons, List.countP_cons, ih, List.filter_cons]
          by_cases he : e.1 = i
          · have hDi : D.contains e.1 = false := by rw [he]; simpa using h2
            have hDi2 : (D ++ [i]).contains e.1 = true := by rw [he]; simp
            rw [hDi, hDi2]
            have hb : (e.1 == i) = true := by simpa using he
            rw [if_pos hb, List.map_cons, List.count_cons]
            by_cases h6 : e.2 = x
            · simp [h6]; omega
            · simp [h6]
          · have hb : ¬ (e.1 == i) = true := by simpa using he
            have hD2 : (D ++ [i]).contains e.1 = D.contains e.1 := by
              rw [Bool.eq_iff_iff]; simp [he]
            rw [if_neg hb, hD2]; omega
      have := key E
      unfold outs
      omega
theorem left_range {n : Nat} {E : List (Nat × Nat)} {D : List Nat} (i : Nat) : -1 ≤ leftAt E D i ∧ leftAt E D i ≤ E.length := by
  unfold leftAt
  split
  · omega
  · have : (E.countP fun e => e.2 == i && !D.contains e.1) ≤ E.length := List.countP_le_length
    omega
theorem leftMid_range {n : Nat} {E : List (Nat × Nat)} {D : List Nat} (i j k : Nat) (hk : k < n) : -1 - (E.length : Int) ≤ (leftMid n E D i j).getD k 0 ∧ (leftMid n E D i j).getD k 0 ≤ E.length := by
  unfold leftMid
  rw [List.getD_eq_getElem?_getD, List.getElem?_map, List.getElem?_range hk]
  simp only [Option.map_some, Option.getD_some]
  have h1 : ((outs E i).take j).count k ≤ E.length := Nat.le_trans List.count_le_length (Nat.le_trans (by rw [List.length_take]; omega) (outs_len E i))
  have h2 := left_range (n := n) (E := E) (D := D) k
  split <;> omega

/-! weights -/
def wFold (o : List Int) (l : List Nat) : Int := l.foldl (fun a k => min (a + o.getD k 0) 1000000000) 1
def wStep (E : List (Nat × Nat)) (o : List Int) (i : Nat) : List Int := o.set i (wFold o (outs E i))
def weightsOf (n : Nat) (E : List (Nat × Nat)) (D : List Nat) : List Int := D.foldr (fun i o => wStep E o i) (List.replicate n 0)
def inW (o : List Int) : Prop := ∀ x ∈ o, 0 ≤ x ∧ x ≤ 1000000000
theorem inW_at {o : List Int} (h : inW o) (k : Nat) : 0 ≤ o.getD k 0 ∧ o.getD k 0 ≤ 1000000000 := by
  rw [List.getD_eq_getElem?_getD]
  cases hk : o[k]? with
  | none => simp
  | some x => exact h x (List.mem_of_getElem? hk)
theorem wFold_snoc (o : List Int) (l : List Nat) (k : Nat) : wFold o (l ++ [k]) = min (wFold o l + o.getD k 0) 1000000000 := by simp [wFold, List.foldl_append]
theorem wFold_range {o : List Int} (h : inW o) (l : List Nat) : 1 ≤ wFold o l ∧ wFold o l ≤ 1000000000 := by
  have key : ∀ (l : List Nat) (a : Int), 1 ≤ a → a ≤ 1000000000 → 1 ≤ l.foldl (fun a k => min (a + o.getD k 0) 1000000000) a ∧ l.foldl (fun a k => min (a + o.getD k 0) 1000000000) a ≤ 1000000000 := by
    intro l
    induction l with
    | nil => intro a h1 h2; exact ⟨h1, h2⟩
    | cons k l ih =>
      intro a h1 h2
      have := inW_at h k
      exact ih (min (a + o.getD k 0) 1000000000) (by omega) (by omega)
  exact key l 1 (by omega) (by omega)
theorem wStep_in {E : List (Nat × Nat)} {o : List Int} (h : inW o) (i : Nat) : inW (wStep E o i) := by
  intro x hx
  unfold wStep at hx
  rcases List.mem_or_eq_of_mem_set hx with hx | rfl
  · exact h x hx
  · have := wFold_range h (outs E i); omega
theorem weights_in (n : Nat) (E : List (Nat × Nat)) : ∀ D : List Nat, inW (weightsOf n E D)
  | [] => fun x hx => by unfold weightsOf at hx; rw [List.foldr_nil] at hx; have := (List.mem_replicate.1 hx).2; omega
  | i :: D => wStep_in (weights_in n E D) i
theorem weights_len (n : Nat) (E : List (Nat × Nat)) : ∀ D : List Nat, (weightsOf n E D).length = n
  | [] => by simp [weightsOf]
  | i :: D => by
    show (wStep E (weightsOf n E D) i).length = n
    unfold wStep; rw [List.length_set]; exact weights_len n E D
theorem getD_set {o : List Int} {i : Nat} (hi : i < o.length) (y : Int) (j : Nat) : (o.set i y).getD j 0 = if j = i then y else o.getD j 0 := by
  rw [List.getD_eq_getElem?_getD, List.getD_eq_getElem?_getD, List.getElem?_set]
  by_cases h : i = j
  · subst h; rw [if_pos rfl, if_pos hi, if_pos rfl]; rfl
  · rw [if_neg h, if_neg (fun h2 => h h2.symm)]
/-- the walk's own sums: where the place that is summed into is none of those that are read -/
theorem wFold_set {o : List Int} {i : Nat} (hi : i < o.length) (y : Int) {l : List Nat} (hl : i ∉ l) : wFold (o.set i y) l = wFold o l := by
  unfold wFold
  have key : ∀ (l : List Nat) (a : Int), i ∉ l → l.foldl (fun a k => min (a + (o.set i y).getD k 0) 1000000000) a = l.foldl (fun a k => min (a + o.getD k 0) 1000000000) a := by
    intro l
    induction l with
    | nil => intros; rfl
    | cons k l ih =>
      intro a h
      rw [List.foldl_cons, List.foldl_cons, getD_set hi, if_neg (fun h2 => h (by rw [← h2]; exact List.mem_cons_self ..))]
      exact ih _ fun h2 => h (List.mem_cons_of_mem _ h2)
  exact key l 1 hl
theorem weights_split (n : Nat) (E : List (Nat × Nat)) (A B : List Nat) : weightsOf n E (A ++ B) = A.foldr (fun i o => wStep E o i) (weightsOf n E B) := by
  unfold weightsOf; rw [List.foldr_append]
theorem weights_keep {n : Nat} {E : List (Nat × Nat)} {B : List Nat} : ∀ {A : List Nat} {k : Nat}, k ∉ A → (∀ x ∈ A, x < n) → (weightsOf n E (A ++ B)).getD k 0 = (weightsOf n E B).getD k 0
  | [], _, _, _ => rfl
  | i :: A, k, hk, hA => by
    show (wStep E (weightsOf n E (A ++ B)) i).getD k 0 = _
    unfold wStep
    rw [getD_set (by rw [weights_len]; exact hA i (List.mem_cons_self ..)), if_neg (fun h => hk (by rw [h]; exact List.mem_cons_self ..))]
    exact weights_keep (fun h => hk (List.mem_cons_of_mem _ h)) fun x hx => hA x (List.mem_cons_of_mem _ hx)
/-- each node's weight is the sum over those that it leads to -/
theorem weights_sum {n : Nat} {E : List (Nat × Nat)} {D : List Nat} (t : Topo n E D) (hl : D.length = n) (hE : ∀ e ∈ E, e.2 < n) {i : Nat} (hi : i < n) :
    (weightsOf n E D).getD i 0 = wFold (weightsOf n E D) (outs E i) := by
  have hm := t.all hl hi
  obtain ⟨j, hj⟩ := List.mem_iff_getElem?.1 hm
  obtain ⟨hjl, hji⟩ := List.getElem?_eq_some_iff.1 hj
  have hsp : D = D.take j ++ (i :: D.drop (j + 1)) := by
    rw [← hji, ← List.drop_eq_getElem_cons hjl, List.take_append_drop]
  have hno : i ∉ D.take j := fun h => by
    obtain ⟨k, hk⟩ := List.mem_iff_getElem?.1 h
    have hkl := (List.getElem?_eq_some_iff.1 hk).1
    rw [List.length_take] at hkl
    rw [List.getElem?_take_of_lt (by omega)] at hk
    have := nodup_at t.nodup hj hk
    omega
  have hA : ∀ x ∈ D.take j, x < n := fun x hx => t.lt x (List.mem_of_mem_take hx)
  have later : ∀ k ∈ outs E i, k ∉ D.take j ∧ k ≠ i := fun k hk => by
    have he := mem_outs.1 hk
    have hkn := hE _ he
    obtain ⟨q, hq⟩ := List.mem_iff_getElem?.1 (t.all hl hkn)
    obtain ⟨p, hp, hpi⟩ := t.pred q k hq _ he rfl
    have hpj := nodup_at t.nodup hpi hj
    refine ⟨fun h => ?_, fun h => ?_⟩
    · obtain ⟨r, hr⟩ := List.mem_iff_getElem?.1 h
      have hrl := (List.getElem?_eq_some_iff.1 hr).1
      rw [List.length_take] at hrl
      rw [List.getElem?_take_of_lt (by omega)] at hr
      have := nodup_at t.nodup hq hr
      omega
    · subst h
      have := nodup_at t.nodup hq hj
      omega
  have hW : weightsOf n E D = weightsOf n E (D.take j ++ (i :: D.drop (j + 1))) := congrArg _ hsp
  have e1 : (weightsOf n E D).getD i 0 = wFold (weightsOf n E (D.drop (j + 1))) (outs E i) := by
    rw [hW, weights_keep hno hA]
    show (wStep E (weightsOf n E (D.drop (j + 1))) i).getD i 0 = _
    unfold wStep
    rw [getD_set (by rw [weights_len]; exact hi), if_pos rfl]
  have e2 : ∀ k ∈ outs E i, (weightsOf n E D).getD k 0 = (weightsOf n E (D.drop (j + 1))).getD k 0 := fun k hk => by
    obtain ⟨k1, k2⟩ := later k hk
    rw [hW, weights_keep k1 hA]
    show (wStep E (weightsOf n E (D.drop (j + 1))) i).getD k 0 = _
    unfold wStep
    rw [getD_set (by rw [weights_len]; exact hi), if_neg k2]
  rw [e1]
  unfold wFold
  have key : ∀ (l : List Nat) (a : Int), (∀ k ∈ l, (weightsOf n E D).getD k 0 = (weightsOf n E (D.drop (j + 1))).getD k 0) →
      l.foldl (fun a k => min (a + (weightsOf n E (D.drop (j + 1))).getD k 0) 1000000000) a = l.foldl (fun a k => min (a + (weightsOf n E D).getD k 0) 1000000000) a := by
    intro l
    induction l with
    | nil => intros; rfl
    | cons k l ih =>
      intro a h
      rw [List.foldl_cons, List.foldl_cons, h k (List.mem_cons_self ..)]
      exact ih _ fun x hx => h x (List.mem_cons_of_mem _ hx)
  exact key _ _ e2

/-! the longest wait -/
def waitOf (ws : List Int) (i : Nat) : Int := if 0 ≤ ws.getD i 0 ∧ ws.getD i 0 ≤ 1000 then ws.getD i 0 else 0
def fFold (o : List Int) (a : Int) (l : List Nat) : Int := l.foldl (fun a k => max a (o.getD k 0)) a
def fStep (E : List (Nat × Nat)) (ws : List Int) (o : List Int) (i : Nat) : List Int := o.set i (fFold o (o.getD i 0) (outs E i) + waitOf ws i)
def farOf (n : Nat) (E : List (Nat × Nat)) (ws : List Int) (D : List Nat) : List Int × Int :=
  D.foldr (fun i s => (fStep E ws s.1 i, max s.2 ((fStep E ws s.1 i).getD i 0))) (List.replicate n 0, 0)
theorem waitOf_range (ws : List Int) (i : Nat) : 0 ≤ waitOf ws i ∧ waitOf ws i ≤ 1000 := by unfold waitOf; split <;> omega
def inF (m : Int) (o : List Int) : Prop := ∀ x ∈ o, 0 ≤ x ∧ x ≤ m
theorem inF_at {m : Int} (hm : 0 ≤ m) {o : List Int} (h : inF m o) (k : Nat) : 0 ≤ o.getD k 0 ∧ o.getD k 0 ≤ m := by
  rw [List.getD_eq_getElem?_getD]
  cases hk : o[k]? with
  | none => simp; exact hm
  | some x => exact h x (List.mem_of_getElem? hk)
theorem fFold_range {m : Int} (hm : 0 ≤ m) {o : List Int} (h : inF m o) : ∀ (l : List Nat) (a : Int), 0 ≤ a → a ≤ m → 0 ≤ fFold o a l ∧ fFold o a l ≤ m
  | [], a, h1, h2 => ⟨h1, h2⟩
  | k :: l, a, h1, h2 => by
    have := inF_at hm h k
    exact fFold_range hm h l (max a (o.getD k 0)) (by omega) (by omega)
theorem fFold_snoc (o : List Int) (a : Int) (l : List Nat) (k : Nat) : fFold o a (l ++ [k]) = max (fFold o a l) (o.getD k 0) := by simp [fFold, List.foldl_append]
theorem fFold_set {o : List Int} {i : Nat} (hi : i < o.length) (y a : Int) {l : List Nat} (hl : i ∉ l) : fFold (o.set i y) a l = fFold o a l := by
  unfold fFold
  induction l generalizing a with
  | nil => rfl
  | cons k l ih =>
    rw [List.foldl_cons, List.foldl_cons, getD_set hi, if_neg (fun h2 => hl (by rw [← h2]; exact List.mem_cons_self ..))]
    exact ih _ fun h2 => hl (List.mem_cons_of_mem _ h2)
theorem far_in (n : Nat) (E : List (Nat × Nat)) (ws : List Int) : ∀ D : List Nat, inF (1000 * D.length) (farOf n E ws D).1 ∧ (farOf n E ws D).1.length = n ∧ 0 ≤ (farOf n E ws D).2 ∧ (farOf n E ws D).2 ≤ 1000 * D.length
  | [] => ⟨fun x hx => by unfold farOf at hx; rw [List.foldr_nil] at hx; have := (List.mem_replicate.1 hx).2; simp; omega, by simp [farOf], by simp [farOf], by simp [farOf]⟩
  | i :: D => by
    obtain ⟨h1, h2, h3, h4⟩ := far_in n E ws D
    have hw := waitOf_range ws i
    have h0 := inF_at (by omega) h1 i
    have hf := fFold_range (by omega) h1 (outs E i) ((farOf n E ws D).1.getD i 0) h0.1 h0.2
    have hin : inF (1000 * ((i :: D).length : Nat)) (fStep E ws (farOf n E ws D).1 i) := fun x hx => by
      unfold fStep at hx
      simp only [List.length_cons]
      rcases List.mem_or_eq_of_mem_set hx with hx | rfl
      · have := h1 x hx; omega
      · omega
    have hat := inF_at (by omega) hin i
    refine ⟨hin, ?_, ?_, ?_⟩
    · show (fStep E ws (farOf n E ws D).1 i).length = n
      unfold fStep; rw [List.length_set]; exact h2
    · show 0 ≤ max (farOf n E ws D).2 ((fStep E ws (farOf n E ws D).1 i).getD i 0)
      omega
    · show max (farOf n E ws D).2 ((fStep E ws (farOf n E ws D).1 i).getD i 0) ≤ _
      simp only [List.length_cons] at hat ⊢
      omega
end Go.Proofs.YtlfefikhmdbbfaaGreat
