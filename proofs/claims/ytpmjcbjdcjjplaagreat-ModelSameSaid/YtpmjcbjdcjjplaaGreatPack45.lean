/- Parts of a proof: Dfs. -/
import Derived.Lib.SlKeysI
import Derived.WalkSmall
import Derived.Test.YtpmjcbjdcjjplaaGreatPack26
namespace Go.Proofs.YtpmjcbjdcjjplaaGreat
open Go Go.RowKit
set_option linter.unusedVariables false
structure Dfs (E : List (Nat × Nat)) (a : Int) (n : Nat) (met : List Nat) (todo : List Int) : Prop where
  nd : met.Nodup
  lt : ∀ x ∈ met, x < n
  way : ∀ x ∈ met, ∃ q : Nat, a = q ∧ Way E q x
  tw : ∀ x ∈ todo, x = a ∨ ∃ q y : Nat, a = q ∧ x = y ∧ Way E q y
  cl : ∀ e ∈ E, ((e.1 : Int) = a ∨ e.1 ∈ met) → e.2 ∈ met ∨ (e.1 : Int) ∈ todo
  tl : todo.length ≤ met.length + 1
theorem Dfs.start (E : List (Nat × Nat)) (a : Int) (n : Nat) : Dfs E a n [] [a] :=
  ⟨List.nodup_nil, fun x h => (by cases h), fun x h => (by cases h), fun x h => .inl (by simpa using h), fun e _ h => .inr (by rcases h with h | h; (simp [h]); cases h), by simp⟩
theorem Dfs.len {E : List (Nat × Nat)} {a : Int} {n : Nat} {met : List Nat} {todo : List Int} (h : Dfs E a n met todo) : met.length ≤ n := by
  have := nodup_len h.nd h.lt
  exact this
structure Dfs1 (E : List (Nat × Nat)) (a : Int) (n : Nat) (f : Int) (F : List (Nat × Nat)) (met : List Nat) (todo : List Int) : Prop where
  nd : met.Nodup
  lt : ∀ x ∈ met, x < n
  way : ∀ x ∈ met, ∃ q : Nat, a = q ∧ Way E q x
  tw : ∀ x ∈ todo, x = a ∨ ∃ q y : Nat, a = q ∧ x = y ∧ Way E q y
  fw : f = a ∨ ∃ q y : Nat, a = q ∧ f = y ∧ Way E q y
  cl : ∀ e ∈ E, ((e.1 : Int) = a ∨ e.1 ∈ met) → e.2 ∈ met ∨ (e.1 : Int) ∈ todo ∨ (e.1 : Int) = f
  seen : ∀ e ∈ F, (e.1 : Int) = f → e.2 ∈ met
  tl : todo.length ≤ met.length
theorem Dfs.pop {E : List (Nat × Nat)} {a f : Int} {n : Nat} {met : List Nat} {todo : List Int} (h : Dfs E a n met (todo ++ [f])) : Dfs1 E a n f [] met todo :=
  ⟨h.nd, h.lt, h.way, fun x hx => h.tw x (by simp [hx]), h.tw f (by simp), fun e he h1 => by
    rcases h.cl e he h1 with h2 | h2
    · exact .inl h2
    · rcases List.mem_append.1 h2 with h2 | h2
      · exact .inr (.inl h2)
      · exact .inr (.inr (by simpa using h2)), fun e he => (by cases he), by have := h.tl; simp at this; omega⟩
section
variable {E F : List (Nat × Nat)} {a f : Int} {n : Nat} {met : List Nat} {todo : List Int}
theorem Dfs1.len (h : Dfs1 E a n f F met todo) : met.length ≤ n := nodup_len h.nd h.lt
theorem Dfs1.skip (h : Dfs1 E a n f F met todo) (e : Nat × Nat) (hs : (e.1 : Int) ≠ f ∨ e.2 ∈ met) : Dfs1 E a n f (F ++ [e]) met todo :=
  ⟨h.nd, h.lt, h.way, h.tw, h.fw, h.cl, fun x hx hf => by
    rcases List.mem_append.1 hx with hx | hx
    · exact h.seen x hx hf
    · rw [List.mem_singleton.1 hx] at hf ⊢
      rcases hs with hs | hs
      · exact absurd hf hs
      · exact hs, h.tl⟩
theorem Dfs1.push (h : Dfs1 E a n f F met todo) (e : Nat × Nat) (he : e ∈ E) (hl : e.2 < n) (hf : (e.1 : Int) = f) (hn : e.2 ∉ met) : Dfs1 E a n f (F ++ [e]) (met ++ [e.2]) (todo ++ [(e.2 : Int)]) := by
  have hw : ∃ q : Nat, a = q ∧ Way E q e.2 := by
    rcases h.fw with h1 | ⟨q, y, h1, h2, h3⟩
    · exact ⟨e.1, by omega, .one he⟩
    · have : y = e.1 := by omega
      subst this
      exact ⟨q, h1, .more h3 he⟩
  refine ⟨?_, fun x hx => ?_, fun x hx => ?_, fun x hx => ?_, h.fw, fun x hx h1 => ?_, fun x hx h1 => ?_, by simp; exact h.tl⟩
  · exact List.nodup_append.2 ⟨h.nd, by simp, fun x hx y hy e => hn (by rw [List.mem_singleton.1 hy] at e; exact e ▸ hx)⟩
  · rcases List.mem_append.1 hx with hx | hx
    · exact h.lt x hx
    · rw [List.mem_singleton.1 hx]; exact hl
  · rcases List.mem_append.1 hx with hx | hx
    · exact h.way x hx
    · rw [List.mem_singleton.1 hx]; exact hw
  · rcases List.mem_append.1 hx with hx | hx
    · exact h.tw x hx
    · rw [List.mem_singleton.1 hx]
      obtain ⟨q, h1, h2⟩ := hw
      exact .inr ⟨q, e.2, h1, rfl, h2⟩
  · by_cases hxe : x.1 = e.2
    · right; left; simp [hxe]
    · have h2 : (x.1 : Int) = a ∨ x.1 ∈ met := by
        rcases h1 with h1 | h1
        · exact .inl h1
        · rcases List.mem_append.1 h1 with h1 | h1
          · exact .inr h1
          · exact absurd (List.mem_singleton.1 h1) hxe
      rcases h.cl x hx h2 with h3 | h3 | h3
      · left; simp [h3]
      · right; left; simp [h3]
      · right; right; exact h3
  · rcases List.mem_append.1 hx with hx | hx
    · have := h.seen x hx h1; simp [this]
    · rw [List.mem_singleton.1 hx]; simp
theorem Dfs1.done (h : Dfs1 E a n f E met todo) : Dfs E a n met todo :=
  ⟨h.nd, h.lt, h.way, h.tw, fun e he h1 => by
    rcases h.cl e he h1 with h2 | h2 | h2
    · exact .inl h2
    · exact .inr h2
    · exact .inl (h.seen e he h2), by have := h.tl; omega⟩
end
theorem Dfs.all {g : List GN} {a : Int} {met : List Nat} (h : Dfs (graphE g) a g.length met []) : ∀ x : Int, x ∈ reachL g a ↔ ∃ y : Nat, x = y ∧ y ∈ met := by
  have hE : ∀ e ∈ graphE g, e.2 < g.length := fun e he => (graphE_lt e he).2
  intro x
  unfold reachL
  by_cases hin : isN g.length a = true
  · rw [if_pos hin]
    obtain ⟨q, hq⟩ : ∃ q : Nat, a = q := ⟨a.toNat, by unfold isN at hin; simp at hin; omega⟩
    subst hq
    have hcl : ClosedM (graphE g) q (fun b => decide (b ∈ met)) := fun e he h1 => by
      rcases h.cl e he (by rcases h1 with h1 | h1; exact .inl (by rw [h1]); exact .inr (by simpa using h1)) with h2 | h2
      · simpa using h2
      · cases h2
    have hr : ∀ b, decide (b ∈ met) = reach g.length (graphE g) q b := fun b => reach_eq hE hcl (fun b hb => by
      obtain ⟨p, h1, h2⟩ := h.way b (by simpa using hb)
      have : p = q := by omega
      exact this ▸ h2) b
    unfold listN
    rw [List.mem_map]
    constructor
    · rintro ⟨y, hy, rfl⟩
      refine ⟨y, rfl, ?_⟩
      have := (List.mem_filter.1 hy).2
      rw [show ((q : Int).toNat) = q by simp, ← hr y] at this
      simpa using this
    · rintro ⟨y, rfl, hy⟩
      refine ⟨y, List.mem_filter.2 ⟨by simpa using h.lt y hy, ?_⟩, rfl⟩
      rw [show ((q : Int).toNat) = q by simp, ← hr y]
      simpa using hy
  · rw [if_neg hin]
    constructor
    · intro h; cases h
    · rintro ⟨y, rfl, hy⟩
      obtain ⟨q, h1, h2⟩ := h.way y hy
      obtain ⟨b, hb, _⟩ := h2.first
      have := (graphE_lt _ hb).1
      refine absurd ?_ hin
      unfold isN; simp; omega
theorem listN_pairwise (S : Nat → Bool) (n : Nat) : (listN S n).Pairwise (fun x y => x < y) := by
  unfold listN
  rw [List.pairwise_map]
  exact (List.Pairwise.filter S List.pairwise_lt_range).imp fun h => by omega
theorem reachL_pairwise (g : List GN) (a : Int) : (reachL g a).Pairwise (fun x y => x < y) := by
  unfold reachL
  split
  · exact listN_pairwise _ _
  · exact List.Pairwise.nil
theorem reachL_len (g : List GN) (a : Int) : (reachL g a).length ≤ g.length := by
  unfold reachL
  split
  · exact listN_len _ _
  · simp
theorem sorted_of_perm {ss l : List Int} (hp : ss.Perm l) (hl : l.Pairwise (fun x y => x < y)) : ss.mergeSort (fun x y => decide (x ≤ y)) = l := by
  have tr : ∀ a b c : Int, decide (a ≤ b) = true → decide (b ≤ c) = true → decide (a ≤ c) = true := fun a b c h1 h2 => by simp at *; omega
  have tt : ∀ a b : Int, (decide (a ≤ b) || decide (b ≤ a)) = true := fun a b => by simp; omega
  refine List.Perm.eq_of_pairwise (le := fun a b => decide (a ≤ b) = true) (fun a b _ _ h1 h2 => by simp at *; omega) (List.pairwise_mergeSort tr tt ss) (hl.imp fun h => by simp; omega) ((List.mergeSort_perm ss _).trans hp)
open Go.Maps in
def metD (met : List Nat) : DataW Unit := setOf (.lit (.int .i64 1)) (met.map fun x : Nat => Lit.int .i64 x)
theorem metD_key (met : List Nat) : ∀ x ∈ met.map (fun x : Nat => Lit.int .i64 x), WideAt.IsKeyLit x := fun x hx => by
  obtain ⟨y, _, rfl⟩ := List.mem_map.1 hx; trivial
open Go.Maps in
theorem metD_snoc (met : List Nat) (t : Nat) : metD (met ++ [t]) = (metD met).put (.int .i64 t) (.lit (.int .i64 1)) := by
  unfold metD; rw [List.map_append]; exact setOf_snoc _ _ _
open Go.Maps in
theorem metD_has (met : List Nat) (x : Int) : has (metD met) (.int .i64 x) = true ↔ ∃ y : Nat, x = y ∧ y ∈ met := by
  unfold metD
  rw [has_setOf _ _ _ (metD_key met), List.any_map, List.any_eq_true]
  constructor
  · rintro ⟨y, hy, h⟩; exact ⟨y, by simpa [Lit.sameKey, eq_comm] using h, hy⟩
  · rintro ⟨y, rfl, hy⟩; exact ⟨y, hy, by simp [Lit.sameKey]⟩
open Go.Maps in
theorem fold_in (t : Nat) (z : DataW Unit) : ∀ (met : List Nat) (D : DataW Unit), IsMap D → (t ∈ met ∨ D.atKey (.int .i64 t) z = .lit (.int .i64 1)) →
    ((met.map fun x : Nat => Lit.int .i64 x).foldl (fun m x => m.put x (.lit (.int .i64 1))) D).atKey (.int .i64 t) z = .lit (.int .i64 1)
  | [], D, _, h => by
    rcases h with h | h
    · cases h
    · exact h
  | x :: r, D, hD, h => by
    refine fold_in t z r (D.put (.int .i64 x) (.lit (.int .i64 1))) (hD.put _ _) ?_
    by_cases e : t = x
    · subst e; exact .inr (atKey_put_same (k := .int .i64 t) hD True.intro _ _)
    · rcases h with h | h
      · rcases List.mem_cons.1 h with h | h
        · exact absurd h e
        · exact .inl h
      · right
        rw [atKey_put_other (by intro h; simp at h; omega)]
        exact h
open Go.Maps in
theorem metD_in {met : List Nat} {t : Nat} (h : t ∈ met) : (metD met).atKey (.int .i64 t) (.lit (.int .i64 0)) = .lit (.int .i64 1) := fold_in t _ met _ isMap_empty (.inl h)
open Go.Maps in
theorem metD_out {met : List Nat} {t : Nat} (h : t ∉ met) : (metD met).atKey (.int .i64 t) (.lit (.int .i64 0)) = .lit (.int .i64 0) := by
  refine atKey_of_not_has ?_ _
  cases hh : has (metD met) (.int .i64 t) with
  | false => rfl
  | true =>
    obtain ⟨y, h1, h2⟩ := (metD_has met t).1 hh
    have : y = t := by omega
    exact absurd (this ▸ h2) h
end Go.Proofs.YtpmjcbjdcjjplaaGreat
