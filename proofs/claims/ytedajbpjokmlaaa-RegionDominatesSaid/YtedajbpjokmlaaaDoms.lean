/- No program: the sweeps of dominators come to an end, and to the dominators. -/
import Derived.Test.YtedajbpjokmlaaaSets
import Derived.Test.YtedajbpjokmlaaaGraph3
namespace Go.Proofs.Ytedajbpjokmlaaa
open Go Go.RowKit
set_option linter.unusedVariables false

def sumN (n : Nat) (f : Nat → Nat) : Nat := ((List.range n).map f).sum
theorem sumN_succ (n : Nat) (f : Nat → Nat) : sumN (n + 1) f = sumN n f + f n := by unfold sumN; rw [List.range_succ, List.map_append, List.sum_append]; simp
theorem sumN_le {f g : Nat → Nat} : ∀ {n : Nat}, (∀ j, j < n → f j ≤ g j) → sumN n f ≤ sumN n g
  | 0, _ => by simp [sumN]
  | n + 1, h => by
    rw [sumN_succ, sumN_succ]
    have h1 := sumN_le (f := f) (g := g) (n := n) fun j hj => h j (by omega)
    have h2 := h n (by omega)
    omega
theorem sumN_lt {f g : Nat → Nat} {i : Nat} (hlt : f i < g i) : ∀ {n : Nat}, (∀ j, j < n → f j ≤ g j) → i < n → sumN n f < sumN n g
  | 0, _, hi => by omega
  | n + 1, h, hi => by
    rw [sumN_succ, sumN_succ]
    have h2 := h n (by omega)
    by_cases e : i = n
    · subst e
      have h1 := sumN_le (f := f) (g := g) (n := i) fun j hj => h j (by omega)
      omega
    · have h1 := sumN_lt (n := n) hlt (fun j hj => h j (by omega)) (by omega)
      omega
def muD (n : Nat) (S : Nat → Nat → Bool) : Nat := sumN n fun i => cnt n (S i)
/-- the sets as they lie: nothing where nothing comes -/
def setL (n : Nat) (E : List (Nat × Nat)) (r : Nat) (S : Nat → Nat → Bool) (i : Nat) : List Int := if come n E r i = true then listN (S i) n else []
def domL (n : Nat) (E : List (Nat × Nat)) (r i : Nat) : List Int := listN (fun d => domOf n E r d i) n
def nextS (n : Nat) (E : List (Nat × Nat)) (r : Nat) (S : Nat → Nat → Bool) (i : Nat) : Nat → Nat → Bool := fun j d => if j = i then aboveS n E r S i d else S j d
section
variable {n : Nat} {E : List (Nat × Nat)} {r : Nat}
theorem setL_len (S : Nat → Nat → Bool) (i : Nat) : (setL n E r S i).length ≤ n := by
  unfold setL; split
  · exact listN_len _ _
  · simp
theorem come_root : come n E r r = true := by unfold come; simp
theorem come_lt (hE : ∀ e ∈ E, e.2 < n) (hr : r < n) {i : Nat} (h : come n E r i = true) : i < n := by
  rw [come_iff hE] at h
  rcases h with rfl | h
  · exact hr
  · exact h.lt hE
theorem dom_next (hE : ∀ e ∈ E, e.2 < n) {S : Nat → Nat → Bool} (v : DomInv n E r S) {i : Nat} (hin : i < n) (hi : come n E r i = true) (hne : i ≠ r) (hd : listN (aboveS n E r S i) n ≠ listN (S i) n) :
    DomInv n E r (nextS n E r S i) ∧ muD n (nextS n E r S i) < muD n S ∧ ∀ j, setL n E r (nextS n E r S i) j = if j = i then listN (aboveS n E r S i) n else setL n E r S j := by
  refine ⟨v.next hE hi hne (fun d => by unfold nextS; rw [if_pos rfl]) (fun j d hj => by unfold nextS; rw [if_neg hj]), ?_, fun j => ?_⟩
  · have hle : ∀ j b, nextS n E r S i j b = true → S j b = true := fun j b h => by
      unfold nextS at h
      split at h
      · rename_i e; subst e; exact v.down _ b hi hne h
      · exact h
    refine sumN_lt (i := i) ?_ (fun j _ => cnt_mono (hle j)) hin
    obtain ⟨d, hdn, hdd⟩ : ∃ d, d < n ∧ aboveS n E r S i d ≠ S i d := by
      refine Classical.byContradiction fun hno => hd (listN_congr fun k hk => Classical.byContradiction fun h => hno ⟨k, hk, h⟩)
    have e1 : nextS n E r S i i d = aboveS n E r S i d := by unfold nextS; rw [if_pos rfl]
    cases ha : aboveS n E r S i d with
    | true =>
      have := v.down i d hi hne ha
      rw [ha, this] at hdd; exact absurd rfl hdd
    | false =>
      cases hs : S i d with
      | false => rw [ha, hs] at hdd; exact absurd rfl hdd
      | true => exact cnt_lt (hle i) hdn hs (by rw [e1, ha])
  · unfold setL nextS
    by_cases e : j = i
    · subst e; rw [if_pos hi, if_pos rfl]
      exact listN_congr fun k _ => if_pos rfl
    · rw [if_neg e]
      split
      · rfl
      · rfl
theorem dom_end (hE : ∀ e ∈ E, e.2 < n) (hr : r < n) {S : Nat → Nat → Bool} (v : DomInv n E r S) (hfix : ∀ i, i < n → come n E r i = true → i ≠ r → listN (aboveS n E r S i) n = listN (S i) n) (i : Nat) (hin : i < n) : domL n E r i = setL n E r S i := by
  unfold domL setL
  by_cases hi : come n E r i = true
  · rw [if_pos hi]
    refine listN_congr fun d hd => ?_
    symm
    refine v.done hE (fun j d' hj hjr hS => ?_) i d hi
    have hjn := come_lt hE hr hj
    have hdn := come_lt hE hr (v.some j d' hj hS)
    rw [listN_inj (hfix j hjn hj hjr) hdn]; exact hS
  · rw [if_neg hi]
    refine listN_none fun d _ => ?_
    unfold domOf
    have : come n E r i = false := by simpa using hi
    rw [this]; simp
theorem dom_start {S : Nat → Nat → Bool} (hS : ∀ i d, S i d = if i = r then d == r else come n E r d) : DomInv n E r S :=
  DomInv.start (fun d => by rw [hS, if_pos rfl]) (fun i d h => by rw [hS, if_neg h])
theorem listN_at {S : Nat → Bool} {j : Nat} {x : Int} (h : (listN S n)[j]? = some x) : ∃ i : Nat, x = i ∧ i < n ∧ S i = true := mem_listN.1 (List.mem_of_getElem? h)
theorem listN_idx {S : Nat → Bool} {i : Nat} (hi : i < n) (h : S i = true) : ∃ j : Nat, j < (listN S n).length ∧ (listN S n)[j]? = some (i : Int) := by
  obtain ⟨j, hj⟩ := List.mem_iff_getElem?.1 (mem_listN.2 ⟨i, rfl, hi, h⟩)
  exact ⟨j, (List.getElem?_eq_some_iff.1 hj).1, hj⟩
theorem listN_one (hr : r < n) : listN (fun d => d == r) n = [(r : Int)] := by
  refine same_sets (listN_pairwise _ _) (by simp) fun x => ?_
  rw [mem_listN, List.mem_singleton]
  constructor
  · rintro ⟨k, h1, _, h3⟩
    have : k = r := by simpa using h3
    omega
  · intro h; exact ⟨r, h, hr, by simp⟩
end
end Go.Proofs.Ytedajbpjokmlaaa
