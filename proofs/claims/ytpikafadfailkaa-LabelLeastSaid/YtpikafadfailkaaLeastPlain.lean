/- No program: what LabelLeast asks of raised labels. -/
import Derived.Test.YtpikafadfailkaaLabel6
import Derived.Test.YtpikafadfailkaaLabelPlain
namespace Go.Proofs.Ytpikafadfailkaa
open P
set_option linter.unusedVariables false

theorem labs_getD {o : List Nat} {i : Nat} (hi : i < o.length) : (labs o).getD i 0 = (gv o i : Int) := by
  rw [List.getD_eq_getElem?_getD, labs_at hi]; rfl
theorem allL_labs {n : Nat} {o : List Nat} (h : LabN n o) : allL n (labs o) = true := by
  unfold allL
  rw [List.all_eq_true]
  intro x hx
  obtain ⟨i, hi, rfl⟩ := List.getElem_of_mem hx
  rw [labs_len] at hi
  have := labs_at hi
  rw [List.getElem?_eq_getElem (by rw [labs_len]; exact hi)] at this
  injection this with this
  rw [this]; exact isL_nat (h i hi)
def fitA (n : Nat) (L : Rel) (a b : List Int) (j : Nat) : Bool := (List.range j).all fun i => lqI n L (a.getD i 0) (b.getD i 0)
def fitB (n : Nat) (L : Rel) (es : List (Int × Int)) (b : List Int) : Bool := es.all fun e => lqI n L (b.getD e.1.toNat 0) (b.getD e.2.toNat 0)
theorem fitA_succ (n : Nat) (L : Rel) (a b : List Int) (j : Nat) : fitA n L a b (j + 1) = (fitA n L a b j && lqI n L (a.getD j 0) (b.getD j 0)) := by
  unfold fitA; rw [List.range_succ, List.all_append]; simp
theorem fitB_snoc {n : Nat} {L : Rel} {es : List (Int × Int)} {b : List Int} {j : Nat} {e : Int × Int} (h : es[j]? = some e) :
    fitB n L (es.take (j + 1)) b = (fitB n L (es.take j) b && lqI n L (b.getD e.1.toNat 0) (b.getD e.2.toNat 0)) := by
  unfold fitB; rw [take_snoc h, List.all_append]; simp

/-- what is known of the raised labels R of low -/
structure LeastOk (n : Nat) (L : Rel) (es : List (Int × Int)) (low : List Int) (R : List Nat) : Prop where
  len : low.length = R.length
  above : ∀ i, i < low.length → lqI n L (low.getD i 0) (gv R i) = true
  ok : (allL n (labs R) && okPairs (labs R).length es) = true
  again : raiseN n L (edg es) (natl (labs R)) = R
  rise : ∀ (j : Nat) (p : Int × Int), es[j]? = some p → ∃ a e : Nat, p = ((a : Int), (e : Int)) ∧ a < low.length ∧ e < low.length ∧ lqI n L (gv R a) (gv R e) = true
  least : ∀ b : List Int, b.length = low.length → fitA n L low b low.length = true → fitB n L es b = true → ∀ i, i < low.length → lqI n L (gv R i) (b.getD i 0) = true
theorem leastOk {n : Nat} {L : Rel} {es : List (Int × Int)} {low : List Int} (h : Lat n L) (h8 : n ≤ 8) (hok : (allL n low && okPairs low.length es) = true) :
    LeastOk n L es low (raiseN n L (edg es) (natl low)) := by
  rw [Bool.and_eq_true] at hok
  obtain ⟨ha, hp⟩ := hok
  obtain ⟨lo, rfl, hl⟩ := labs_of ha
  rw [labs_len] at hp
  rw [natl_labs]
  have hE := edg_ok hp
  have u := raise_under h hE hl
  have c := raise_closed h h8 hE hl
  have hlen : lo.length = (raiseN n L (edg es) lo).length := u.le.1
  have rise : ∀ (j : Nat) (p : Int × Int), es[j]? = some p → ∃ a e : Nat, p = ((a : Int), (e : Int)) ∧ (edg es)[j]? = some (a, e) ∧ a < lo.length ∧ e < lo.length := fun j p hj => okPairs_nat hE hp hj
  refine ⟨by rw [labs_len]; exact hlen, fun i hi => ?_, ?_, ?_, fun j p hj => ?_, fun b hb fa fb i hi => ?_⟩
  · rw [labs_len] at hi
    rw [labs_getD hi, lqI_nat (hl i hi) (u.lab i (by rw [← hlen]; exact hi))]
    exact u.le.2 i hi
  · rw [allL_labs u.lab, labs_len, ← hlen, hp]; rfl
  · rw [natl_labs]; exact raise_again h h8 hE hl
  · obtain ⟨a, e, hpe, hj2, h1, h2⟩ := rise j p hj
    refine ⟨a, e, hpe, by rw [labs_len]; exact h1, by rw [labs_len]; exact h2, ?_⟩
    rw [lqI_nat (u.lab a (by rw [← hlen]; exact h1)) (u.lab e (by rw [← hlen]; exact h2))]
    exact c _ (List.mem_of_getElem? hj2)
  · rw [labs_len] at hi hb fa
    have fa2 : ∀ i, i < lo.length → lqI n L (gv lo i) (b.getD i 0) = true := fun i hi => by
      unfold fitA at fa
      rw [List.all_eq_true] at fa
      have := fa i (List.mem_range.2 hi)
      rwa [labs_getD hi] at this
    have hbl : allL n b = true := by
      unfold allL
      rw [List.all_eq_true]
      intro x hx
      obtain ⟨i, hi, rfl⟩ := List.getElem_of_mem hx
      have := fa2 i (by rw [← hb]; exact hi)
      rw [List.getD_eq_getElem?_getD, List.getElem?_eq_getElem hi] at this
      unfold lqI at this
      simp only [Bool.and_eq_true, Option.getD_some] at this
      exact this.1.2
    obtain ⟨bo, rfl, hbn⟩ := labs_of hbl
    rw [labs_len] at hb
    have le1 : LeN L lo bo := ⟨hb.symm, fun i hi => by
      have := fa2 i hi
      rwa [labs_getD (by rw [hb]; exact hi), lqI_nat (hl i hi) (hbn i (by rw [hb]; exact hi))] at this⟩
    have cl : ClosedN L (edg es) bo := fun e he => by
      obtain ⟨j, hj⟩ := List.mem_iff_getElem?.1 he
      have hjl : j < es.length := by have := (List.getElem?_eq_some_iff.1 hj).1; unfold edg at this; rwa [List.length_map] at this
      obtain ⟨a, e2, hpe, hj2, h1, h2⟩ := rise j es[j] (List.getElem?_eq_getElem hjl)
      rw [hj] at hj2
      injection hj2 with hj2
      subst hj2
      unfold fitB at fb
      rw [List.all_eq_true] at fb
      have := fb _ (List.getElem_mem hjl)
      rw [hpe] at this
      simp only [Int.toNat_natCast] at this
      rwa [labs_getD (by rw [hb]; exact h1), labs_getD (by rw [hb]; exact h2), lqI_nat (hbn a (by rw [hb]; exact h1)) (hbn e2 (by rw [hb]; exact h2))] at this
    have hRb := u.least bo hbn le1 cl
    rw [labs_getD (by rw [hb]; exact hi), lqI_nat (u.lab i (by rw [← hlen]; exact hi)) (hbn i (by rw [hb]; exact hi))]
    exact hRb.2 i (by rw [← hlen]; exact hi)
end Go.Proofs.Ytpikafadfailkaa
