/- slices.Clone; a row of labels; Raise of no lattice. -/
import Derived.Test.YtpikafadfailkaaLabel4
import Derived.Test.YtpikafadfailkaaAppend
import Derived.Test.YtpikafadfailkaaRaise
import Derived.Lib.SliceRun
namespace Go.Proofs.Ytpikafadfailkaa
open Go.RowKit P

theorem ints_at {l : List Int} {j : Nat} {u : Value} (h : (ints l)[j]? = some u) : ∃ x, l[j]? = some x ∧ u = .int .i64 x := by
  unfold ints at h
  rw [List.getElem?_map] at h
  cases e : l[j]? with
  | none => rw [e] at h; cases h
  | some x => rw [e] at h; exact ⟨x, rfl, by simpa using h.symm⟩
theorem ints_one (l : List Int) : ∀ u ∈ ints l, u.oneCell' = true := by
  intro u hu
  unfold ints at hu
  obtain ⟨x, _, rfl⟩ := List.mem_map.1 hu
  rfl
theorem ints_len (l : List Int) : (ints l).length = l.length * 1 := by simp [ints]
theorem IntsAt.src {w : World} {B : Nat} {A : Option Addr} {l : List Int} {n c : Nat} (h : IntsAt w B (.slice A n c) l) (h0 : 0 < n) : ∃ ad, A = some ad ∧ ∀ (j : Nat) u, (ints l)[j]? = some u → w.cell? (ad.add j) = some u := by
  obtain ⟨_, A', c', hv, hc⟩ := h
  cases hv
  obtain ⟨b, o, rfl, _, hc⟩ := hc h0
  refine ⟨_, rfl, fun j u hu => ?_⟩
  obtain ⟨x, hx, rfl⟩ := ints_at hu
  rw [Addr.add_mid]
  exact hc j x hx

set_option maxHeartbeats 1000000 in
theorem clone_any (v : Value) (l : List Int) (w : World) (hl : IntsAt w w.heap.size v l) (h3 : l.length ≤ 300) :
    Calls Try.prog 56 #[v] w (ListPost w l) := by
  have HI0 := Lib.hid hl
  obtain ⟨hlen, A, c, rfl, hcell⟩ := hl
  obtain ⟨i0, hi, hz0, hz1, hz2⟩ := info_parts info_int
  have HI := Lib.hid hi
  have HZ0 := Lib.hid hz0
  have HZ1 := Lib.hid hz1
  have HZ2 := Lib.hid hz2
  have HW1 := Lib.hid (ownsRow_empty w 3 1 w.heap.size (Nat.le_refl _))
  have HB := Lib.hid ((Below.refl w.heap.size w).alloc (Nat.le_refl _) (.cells #[] 3))
  have HSRC := Lib.hid (fun h0 => (HI0.out.below HB.out).src h0)
  have q4 : ∀ (w : World) (a : Option Addr) (n c n' c' : Nat), (binOp .eql 50 (.slice a n c) (.slice none n' c')).run Try.prog w = .ok (.bool a.isNone) w := fun w a n c n' c' => Lib.run_eql_slice_nil w _ _ a n c n' c' Try.underlying50
  clear hi hz0 hz1 hz2
  cases A with
  | none =>
    have h0 : l.length = 0 := by
      rcases Nat.eq_zero_or_pos l.length with h | h
      · exact h
      · obtain ⟨_, _, h1, _⟩ := hcell h; cases h1
    have hl0 : l = [] := List.eq_nil_of_length_eq_zero h0
    subst hl0
    clear hcell h0
    go_enter Try.func56, Try.ntmps56
    go_wp2
    go_ret
    exact ⟨_, rfl, own_nil _ _, Below.refl _ _⟩
  | some ad =>
    clear hcell
    go_enter Try.func56, Try.ntmps56
    go_wp2_with (at_builtin; refine wl_append rfl _ _ 50 rfl w.heap.size 3 i0 (.int .i64 0) 1 8 Try.underlying50 HI.out HZ0.out HZ1.out HZ2.out rfl (by decide) _ 0 [] rfl HW1.out (some ad) l.length c (ints l) rfl (ints_len l) HSRC.out (ints_one l) ?c3 ?c4 ?c5 ?_)
    case c3 => unfold maxLen; omega
    case c4 => omega
    case c5 => simp
    intro v' w3 hown hg
    have hb3 : Below w.heap.size w w3 := HB.out.grown hg (by simp) (fun j hj => (HW1.out.lt j hj).1)
    have HB3 := Lib.hid hb3
    have HO : Hid (OwnInts w3 w.heap.size v' l) := Lib.hid hown
    clear hown hg hb3
    go_wp2
    go_ret
    exact ⟨_, rfl, HO.out, HB3.out⟩

theorem raise_nil (u v : Value) (w : World) : Calls Try.prog 46 #[.pointer none, u, v] w fun e w' => e = .returned (.tuple #[.slice none 0 0, .int .i64 1]) ∧ w = w' := by
  go_enter Try.func46, Try.ntmps46
  go_wp2
  go_step3
  go_wp2
  rw [Exit.noGoto_ret]
  go_ret2
  exact ⟨rfl, rfl⟩

/-- a row of labels in a block -/
structure RowAt (w : World) (g : Nat) (o : List Nat) : Prop where
  c : ∀ i, i < o.length → w.cell? ⟨g, i, none⟩ = some (.int .i64 (gv o i))
  fz : ∀ i, i < o.length → w.frozen? ⟨g, i, none⟩ = false
def labs (o : List Nat) : List Int := o.map fun x : Nat => (x : Int)
theorem labs_len (o : List Nat) : (labs o).length = o.length := by simp [labs]
theorem labs_at {o : List Nat} {i : Nat} (hi : i < o.length) : (labs o)[i]? = some (gv o i : Int) := by
  unfold labs gv
  rw [List.getElem?_map, List.getD_eq_getElem?_getD, List.getElem?_eq_getElem hi]; rfl
theorem labs_of {n : Nat} : ∀ {l : List Int}, allL n l = true → ∃ o, l = labs o ∧ LabN n o
  | [], _ => ⟨[], rfl, fun i hi => by cases hi⟩
  | a :: l, h => by
    simp only [allL, List.all_cons, Bool.and_eq_true] at h
    obtain ⟨x, rfl, hx⟩ := isL_true h.1
    obtain ⟨o, rfl, ho⟩ := labs_of (l := l) h.2
    refine ⟨x :: o, rfl, fun i hi => ?_⟩
    cases i with
    | zero => simpa [gv] using hx
    | succ i => have := ho i (by simpa using hi); simpa [gv] using this
section
variable {w w' : World} {g : Nat} {o : List Nat}
theorem RowAt.keep (h : RowAt w g o) (hc : ∀ i, w'.cell? ⟨g, i, none⟩ = w.cell? ⟨g, i, none⟩) (hf : ∀ i, w'.frozen? ⟨g, i, none⟩ = w.frozen? ⟨g, i, none⟩) : RowAt w' g o :=
  ⟨fun i hi => (hc i).trans (h.c i hi), fun i hi => (hf i).trans (h.fz i hi)⟩
theorem RowAt.below {B : Nat} (h : RowAt w g o) (hb : Below B w w') (hB : g < B) : RowAt w' g o :=
  h.keep (fun o => hb.cell (p := ⟨g, o, none⟩) hB) (fun o => hb.frozen (p := ⟨g, o, none⟩) hB)
theorem RowAt.set (h : RowAt w g o) {i : Nat} (hi : i < o.length) (y : Nat) : RowAt (w.setCell ⟨g, i, none⟩ (.int .i64 y)) g (o.set i y) := by
  refine ⟨fun j hj => ?_, fun j hj => ?_⟩
  · rw [List.length_set] at hj
    rw [gv_set hi]
    by_cases e : j = i
    · subst e; rw [same_cell _ _ _ _ _ (h.c j hj), if_pos rfl]
    · rw [other_cell _ _ _ _ _ e, h.c j hj, if_neg e]
  · rw [List.length_set] at hj
    rw [frozen_set]; exact h.fz j hj
theorem RowAt.ints (h : RowAt w g o) (hg : g < w.heap.size) (hl : o.length ≤ 9223372036854775807) (c n : Nat) (hn : n = o.length) : IntsAt w w.heap.size (.slice (some ⟨g, 0, none⟩) n c) (labs o) := by
  subst hn
  refine ⟨by rw [labs_len]; exact hl, _, c, by rw [labs_len], fun _ => ⟨g, 0, rfl, hg, fun i x hx => ?_⟩⟩
  have hi : i < o.length := by
    rw [← labs_len]
    rcases Nat.lt_or_ge i (labs o).length with h | h
    · exact h
    · rw [List.getElem?_eq_none h] at hx; cases hx
  rw [labs_at hi] at hx
  cases hx
  rw [Nat.zero_add]
  exact h.c i hi
theorem RowAt.of_own {base : Nat} {v : Value} (h : OwnInts w base v (labs o)) (h0 : 0 < o.length) : ∃ g c, v = .slice (some ⟨g, 0, none⟩) o.length c ∧ base ≤ g ∧ g < w.heap.size ∧ RowAt w g o := by
  rcases h.2 with ⟨_, h1⟩ | ⟨g, cap, cur, hv, hbase, hg, _⟩
  · rw [labs_len] at h1; omega
  · have hlt : g < w.heap.size := by
      rcases Nat.lt_or_ge g w.heap.size with h2 | h2
      · exact h2
      · rw [Array.getElem?_eq_none h2] at hg; cases hg
    rw [labs_len] at hv
    refine ⟨g, cap, hv, hbase, hlt, ⟨fun i hi => ?_, fun i hi => ?_⟩⟩
    · have := World.ownsRow.cells h (g := g) (by rw [hv]; rfl) i (.int .i64 (gv o i)) (by unfold Go.Proofs.Ytpikafadfailkaa.ints; rw [List.getElem?_map, labs_at hi]; rfl)
      rw [Addr.add_mid, Nat.zero_add] at this; exact this
    · simp [World.frozen?, hg]
end

end Go.Proofs.Ytpikafadfailkaa
