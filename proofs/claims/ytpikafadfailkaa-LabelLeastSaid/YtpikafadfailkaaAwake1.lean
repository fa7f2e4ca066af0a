/- awake, of the lattice's laws: answers that the document fixes. -/
import Derived.Test.YtpikafadfailkaaLists
import Derived.LaidEqlPtr
namespace Go.Proofs.Ytpikafadfailkaa
open Go.RowKit P

/-- Make where it makes a lattice; where it makes none -/
theorem make_ok (k : Nat) (A : Option Addr) (l c : Nat) (ps : List (Int × Int)) (w : World) (hl : ps.length = l) (hp : Pairs w w.heap.size A ps) (h : makeE k ps = 0) :
    Calls Try.prog 25 #[.int .i64 k, .slice A l c] w fun e w' => e = .returned (.tuple #[.pointer (some ⟨w.heap.size, 0, none⟩), .int .i64 0]) ∧ LatR w' w.heap.size k (ordOf k ps) ∧ Below w.heap.size w w' :=
  (make_any k A l c ps w hl hp).mono fun e w' hm => by
    rcases hm.2 with ⟨h1, _⟩ | ⟨_, k', h1, h2, h3⟩
    · exact absurd h h1
    · have e1 : k' = k := by omega
      rw [e1] at h3
      exact ⟨h2, h3, hm.1⟩
theorem make_no (n : Int) (A : Option Addr) (l c : Nat) (ps : List (Int × Int)) (v : Int) (w : World) (hl : ps.length = l) (hp : Pairs w w.heap.size A ps) (h : makeE n ps = v) (hv : v ≠ 0) :
    Calls Try.prog 25 #[.int .i64 n, .slice A l c] w fun e w' => e = .returned (.tuple #[.pointer none, .int .i64 v]) ∧ Below w.heap.size w w' :=
  (make_any n A l c ps w hl hp).mono fun e w' hm => by
    rcases hm.2 with ⟨_, h2⟩ | ⟨h1, _⟩
    · exact ⟨by rw [h2, h], hm.1⟩
    · exact absurd (h.symm.trans h1) hv

/-- the pairs' cells, one behind the other -/
def pcells : List (Int × Int) → List Value
  | [] => []
  | p :: ps => .int .i64 p.1 :: .int .i64 p.2 :: pcells ps
theorem pcells_at : ∀ {ps : List (Int × Int)} {i : Nat} {p : Int × Int}, ps[i]? = some p → (pcells ps)[i * 2]? = some (.int .i64 p.1) ∧ (pcells ps)[i * 2 + 1]? = some (.int .i64 p.2)
  | [], i, p, h => by simp at h
  | q :: ps, 0, p, h => by simp at h; subst h; exact ⟨rfl, rfl⟩
  | q :: ps, i + 1, p, h => by
    have := pcells_at (ps := ps) (i := i) (p := p) (by simpa using h)
    rw [show (i + 1) * 2 = i * 2 + 1 + 1 by omega]
    exact this
def okPs (ps : List (Int × Int)) : Prop := ∀ p, p ∈ ps → (Lit.int .i64 p.1).wf = true ∧ (Lit.int .i64 p.2).wf = true
theorem Pairs.new (w : World) (ps : List (Int × Int)) (cs : Array Value) (T : TypeId) (hc : cs = (pcells ps).toArray) (hw : okPs ps) (hl : ps.length ≤ 9223372036854775807) :
    Pairs (w.alloc (.cells cs T)) (w.alloc (.cells cs T)).heap.size (some ⟨w.heap.size, 0, none⟩) ps := by
  subst hc
  refine ⟨hl, fun _ => ⟨w.heap.size, 0, rfl, by simp, fun i p hp => ?_⟩⟩
  obtain ⟨h1, h2⟩ := pcells_at hp
  obtain ⟨h3, h4⟩ := hw p (List.mem_of_getElem? hp)
  refine ⟨?_, ?_, h3, h4⟩
  · rw [cell_new, Nat.zero_add, List.getElem?_toArray]; exact h1
  · rw [cell_new, Nat.zero_add, List.getElem?_toArray]; exact h2

def ps4 : List (Int × Int) := [(0, 1), (0, 2), (1, 3), (2, 3)]
def ps3 : List (Int × Int) := [(0, 1), (0, 2), (1, 3)]
def L4 : Rel := ordOf 4 ps4
theorem mk4 : makeE 4 ps4 = 0 := by decide +kernel
theorem mk3 : makeE 4 ps3 = 16 := by decide +kernel

theorem lq403 : lqI 4 L4 0 3 = true := by decide +kernel
theorem lq412 : lqI 4 L4 1 2 = false := by decide +kernel
theorem jn412 : jnI 4 L4 1 2 = 3 := by decide +kernel
theorem mt412 : mtI 4 L4 1 2 = 0 := by decide +kernel
theorem te412 : tabE 4 1 2 = 0 := by decide +kernel
theorem bot4 : bot 4 L4 = 0 := by decide +kernel
theorem top4 : top 4 L4 = 3 := by decide +kernel
theorem dn41 : dnL 4 L4 1 = [0, 1] := by decide +kernel
theorem IntsAt.new (w : World) (l : List Int) (cs : Array Value) (T : TypeId) (hc : cs = (ints l).toArray) (hl : l.length ≤ 9223372036854775807) (n c : Nat) (hn : l.length = n) :
    IntsAt (w.alloc (.cells cs T)) (w.heap.size + 1) (.slice (some ⟨w.heap.size, 0, none⟩) n c) l := by
  subst hc; subst hn
  refine ⟨hl, _, c, rfl, fun _ => ⟨w.heap.size, 0, rfl, by omega, fun i x hx => ?_⟩⟩
  rw [cell_new, Nat.zero_add, List.getElem?_toArray]
  simp [ints, hx]

set_option maxHeartbeats 1000000 in
theorem awake1 (w : World) : Calls Try.prog 16 #[] w fun e w' => e = .returned (.bool true) ∧ Below w.heap.size w w' := by
  go_enter Try.func16, Try.ntmps16
  go_wp2_with fail
  refine (make_ok 4 _ 4 4 ps4 _ rfl (Pairs.new w ps4 _ _ rfl (by unfold okPs ps4; decide) (by decide)) mk4).mono ?_
  rintro e w1 ⟨rfl, hl, hb⟩
  have HL := Lib.hid hl
  have HB := Lib.hid hb
  have hz : w.heap.size + 1 < w1.heap.size := by have := hl.lt; simpa using this
  clear hl hb
  go_wp2_with fail
  refine (make_no 4 _ 3 3 ps3 16 _ rfl (Pairs.new w1 ps3 _ _ rfl (by unfold okPs ps3; decide) (by decide)) mk3 (by decide)).mono ?_
  rintro e w2 ⟨rfl, hb2⟩
  have h2 : LatR w2 (w.heap.size + 1) 4 L4 := by
    have h3 := HL.out.alloc (.cells (pcells ps3).toArray 39)
    have := h3.here hb2
    rw [World.size_alloc] at this
    exact this
  have HB2 : Hid (Below w.heap.size w w2) := Lib.hid ((((Below.refl _ _).alloc (Nat.le_refl _) _).trans (HB.out.mono (by simp))).trans (((Below.refl _ _).alloc (by omega) _).trans (hb2.mono (by simp; omega))))
  have HL2 := Lib.hid h2
  have hz2 : w.heap.size < w2.heap.size := by have := h2.lt; omega
  have e1 := lq403
  have e2 := lq412
  have e3 := jn412
  have e4 := mt412
  have e5 := te412
  have e6 := bot4
  have e7 := top4
  clear h2 hb2 HL HB hz
  go_wp2_with (first
    | (go_at_call 19; refine (join_r HL2.out _ _).mono ?_; rintro e w' ⟨rfl, rfl⟩)
    | (go_at_call 21; refine (meet_r HL2.out _ _).mono ?_; rintro e w' ⟨rfl, rfl⟩)
    | (go_at_call 23; refine (bottom_r HL2.out).mono ?_; rintro e w' ⟨rfl, m, rfl⟩)
    | (go_at_call 24; refine (top_r (HL2.out.drewN _)).mono ?_; rintro e w' ⟨rfl, m2, rfl⟩))
  refine (below_r (HL2.out.drewN _) _).mono ?_
  rintro e w3 ⟨v, rfl, hown, hb3⟩
  have HB3 : Hid (Below w.heap.size w w3) := Lib.hid ((below_drewN HB2.out _).trans (hb3.mono (by simp [World.drewN]; omega)))
  have HL3 := Lib.hid ((HL2.out.drewN (m + m2)).here hb3)
  have HI : Hid (IntsAt w3 w3.heap.size v [0, 1]) := Lib.hid (by rw [dn41] at hown; exact IntsAt.of_own hown (by decide))
  have hz3 : w.heap.size < w3.heap.size := by have := HL3.out.lt; omega
  clear hown hb3 HB2 HL2 hz2
  go_wp2_with fail
  refine (same_any v _ [0, 1] [0, 1] (w3.heap.size + 1) _ ((HI.out.below ((Below.refl w3.heap.size w3).alloc (Nat.le_refl _) _)).more (by omega)) (IntsAt.new w3 [0, 1] _ 3 rfl (by decide) 2 2 rfl)).mono ?_
  rintro e w4 ⟨rfl, m4, rfl⟩
  have e8 : ([0, 1] : List Int) == [0, 1] := by decide
  have HL4 := Lib.hid ((HL3.out.alloc (.cells (ints [0, 1]).toArray 3)).drewN m4)
  have HB4 : Hid (Below w.heap.size w ((w3.alloc (.cells (ints [0, 1]).toArray 3)).drewN m4)) := Lib.hid (below_drewN (HB3.out.alloc (by omega) _) m4)
  generalize (w3.alloc (.cells (ints [0, 1]).toArray 3)).drewN m4 = w4 at *
  go_wp2_with (go_at_call 22; refine (leq_r HL4.out _ _).mono ?_; rintro e w' ⟨rfl, rfl⟩)
  go_ret
  exact ⟨rfl, HB4.out⟩

end Go.Proofs.Ytpikafadfailkaa
