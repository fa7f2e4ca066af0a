/- awake, of the labels' laws: answers that the document fixes. -/
import Derived.Test.YtpikafadfailkaaLabel6
import Derived.Test.YtpikafadfailkaaAwake1
namespace Go.Proofs.Ytpikafadfailkaa
open Go.RowKit P
set_option linter.unusedVariables false

theorem IntsAt.nil (w : World) (B : Nat) : IntsAt w B (.slice none 0 0) [] := ⟨by simp, none, 0, rfl, fun h => by simp at h⟩
def ps2 : List (Int × Int) := [(0, 1), (1, 2)]
theorem fv1 : foldV 4 L4 (bot 4 L4) [1, 2] = .tuple #[.int .i64 3, .int .i64 0] := by
  rw [foldV_yes (by decide), show foldJ 4 L4 (bot 4 L4) [1, 2] = 3 by decide +kernel]; rfl
theorem fv2 : foldV 4 (opp L4) (top 4 L4) [] = .tuple #[.int .i64 3, .int .i64 0] := by
  rw [foldV_yes (by decide), show foldJ 4 (opp L4) (top 4 L4) [] = 3 by decide +kernel]; rfl
theorem vis4 : visL 4 L4 [0, 2, 1, 3] 1 = [0, 2] := by decide +kernel
theorem high4 : highL 4 L4 1 = [2, 3] := by decide +kernel
theorem rs4 : labs (raiseN 4 L4 (edg ps2) (natl [0, 2, 1])) = [0, 2, 3] := by decide +kernel
theorem rsok : (allL 4 [0, 2, 1] && okPairs ([0, 2, 1] : List Int).length ps2) = true := by decide +kernel

set_option maxHeartbeats 1000000 in
theorem awake2 (w : World) : Calls Try.prog 38 #[] w fun e w' => e = .returned (.bool true) ∧ Below w.heap.size w w' := by
  go_enter Try.func38, Try.ntmps38
  go_wp2_with fail
  refine (make_ok 4 _ 4 4 ps4 _ rfl (Pairs.new w ps4 _ _ rfl (by unfold okPs ps4; decide) (by decide)) mk4).mono ?_
  rintro e w1 ⟨rfl, hl, hb⟩
  have HL := Lib.hid hl
  have HB : Hid (Below w.heap.size w w1) := Lib.hid (((Below.refl _ _).alloc (Nat.le_refl _) _).trans (hb.mono (by simp)))
  have hz : w.heap.size < w1.heap.size := by have := hl.lt; simp at this; omega
  clear hl hb
  go_wp2_with fail
  rw [World.size_alloc] at *
  generalize w.heap.size + 1 = B at *
  refine (joinAll_r B 4 L4 _ [1, 2] (w1.heap.size + 1) _ (HL.out.alloc _) (IntsAt.new w1 [1, 2] _ 3 rfl (by decide) 2 2 rfl)).mono ?_
  rintro e w2 ⟨rfl, m2, rfl⟩
  rw [fv1]
  have HL2 := Lib.hid ((HL.out.alloc (.cells (ints [1, 2]).toArray 3)).drewN m2)
  have HB2 : Hid (Below w.heap.size w ((w1.alloc (.cells (ints [1, 2]).toArray 3)).drewN m2)) := Lib.hid (below_drewN (HB.out.alloc (by omega) _) m2)
  have hz2 : w.heap.size < ((w1.alloc (.cells (ints [1, 2]).toArray 3)).drewN m2).heap.size := by simp [World.drewN]; omega
  generalize (w1.alloc (.cells (ints [1, 2]).toArray 3)).drewN m2 = w2 at *
  clear HL HB hz
  go_wp2_with fail
  refine (meetAll_r B 4 L4 _ [] w2.heap.size _ HL2.out (IntsAt.nil _ _)).mono ?_
  rintro e w3 ⟨rfl, m3, rfl⟩
  rw [fv2]
  have HL3 := Lib.hid (HL2.out.drewN m3)
  have HB3 := Lib.hid (below_drewN HB2.out m3)
  have hz3 : w.heap.size < (w2.drewN m3).heap.size := hz2
  generalize w2.drewN m3 = w3 at *
  clear HL2 HB2 hz2
  go_wp2_with fail
  have hw4 : ∃ wa, wa = w3.alloc (.cells (pcells ps2).toArray 39) := ⟨_, rfl⟩
  obtain ⟨wa, hwa⟩ := hw4
  have hP := Pairs.new w3 ps2 _ 39 rfl (by unfold okPs ps2; decide) (by decide)
  rw [← hwa] at hP
  have hza : wa.heap.size = w3.heap.size + 1 := by rw [hwa, World.size_alloc]
  have hI := IntsAt.new wa [0, 2, 1] _ 3 rfl (by decide) 3 3 rfl
  have hP2 := (hP.below ((Below.refl wa.heap.size wa).alloc (Nat.le_refl _) (.cells (ints [0, 2, 1]).toArray 3))).more (B' := wa.heap.size + 1) (by omega)
  have hLA : LatR (wa.alloc (.cells (ints [0, 2, 1]).toArray 3)) B 4 L4 := by rw [hwa]; exact (HL3.out.alloc _).alloc _
  have hBA : Below w.heap.size w (wa.alloc (.cells (ints [0, 2, 1]).toArray 3)) := by
    have := (HB3.out.alloc (by omega) (.cells (pcells ps2).toArray 39))
    rw [← hwa] at this
    exact this.alloc (by omega) _
  rw [← World.size_alloc wa (.cells (ints [0, 2, 1]).toArray 3)] at hI hP2
  have hwb : (w3.alloc (.cells #[.int .i64 0, .int .i64 1, .int .i64 1, .int .i64 2] 39)).alloc (.cells #[.int .i64 0, .int .i64 2, .int .i64 1] 3) = wa.alloc (.cells (ints [0, 2, 1]).toArray 3) := by rw [hwa]; rfl
  rw [hwb, ← hza]
  have CR := raise_r B 4 L4 undef (.slice (some ⟨wa.heap.size, 0, none⟩) 3 3) ps2 [0, 2, 1] _ 2 _ hLA hP2 hI (by decide)
  refine CR.mono ?_
  rintro e w4 ⟨hb, (⟨h1, _⟩ | ⟨_, cv, rfl, hci⟩)⟩
  · rw [rsok] at h1; cases h1
  rw [rs4] at hci
  have HL4 := Lib.hid (hLA.here hb)
  have HC4 := Lib.hid hci
  have HB4 := Lib.hid (hBA.trans (hb.mono hBA.size))
  have hz4 : w.heap.size < w4.heap.size := by have h1 := hBA.size; have h2 := hb.size; rw [World.size_alloc] at h2; omega
  clear hb hci hwb hP2 hI hP hLA hBA CR HB3 HL3 hza hwa hz3
  go_wp2_with fail
  have e8 : ([0, 2] : List Int) == [0, 2] := by decide
  have e9 : ([0, 2, 3] : List Int) == [0, 2, 3] := by decide
  have e10 : ([2, 3] : List Int) == [2, 3] := by decide
  have E8 := Lib.hid e8
  have E9 := Lib.hid e9
  have E10 := Lib.hid e10
  clear e8 e9 e10
  have hi5 := IntsAt.new w4 [0, 2, 1, 3] _ 3 rfl (by decide) 4 4 rfl
  rw [← World.size_alloc w4 (.cells (ints [0, 2, 1, 3]).toArray 3)] at hi5
  refine (visible_r B 4 L4 1 _ [0, 2, 1, 3] _ (HL4.out.alloc _) hi5 (by decide)).mono ?_
  rintro e w5 ⟨vv, rfl, hown, hb⟩
  rw [vis4] at hown
  have hb5 : Below w4.heap.size w4 w5 := ((Below.refl _ _).alloc (Nat.le_refl _) _).trans (hb.mono (by simp))
  have HL5 := Lib.hid (HL4.out.here hb5)
  have HC5 := Lib.hid ((HC4.out.below hb5).more hb5.size)
  have HV5 := Lib.hid (IntsAt.of_own hown (by decide))
  have HB5 := Lib.hid (HB4.out.trans (hb5.mono (by omega)))
  have hz5 : w.heap.size < w5.heap.size := by have := hb5.size; omega
  clear hi5 hown hb hb5 HL4 HC4 HB4 hz4
  go_wp2_with fail
  refine (same_any vv _ [0, 2] [0, 2] (w5.heap.size + 1) _ ((HV5.out.below ((Below.refl w5.heap.size w5).alloc (Nat.le_refl _) _)).more (by omega)) (IntsAt.new w5 [0, 2] _ 3 rfl (by decide) 2 2 rfl)).mono ?_
  rintro e w6 ⟨rfl, m6, rfl⟩
  rw [E8.out]
  have HL6 := Lib.hid ((HL5.out.alloc (.cells (ints [0, 2]).toArray 3)).drewN m6)
  have HB6 : Hid (Below w.heap.size w ((w5.alloc (.cells (ints [0, 2]).toArray 3)).drewN m6)) := Lib.hid (below_drewN (HB5.out.alloc (by omega) _) m6)
  have HC6 : Hid (IntsAt ((w5.alloc (.cells (ints [0, 2]).toArray 3)).drewN m6) (w5.heap.size + 1) cv [0, 2, 3]) := Lib.hid (((HC5.out.below ((Below.refl w5.heap.size w5).alloc (Nat.le_refl _) _)).more (by omega)).drewN m6)
  have hz6 : w5.heap.size + 1 = ((w5.alloc (.cells (ints [0, 2]).toArray 3)).drewN m6).heap.size := by simp [World.drewN]
  rw [hz6] at HC6
  have hz7 : w.heap.size < ((w5.alloc (.cells (ints [0, 2]).toArray 3)).drewN m6).heap.size := by omega
  clear hz6
  generalize (w5.alloc (.cells (ints [0, 2]).toArray 3)).drewN m6 = w6 at *
  clear HL5 HB5 HC5 hz5
  go_wp2_with fail
  refine (same_any cv _ [0, 2, 3] [0, 2, 3] (w6.heap.size + 1) _ ((HC6.out.below ((Below.refl w6.heap.size w6).alloc (Nat.le_refl _) _)).more (by omega)) (IntsAt.new w6 [0, 2, 3] _ 3 rfl (by decide) 3 3 rfl)).mono ?_
  rintro e w7 ⟨rfl, m7, rfl⟩
  rw [E9.out]
  have HL7 := Lib.hid ((HL6.out.alloc (.cells (ints [0, 2, 3]).toArray 3)).drewN m7)
  have HB7 : Hid (Below w.heap.size w ((w6.alloc (.cells (ints [0, 2, 3]).toArray 3)).drewN m7)) := Lib.hid (below_drewN (HB6.out.alloc (by omega) _) m7)
  have hz8 : w.heap.size < ((w6.alloc (.cells (ints [0, 2, 3]).toArray 3)).drewN m7).heap.size := by simp [World.drewN]; omega
  generalize (w6.alloc (.cells (ints [0, 2, 3]).toArray 3)).drewN m7 = w7 at *
  clear HL6 HB6 HC6 hz7
  go_wp2_with fail
  refine (high_r B 4 L4 1 w7 HL7.out).mono ?_
  rintro e w8 ⟨hv, rfl, hown, hb⟩
  rw [high4] at hown
  have HV8 := Lib.hid (IntsAt.of_own hown (by decide))
  have HB8 := Lib.hid (HB7.out.trans (hb.mono (by omega)))
  have hz9 : w.heap.size < w8.heap.size := by have := hb.size; omega
  clear hown hb HL7 HB7 hz8
  go_wp2_with fail
  refine (same_any hv _ [2, 3] [2, 3] (w8.heap.size + 1) _ ((HV8.out.below ((Below.refl w8.heap.size w8).alloc (Nat.le_refl _) _)).more (by omega)) (IntsAt.new w8 [2, 3] _ 3 rfl (by decide) 2 2 rfl)).mono ?_
  rintro e w9 ⟨rfl, m9, rfl⟩
  rw [E10.out]
  have HB9 : Hid (Below w.heap.size w ((w8.alloc (.cells (ints [2, 3]).toArray 3)).drewN m9)) := Lib.hid (below_drewN (HB8.out.alloc (by omega) _) m9)
  generalize (w8.alloc (.cells (ints [2, 3]).toArray 3)).drewN m9 = w9 at *
  go_wp2
  go_ret
  exact ⟨rfl, HB9.out⟩

end Go.Proofs.Ytpikafadfailkaa
