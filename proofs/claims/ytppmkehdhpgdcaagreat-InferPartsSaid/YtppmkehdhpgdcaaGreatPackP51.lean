/- Parts of a proof: Reads, RReads. -/
import Derived.Maps.OwnSet
import Derived.Test.YtppmkehdhpgdcaaGreatPackP20
import Derived.Test.YtppmkehdhpgdcaaGreatPackP47
import Derived.Test.YtppmkehdhpgdcaaGreatPackP48
import Derived.Test.YtppmkehdhpgdcaaGreatPackP49
import Derived.Test.YtppmkehdhpgdcaaGreatPackP50
section
namespace Go.Proofs.YtppmkehdhpgdcaaGreat
open Go Go.RowKit
set_option linter.unusedVariables false
set_option linter.unusedSimpArgs false
def readL (t : ET) : List (List UInt8) := ((visE t 0).map fun s => s.data.toList).foldl putL []
set_option maxHeartbeats 2000000 in
set_option maxRecDepth 100000 in
theorem reads_any (t : ET) (cs : List Value) (w : World) (hv : ExpAt w w.heap.size cs t) : Calls Tryz.prog 15 #[.agg ⟨cs⟩] w fun e w' =>
    ∃ v base, e = .returned v ∧ w.heap.size ≤ base ∧ w'.ownsRow base 9 1 v (readL t).length ((readL t).map encStr) ∧ Below w.heap.size w w' := by
  have HB := Lib.hid (box_below w (.cells ⟨cs⟩ 30))
  have HR := Lib.hid (range_box w cs 30)
  have HS := Lib.hid (box_size w (.cells ⟨cs⟩ 30))
  have HV := Lib.hid ((hv.under HB.out).more HB.out.size)
  have hmm := @run_makeMap Tryz.prog
  clear hv
  go_enter Tryz.func15, Tryz.ntmps15
  go_upto_region 1 with (fail)
  generalize w.alloc (.cells ⟨cs⟩ 30) = W at *
  go_upto_region 2 with (fail)
  have HM : Hid (MapK (W.alloc (.map #[] 0)) W.heap.size 0 []) := Lib.hid ⟨.map [], World.ownsMap_made W _ _ _, fun x => by simp [Go.Maps.has]⟩
  have HB2 : Hid (Below W.heap.size W (W.alloc (.map #[] 0))) := Lib.hid (box_below W _)
  have HC := Lib.hid (gather_any t 0 cs w.heap.size 0 W.heap.size [] (W.alloc (.map #[] 0)) (by omega) (rangeAt_below HR.out HB2.out HS.out) HS.out (HV.out.under HB2.out) HM.out)
  go_upto_region 3 with (go_at_call 39; refine HC.out.mono ?_; rintro e w3 ⟨rfl, h1, h2⟩; have HM3 := Lib.hid h1; have HB3 := Lib.hid h2; clear h1 h2)
  obtain ⟨D, hown, hhas⟩ := HM3.out
  have HOWN := Lib.hid hown
  have hsz : Go.Maps.size D ≤ 500 := Nat.le_trans hown.size_le (cntE_le t 0 (by omega))
  have HSZ : Hid (Go.Maps.size D ≤ maxLen ∧ Go.Maps.size D * 16 ≤ 140737488355328) := Lib.hid ⟨by unfold maxLen; omega, by omega⟩
  have hrise := puts_rising ((visE t 0).map fun s => s.data.toList) [] List.Pairwise.nil
  have HPK : Hid ((readL t).Perm (strKeys D)) := Lib.hid (Collected.perm (left := fun _ => false) ⟨rising_nodup hrise, fun x => by rw [hhas x]; unfold readL; rw [puts_mem]; simp⟩ hown law9 Tryz.underlying9 (fun _ => rfl))
  have HRISE := Lib.hid hrise
  clear hown hhas hsz hrise
  go_wp2_with (first
    | (go_at_call 41; refine (Tryz.maps_Keys (some W.heap.size) w3).mono ?_; rintro e w4 ⟨rfl, h⟩; subst h)
    | (go_at_call 40; refine (Tryz.slices_Sorted W.heap.size _ D _ w3 HOWN.out HSZ.out.1 HSZ.out.2).mono ?_; rintro e w5 ⟨v, ss, rfl, hp, hrow, _, hb⟩; have HP := Lib.hid hp; have HROW := Lib.hid hrow; have HB5 := Lib.hid hb; clear hp hrow hb))
  go_ret
  have hperm : ss.Perm (readL t) := HP.out.trans HPK.out.symm
  have hsort : ss.mergeSort (fun x y => decide (x ≤ y)) = readL t := (mergeSort_of_perm hperm).trans (List.mergeSort_of_pairwise (HRISE.out.imp fun h => decide_eq_true (List.le_of_lt h)))
  have hrow := HROW.out
  rw [hsort, hperm.length_eq] at hrow
  have h4 := box_below w3 (.cells #[.map (some W.heap.size)] 83)
  have hw2 := HB.out.trans (HB2.out.mono HB.out.size)
  have hw3 := hw2.trans (HB3.out.mono HB.out.size)
  have hw4 := hw3.trans (h4.mono hw3.size)
  exact ⟨v, _, rfl, hw4.size, hrow, hw4.trans (HB5.out.mono hw4.size)⟩
end Go.Proofs.YtppmkehdhpgdcaaGreat
end
section
namespace Go.Proofs.YtppmkehdhpgdcaaGreat
open Go Go.RowKit
set_option linter.unusedVariables false
set_option linter.unusedSimpArgs false
theorem visEL_len : ∀ (l : List ET) (n : Nat), (∀ x ∈ l, ∀ m, m < 500 → m + (visE x m).length ≤ cntE x m) → n ≤ 500 → n + (visEL l n).length ≤ cntEL l n
  | [], n, _, _ => by rw [visEL, cntEL]; simp
  | a :: l, n, h, hn => by
    rw [visEL, cntEL]
    by_cases h5 : 500 ≤ n
    · rw [if_pos h5, if_pos h5]; simp
    · rw [if_neg h5, if_neg h5, List.length_append]
      have h1 := h a List.mem_cons_self n (by omega)
      have h2 := visEL_len l (cntE a n) (fun x hx => h x (List.mem_cons_of_mem _ hx)) (cntE_le a n (by omega))
      omega
theorem visE_len (t : ET) : ∀ m, m < 500 → m + (visE t m).length ≤ cntE t m := by
  induction t using ET.ind with
  | h k s v ns its ih =>
    intro m hm
    rw [visE, cntE]
    have h := visEL_len its (m + 1) ih (by omega)
    have : (if k = 2 then [s] else ([] : List ByteArray)).length ≤ 1 := by split <;> simp
    rw [List.length_append]; omega
end Go.Proofs.YtppmkehdhpgdcaaGreat
end
