/- Parts of a proof: Reads, RReads. -/
import Derived.Maps.OwnSet
import Derived.Test.YtppmkehdhpgdcaaGreatPack16
import Derived.Test.YtppmkehdhpgdcaaGreatPack36
import Derived.Test.YtppmkehdhpgdcaaGreatPack37
import Derived.Test.YtppmkehdhpgdcaaGreatPack38
import Derived.Test.YtppmkehdhpgdcaaGreatPack40
section
namespace Go.Proofs.YtppmkehdhpgdcaaGreat
open Go Go.RowKit
set_option linter.unusedVariables false
set_option linter.unusedSimpArgs false
def readL (t : ET) : List (List UInt8) := ((visE t 0).map fun s => s.data.toList).foldl putL []
set_option maxHeartbeats 2000000 in
set_option maxRecDepth 100000 in
theorem reads_any (t : ET) (cs : List Value) (w : World) (hv : ExpAt w w.heap.size cs t) : Calls Tryz.prog 15 #[.agg ⟨cs⟩] w fun e w' =>
    ∃ v base, e = .returned v ∧ w.heap.size ≤ base ∧ w'.ownsRow base 9 1 v (readL t).length ((readL t).map encStr) ∧ Below w.heap.size w w' := by
  have HB := Lib.hid (box_below w (.cells ⟨cs⟩ 30))
  have HR := Lib.hid (range_box w cs 30)
  have HS := Lib.hid (box_size w (.cells ⟨cs⟩ 30))
  have HV := Lib.hid ((hv.under HB.out).more HB.out.size)
  have hmm := @run_makeMap Tryz.prog
  clear hv
  go_enter Tryz.func15, Tryz.ntmps15
  go_upto_region 1 with (fail)
  generalize w.alloc (.cells ⟨cs⟩ 30) = W at *
  go_upto_region 2 with (fail)
  have HM : Hid (MapK (W.alloc (.map #[] 0)) W.heap.size 0 []) := Lib.hid ⟨.map [], World.ownsMap_made W _ _ _, fun x => by simp [Go.Maps.has]⟩
  have HB2 : Hid (Below W.heap.size W (W.alloc (.map #[] 0))) := Lib.hid (box_below W _)
  have HC := Lib.hid (gather_any t 0 cs w.heap.size 0 W.heap.size [] (W.alloc (.map #[] 0)) (by omega) (rangeAt_below HR.out HB2.out HS.out) HS.out (HV.out.under HB2.out) HM.out)
  go_upto_region 3 with (go_at_call 39; refine HC.out.mono ?_; rintro e w3 ⟨rfl, h1, h2⟩; have HM3 := Lib.hid h1; have HB3 := Lib.hid h2; clear h1 h2)
  obtain ⟨D, hown, hhas⟩ := HM3.out
  have HOWN := Lib.hid hown
  have hsz : Go.Maps.size D ≤ 500 := Nat.le_trans hown.size_le (cntE_le t 0 (by omega))
  have HSZ : Hid (Go.Maps.size D ≤ maxLen ∧ Go.Maps.size D * 16 ≤ 140737488355328) := Lib.hid ⟨by unfold maxLen; omega, by omega⟩
  have hrise := puts_rising ((visE t 0).map fun s => s.data.toList) [] List.Pairwise.nil
  have HPK : Hid ((readL t).Perm (strKeys D)) := Lib.hid (Collected.perm (left := fun _ => false) ⟨rising_nodup hrise, fun x => by rw [hhas x]; unfold readL; rw [puts_mem]; simp⟩ hown law9 Tryz.underlying9 (fun _ => rfl))
  have HRISE := Lib.hid hrise
  clear hown hhas hsz hrise
  go_wp2_with (first
    | (go_at_call 41; refine (Tryz.maps_Keys (some W.heap.size) w3).mono ?_; rintro e w4 ⟨rfl, h⟩; subst h)
    | (go_at_call 40; refine (Tryz.slices_Sorted W.heap.size _ D _ w3 HOWN.out HSZ.out.1 HSZ.out.2).mono ?_; rintro e w5 ⟨v, ss, rfl, hp, hrow, _, hb⟩; have HP := Lib.hid hp; have HROW := Lib.hid hrow; have HB5 := Lib.hid hb; clear hp hrow hb))
  go_ret
  have hperm : ss.Perm (readL t) := HP.out.trans HPK.out.symm
  have hsort : ss.mergeSort (fun x y => decide (x ≤ y)) = readL t := (mergeSort_of_perm hperm).trans (List.mergeSort_of_pairwise (HRISE.out.imp fun h => decide_eq_true (List.le_of_lt h)))
  have hrow := HROW.out
  rw [hsort, hperm.length_eq] at hrow
  have h4 := box_below w3 (.cells #[.map (some W.heap.size)] 83)
  have hw2 := HB.out.trans (HB2.out.mono HB.out.size)
  have hw3 := hw2.trans (HB3.out.mono HB.out.size)
  have hw4 := hw3.trans (h4.mono hw3.size)
  exact ⟨v, _, rfl, hw4.size, hrow, hw4.trans (HB5.out.mono hw4.size)⟩
end Go.Proofs.YtppmkehdhpgdcaaGreat
end
section
namespace Go.Proofs.YtppmkehdhpgdcaaGreat
open Go Go.RowKit
set_option linter.unusedVariables false
set_option linter.unusedSimpArgs false
theorem putBs_len : ∀ (xs l : List ByteArray), (xs.foldl putB l).length ≤ l.length + xs.length
  | [], l => by simp
  | s :: xs, l => by
    have h1 := putBs_len xs (putB l s)
    have h2 := putB_len s l
    simp only [List.foldl_cons, List.length_cons]; omega
theorem putBs_txt : ∀ (xs l : List ByteArray), (xs.foldl putB l).map txt = (xs.map txt).foldl putL (l.map txt)
  | [], l => rfl
  | s :: xs, l => by simp only [List.foldl_cons, List.map_cons]; rw [putBs_txt xs, putB_txt]
theorem visEL_len : ∀ (l : List ET) (n : Nat), (∀ x ∈ l, ∀ m, m < 500 → m + (visE x m).length ≤ cntE x m) → n ≤ 500 → n + (visEL l n).length ≤ cntEL l n
  | [], n, _, _ => by rw [visEL, cntEL]; simp
  | a :: l, n, h, hn => by
    rw [visEL, cntEL]
    by_cases h5 : 500 ≤ n
    · rw [if_pos h5, if_pos h5]; simp
    · rw [if_neg h5, if_neg h5, List.length_append]
      have h1 := h a List.mem_cons_self n (by omega)
      have h2 := visEL_len l (cntE a n) (fun x hx => h x (List.mem_cons_of_mem _ hx)) (cntE_le a n (by omega))
      omega
theorem visE_len (t : ET) : ∀ m, m < 500 → m + (visE t m).length ≤ cntE t m := by
  induction t using ET.ind with
  | h k s v ns its ih =>
    intro m hm
    rw [visE, cntE]
    have h := visEL_len its (m + 1) ih (by omega)
    have : (if k = 2 then [s] else ([] : List ByteArray)).length ≤ 1 := by split <;> simp
    rw [List.length_append]; omega
set_option maxHeartbeats 4000000 in
set_option maxRecDepth 100000 in
theorem rreads_in : ∀ (t : ET) (n : Nat) (L : List ByteArray) (cs : List Value) (v : Value) (w : World), n < 500 → L.length ≤ n → ExpAt w w.heap.size cs t → SlAt w w.heap.size 1 (Enc encB) v L → (∀ A n c, v = .slice A n c → n ≤ c) →
    Calls Tryz.prog 42 #[.agg ⟨cs⟩, v, .int .i64 n] w fun e w' => ∃ v', e = .returned (.tuple #[v', .int .i64 (cntE t n : Nat)]) ∧ SlAt w' w'.heap.size 1 (Enc encB) v' ((visE t n).foldl putB L) ∧ (∀ A n c, v' = .slice A n c → n ≤ c) ∧ Below w.heap.size w w' := by
  intro t
  induction t using ET.ind with
  | h k s vt ns its ih =>
    intro n L cs v w hn hL hv hs hcap
    have IH := Lib.hid ih
    obtain ⟨v0, v1, v2, v3, v4, v5, vn0, vi0, rfl, _, _, _, _, hil, hi⟩ := hv.inv
    obtain ⟨_, A, c, rfl, hA⟩ := hi
    have HA := Lib.hid hA
    have HB := Lib.hid (box_below w (.cells ⟨[.int .i64 k, .string s, v0, v1, v2, v3, v4, v5, vn0, .slice A its.length c]⟩ 30))
    have HSZ := Lib.hid (box_size w (.cells ⟨[.int .i64 k, .string s, v0, v1, v2, v3, v4, v5, vn0, .slice A its.length c]⟩ 30))
    have D := cells_box w [.int .i64 k, .string s, v0, v1, v2, v3, v4, v5, vn0, .slice A its.length c] 30
    have d0 := D 0 _ rfl
    have d1 := D 1 _ rfl
    have D9 := Lib.hid (D 9 _ rfl)
    have HV := Lib.hid ((hs.below HB.out (R' := Enc encB) fun _ _ _ h => h).more HB.out.size)
    have HCAP := Lib.hid hcap
    have HE : Hid (cntE (.mk k s vt ns its) n = cntEL its (n + 1)) := Lib.hid (by rw [cntE])
    have HVE : Hid (visE (.mk k s vt ns its) n = (if k = 2 then [s] else []) ++ visEL its (n + 1)) := Lib.hid (by rw [visE])
    generalize cntE (.mk k s vt ns its) n = res at *
    generalize visE (.mk k s vt ns its) n = vis at *
    obtain ⟨_, VA, vc, rfl, _⟩ := hs
    have hn2 : (n : Int) < 500 := by omega
    unfold maxLen at hil
    clear hv ih hA D hcap
    go_enter Tryz.func42, Tryz.ntmps42
    go_upto_region 1 with (fail)
    generalize w.alloc (.cells ⟨[.int .i64 k, .string s, v0, v1, v2, v3, v4, v5, vn0, .slice A its.length c]⟩ 30) = W at *
    go_upto_region 2 with (fail)
    obtain ⟨L1, hL1⟩ : ∃ L1, (if k = 2 then [s] else ([] : List ByteArray)).foldl putB L = L1 := ⟨_, rfl⟩
    have HL1 : Hid (L1.length ≤ n + 1) := Lib.hid (by
      rw [← hL1]
      have := putBs_len (if k = 2 then [s] else ([] : List ByteArray)) L
      have h2 : (if k = 2 then [s] else ([] : List ByteArray)).length ≤ 1 := by split <;> simp
      omega)
    have HFV : Hid (vis.foldl putB L = (visEL its (n + 1)).foldl putB L1) := Lib.hid (by rw [HVE.out, List.foldl_append, hL1])
    obtain ⟨FV, hFV⟩ : ∃ F, vis.foldl putB L = F := ⟨_, rfl⟩
    rw [hFV] at HFV
    have HFE := Lib.hid hFV
    clear hFV
    have HL1E := Lib.hid hL1
    clear hL1
    go_upto_if 13 with (fail)
    go_cut [1] (fun v z => Below W.heap.size W z ∧ SlAt z z.heap.size 1 (Enc encB) v L1 ∧ ∀ A n c, v = .slice A n c → n ≤ c)
    case first =>
      by_cases hk : k = 2
      · subst hk
        have HC := Lib.hid (rput_any L s _ W HV.out (by omega) HCAP.out)
        have HE1 : Hid (putB L s = L1) := Lib.hid (by have := HL1E.out; rw [if_pos rfl] at this; exact this)
        go_wp2_with (go_at_call 70; refine HC.out.mono ?_; rintro e z ⟨v', rfl, h1, h2, h3⟩; have HH := Lib.hid (And.intro h3 (And.intro h1 h2)); clear h1 h2 h3)
        go_meet
        case rel => exact ⟨HH.out.1, by rw [← HE1.out]; exact HH.out.2.1, HH.out.2.2⟩
      · have hk2 : (k == 2) = false := by simpa using hk
        have HE1 : Hid (L = L1) := Lib.hid (by have := HL1E.out; rw [if_neg hk] at this; exact this)
        go_wp2
        go_meet
        case rel => exact ⟨Below.refl _ _, by rw [← HE1.out]; exact HV.out, HCAP.out⟩
    case rest =>
      obtain ⟨hb0, hs0, hc0⟩ := hcut
      have HS0 := Lib.hid (And.intro hs0 hc0)
      have HB0 := Lib.hid hb0
      clear hb0 hs0 hc0 d0 d1 HV HCAP
      go_wp2
      go_loopg [1, 2, 8] its.length (fun g u q i wr => ∃ (j m : Nat) (M : List ByteArray), j + g = its.length ∧ i = .int .i64 j ∧ q = .int .i64 m ∧ m ≤ 500 ∧ M.length ≤ m ∧ Below W.heap.size W wr ∧ cntEL (its.drop j) m = res ∧ (visEL (its.drop j) m).foldl putB M = FV ∧ SlAt wr wr.heap.size 1 (Enc encB) u M ∧ ∀ A n c, u = .slice A n c → n ≤ c)
      case atStart => exact ⟨0, n + 1, L1, by omega, rfl, by go_num, by omega, HL1.out, HB0.out, HE.out.symm, HFV.out.symm, HS0.out.1, HS0.out.2⟩
      case round =>
        obtain ⟨j, m, M, hj, rfl, rfl, hm5, hML, hb, hres, hfv, hsl, hcp⟩ := hrel
        have HB1 := Lib.hid hb
        have HR := Lib.hid hres
        have HF := Lib.hid hfv
        have HM := Lib.hid hML
        have HSL := Lib.hid (And.intro hsl hcp)
        obtain ⟨_, UA, uc, rfl, _⟩ := hsl
        have d9 := (hb.cell (p := ⟨w.heap.size, 9, none⟩) HSZ.out).trans D9.out
        clear hb hres hfv hcp hML
        have hm5' : (m : Int) ≤ 500 := by omega
        cases gk with
        | zero =>
          obtain rfl : j = its.length := by omega
          have hge : ¬ ((its.length : Int) < (its.length : Int)) := by omega
          have HV1 := Lib.hid (HR.out.symm.trans cntEL_end)
          have HV2 : Hid (FV = M) := Lib.hid (by have := HF.out; rw [visEL_end] at this; exact this.symm)
          go_wp2
          go_ret2
          exact ⟨_, by rw [HV1.out]; rfl, by rw [HFE.out, HV2.out]; exact HSL.out.1, HSL.out.2, HB.out.trans (HB1.out.mono HB.out.size)⟩
        | succ g =>
          have hlt : (j : Int) < (its.length : Int) := by omega
          by_cases h0 : m < 500
          · have hB2 := HB.out.trans (HB1.out.mono HB.out.size)
            obtain ⟨y, hy⟩ : ∃ y, its[j]? = some y := ⟨_, List.getElem?_eq_getElem (by omega)⟩
            obtain ⟨b, ob, rfl, hbb, hc⟩ := HA.out (by omega)
            obtain ⟨ks, hkl, hr, hR⟩ := hc j y hy
            have HV1 := Lib.hid (HR.out.symm.trans ((cntEL_step hy).trans (if_neg (by omega))))
            have HV2 : Hid ((visEL (its.drop (j + 1)) (cntE y m)).foldl putB ((visE y m).foldl putB M) = FV) := Lib.hid (by rw [← List.foldl_append]; have := visEL_step (n := m) hy; rw [if_neg (by omega)] at this; rw [← this]; exact HF.out)
            have HR1 := Lib.hid (rangeAt_below hr hB2 hbb)
            have HCL := Lib.hid hkl
            have HC := Lib.hid (IH.out y (List.mem_of_getElem? hy) m M ks _ wr h0 HM.out ((hR.under hB2).more hB2.size) HSL.out.1 HSL.out.2)
            have hle := cntE_le y m h0
            have HLEN : Hid (((visE y m).foldl putB M).length ≤ cntE y m) := Lib.hid (by have h1 := putBs_len (visE y m) M; have h2 := visE_len y m h0; have h3 := HM.out; omega)
            have h0' : (m : Int) < 500 := by omega
            clear hc hr hR hB2 hy h0 hkl
            go_wp2_with (first | ((with_reducible refine wl_sload 30 _ rfl ?hwa b (ob + j * 10) ks _ rfl HR1.out Tryz.underlying30 rfl ?hia ?_); (case hwa => (first | exact wanted_none rfl | exact wanted_if rfl rfl rfl rfl)); (case hia => rw [HCL.out]; kernel_rfl)) | (go_at_call 42; refine HC.out.mono ?_; rintro e w' ⟨v', rfl, h1, h2, h3⟩; have HH := Lib.hid (And.intro h3 (And.intro h1 h2)); clear h1 h2 h3))
            go_roundg g
            case measure => omega
            case rel => exact ⟨j + 1, _, (visE y m).foldl putB M, by omega, by go_num, rfl, hle, HLEN.out, HB1.out.trans (HH.out.1.mono HB1.out.size), HV1.out.symm, HV2.out, HH.out.2.1, HH.out.2.2⟩
          · have hm500 : m = 500 := by omega
            have HV1 : Hid (res = m) := Lib.hid (HR.out.symm.trans (by cases its.drop j with | nil => rw [cntEL] | cons a l => rw [cntEL, if_pos (by omega)]))
            have HV2 : Hid (FV = M) := Lib.hid (by have := HF.out; rw [visEL_far (by omega)] at this; exact this.symm)
            have h0' : ¬ ((m : Int) < 500) := by omega
            clear hm500
            go_wp2
            all_goals
              go_ret2
              exact ⟨_, by rw [HV1.out]; rfl, by rw [HFE.out, HV2.out]; exact HSL.out.1, HSL.out.2, HB.out.trans (HB1.out.mono HB.out.size)⟩
set_option maxHeartbeats 1000000 in
set_option maxRecDepth 100000 in
theorem rreads_any (t : ET) (cs : List Value) (w : World) (hv : ExpAt w w.heap.size cs t) : Calls Tryz.prog 16 #[.agg ⟨cs⟩] w fun e w' =>
    ∃ (v : Value) (M : List ByteArray), e = .returned v ∧ SlAt w' w'.heap.size 1 (Enc encB) v M ∧ M.map txt = readL t ∧ Below w.heap.size w w' := by
  have HCL := Lib.hid (eslen hv)
  have HB := Lib.hid (box_below w (.cells ⟨cs⟩ 30))
  have HR := Lib.hid (range_box w cs 30)
  have HV := Lib.hid ((hv.under HB.out).more HB.out.size)
  clear hv
  go_enter Tryz.func16, Tryz.ntmps16
  go_upto_region 1 with (fail)
  generalize w.alloc (.cells ⟨cs⟩ 30) = W at *
  have HC := Lib.hid (rreads_in t 0 [] cs (.slice none 0 0) W (by omega) (by simp) HV.out (SlAt.nil _ _ _ _) (fun A n c h => by cases h; exact Nat.le_refl _))
  go_wp2_with (first | ((with_reducible refine wl_sload 30 _ rfl ?hwa w.heap.size 0 cs _ rfl HR.out Tryz.underlying30 rfl ?hia ?_); (case hwa => (first | exact wanted_none rfl | exact wanted_if rfl rfl rfl rfl)); (case hia => rw [HCL.out]; kernel_rfl)) | (go_at_call 42; refine HC.out.mono ?_; rintro e w' ⟨v', rfl, h1, h2, h3⟩; have HH := Lib.hid (And.intro h3 (And.intro h1 h2)); clear h1 h2 h3))
  go_ret
  exact ⟨_, _, rfl, HH.out.2.1, by rw [putBs_txt]; rfl, HB.out.trans (HH.out.1.mono HB.out.size)⟩
end Go.Proofs.YtppmkehdhpgdcaaGreat
end
