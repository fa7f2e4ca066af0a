/- The document's label layer: All. -/
import Derived.Test.YtpikafadfailkaaLabel3
namespace Go.Proofs.Ytpikafadfailkaa
open Go.RowKit P

def rallV (n : Nat) (L : Rel) (x : Nat) (l : List Int) : Int := if allL n l then foldJ n L x l else -1

set_option maxHeartbeats 2000000 in
theorem rall_join (n : Nat) (L : Rel) (v : Value) (l : List Int) (w : World) (h8 : n ≤ 8) (hL : Lat n L) (hl : IntsAt w w.heap.size v l) :
    Calls Try.prog 41 #[.agg (rv n L), v, .bool false] w fun e w' => e = .returned (.int .i64 (rallV n L (bot n L) l)) ∧ Below w.heap.size w w' := by
  have HI0 := Lib.hid hl
  obtain ⟨hlen, A, c, rfl, hcell⟩ := hl
  have HM := Lib.hid (Rm.new w n L 27)
  have HB := Lib.hid ((Below.refl w.heap.size w).alloc (Nat.le_refl _) (.cells (rv n L) 27))
  have HS : w.heap.size < (w.alloc (.cells (rv n L) 27)).heap.size := by simp
  have HL := Lib.hid hL
  have hx := hL.bot_lt
  clear hcell hL
  go_enter Try.func41, Try.ntmps41
  go_wp2_with (refine wl_rload _ rfl ?hw w.heap.size n L rfl HM.out ?_; case hw => first | (simp [Region.wanted]; done) | (go_simp; done))
  generalize w.alloc (.cells (rv n L) 27) = W at *
  refine (rbottom_any n L W h8 HL.out).mono ?_
  rintro e W2 ⟨rfl, hb⟩
  have HB2 := Lib.hid (HB.out.trans (hb.mono HB.out.size))
  have HM2 := Lib.hid (HM.out.below hb HS)
  have HS2 := Nat.lt_of_lt_of_le HS hb.size
  clear hb HB HM HS
  go_wp2
  go_loopg [7, 8] l.length (fun g y i wr => ∃ k : Nat, k + g = l.length ∧ i = .int .i64 k ∧ y = .int .i64 (foldJ n L (bot n L) (l.take k)) ∧ allL n (l.take k) = true ∧ Rm wr w.heap.size n L ∧ Below w.heap.size w wr ∧ w.heap.size < wr.heap.size)
  case atStart => exact ⟨0, by omega, rfl, rfl, rfl, HM2.out, HB2.out, HS2⟩
  case round =>
    obtain ⟨k, hk, rfl, rfl, hall, hm, hb, hs⟩ := hrel
    have HA := Lib.hid hall
    have HM1 := Lib.hid hm
    have HB1 := Lib.hid hb
    clear hm hb
    cases gk with
    | zero =>
      have hge : ¬ ((k : Int) < (l.length : Int)) := by omega
      clear hall
      have HV : Hid (rallV n L (bot n L) l = foldJ n L (bot n L) (l.take k)) := by
        refine Lib.hid ?_
        have h1 := HA.out
        rw [List.take_of_length_le (by omega)] at h1 ⊢
        unfold rallV; rw [if_pos h1]
      go_wp2
      go_ret
      exact ⟨by rw [HV.out]; rfl, HB1.out⟩
    | succ g =>
      have hlt : (k : Int) < (l.length : Int) := by omega
      obtain ⟨a, ha⟩ : ∃ a, l[k]? = some a := ⟨_, List.getElem?_eq_getElem (by omega)⟩
      obtain ⟨_, A2, c2, hv, hcell⟩ := HI0.out.below HB1.out
      cases hv
      obtain ⟨bb, o, rfl, hbb, hc⟩ := hcell (by omega)
      have d : ∀ z : Wb wr, z.wd.cell? ⟨bb, o + k, none⟩ = some (.int .i64 a) := fun z => (z.h.cell (p := ⟨bb, o + k, none⟩) (show bb < _ by omega)).trans (hc k a ha)
      have HT := Lib.hid (take_snoc ha)
      have HAN := Lib.hid (allL_take ha hall)
      have HNO := Lib.hid (fun h => allL_no (n := n) ha h)
      have HF := Lib.hid (foldJ_lt HL.out _ (bot n L) hx hall)
      have HIS := Lib.hid (fun u => ris_any n L a u)
      clear hc ha hall hcell
      go_wp2
      refine wp_region_wb (by kernel_rfl) (by kernel_rfl) ?_
      repeat
        first
        | (go_big_quiet_want; refine quiet_rload _ _ rfl rfl w.heap.size n L rfl ?hm ?_; (case hm => (rintro u ⟨z, rfl⟩; exact HM1.out.wb hs z)); go_frame; go_big_quiet_on)
        | go_big_quiet_step ((go_at_call 17; exact q_wb (HIS.out _)))
      refine wpQuiet_nil ?_
      rintro u ⟨z, rfl⟩
      have HB2 := Lib.hid z.h
      have HM2 := Lib.hid (HM1.out.wb hs z)
      have hs2 := Nat.lt_of_lt_of_le hs z.h.size
      have d2 : ∀ y : Wb z.wd, y.wd.cell? ⟨bb, o + k, none⟩ = some (.int .i64 a) := fun y => (y.h.cell (p := ⟨bb, o + k, none⟩) (show bb < _ by omega)).trans (d z)
      clear d HIS
      cases hla : isL n a with
      | false =>
        have HV : Hid (rallV n L (bot n L) l = -1) := Lib.hid (by unfold rallV; rw [HNO.out hla]; rfl)
        clear hla
        go_wp2
        go_ret
        exact ⟨by rw [HV.out]; rfl, HB1.out.trans (HB2.out.mono (by omega))⟩
      | true =>
        have HLA := Lib.hid hla
        obtain ⟨y, rfl, hy⟩ := isL_true hla
        have hc := fun u => rjoin_any n L (foldJ n L (bot n L) (l.take k)) y u h8 (by have := HF.out; omega) (by omega)
        rw [(HL.out.jj_spec HF.out hy).1] at hc
        have HC := Lib.hid hc
        clear hla hc
        go_wp2
        refine wp_region_wb (by kernel_rfl) (by kernel_rfl) ?_
        repeat
          first
          | (go_big_quiet_want; refine quiet_rload _ _ rfl rfl w.heap.size n L rfl ?hm ?_; (case hm => (rintro u ⟨z, rfl⟩; exact HM2.out.wb hs2 z)); go_frame; go_big_quiet_on)
          | go_big_quiet_step ((go_at_call 27; exact q_wb (HC.out _)))
        refine wpQuiet_nil ?_
        rintro u ⟨z2, rfl⟩
        have HB3 := Lib.hid z2.h
        have HM3 := Lib.hid (HM2.out.wb hs2 z2)
        go_wp2
        go_roundg g
        case measure => omega
        case rel =>
          have e1 := HB2.out.size
          have e2 := HB3.out.size
          exact ⟨k + 1, by omega, by go_num, by rw [HT.out, foldJ_snoc]; rfl, by rw [HAN.out]; exact HLA.out, HM3.out, (HB1.out.trans (HB2.out.mono (by omega))).trans (HB3.out.mono (by omega)), by omega⟩

set_option maxHeartbeats 2000000 in
theorem rall_meet (n : Nat) (L : Rel) (v : Value) (l : List Int) (w : World) (h8 : n ≤ 8) (hL : Lat n L) (hl : IntsAt w w.heap.size v l) :
    Calls Try.prog 41 #[.agg (rv n L), v, .bool true] w fun e w' => e = .returned (.int .i64 (rallV n (opp L) (top n L) l)) ∧ Below w.heap.size w w' := by
  have HI0 := Lib.hid hl
  obtain ⟨hlen, A, c, rfl, hcell⟩ := hl
  have HM := Lib.hid (Rm.new w n L 27)
  have HB := Lib.hid ((Below.refl w.heap.size w).alloc (Nat.le_refl _) (.cells (rv n L) 27))
  have HS : w.heap.size < (w.alloc (.cells (rv n L) 27)).heap.size := by simp
  have HL := Lib.hid hL
  have hx := hL.top_lt
  clear hcell hL
  go_enter Try.func41, Try.ntmps41
  go_wp2_with (refine wl_rload _ rfl ?hw w.heap.size n L rfl HM.out ?_; case hw => first | (simp [Region.wanted]; done) | (go_simp; done))
  generalize w.alloc (.cells (rv n L) 27) = W at *
  refine (rbottom_any n L W h8 HL.out).mono ?_
  rintro e W2 ⟨rfl, hb⟩
  have HB2 := Lib.hid (HB.out.trans (hb.mono HB.out.size))
  have HM2 := Lib.hid (HM.out.below hb HS)
  have HS2 := Nat.lt_of_lt_of_le HS hb.size
  clear hb HB HM HS
  go_wp2_with (refine wl_rload _ rfl ?hw w.heap.size n L rfl HM2.out ?_; case hw => first | (simp [Region.wanted]; done) | (go_simp; done))
  refine (rtop_any n L W2 h8 HL.out).mono ?_
  rintro e W3 ⟨rfl, hb⟩
  have HB3 := Lib.hid (HB2.out.trans (hb.mono HB2.out.size))
  have HM3 := Lib.hid (HM2.out.below hb HS2)
  have HS3 := Nat.lt_of_lt_of_le HS2 hb.size
  clear hb HB2 HM2 HS2
  go_wp2
  go_loopg [7, 8] l.length (fun g y i wr => ∃ k : Nat, k + g = l.length ∧ i = .int .i64 k ∧ y = .int .i64 (foldJ n (opp L) (top n L) (l.take k)) ∧ allL n (l.take k) = true ∧ Rm wr w.heap.size n L ∧ Below w.heap.size w wr ∧ w.heap.size < wr.heap.size)
  case atStart => exact ⟨0, by omega, rfl, rfl, rfl, HM3.out, HB3.out, HS3⟩
  case round =>
    obtain ⟨k, hk, rfl, rfl, hall, hm, hb, hs⟩ := hrel
    have HA := Lib.hid hall
    have HM1 := Lib.hid hm
    have HB1 := Lib.hid hb
    clear hm hb
    cases gk with
    | zero =>
      have hge : ¬ ((k : Int) < (l.length : Int)) := by omega
      clear hall
      have HV : Hid (rallV n (opp L) (top n L) l = foldJ n (opp L) (top n L) (l.take k)) := by
        refine Lib.hid ?_
        have h1 := HA.out
        rw [List.take_of_length_le (by omega)] at h1 ⊢
        unfold rallV; rw [if_pos h1]
      go_wp2
      go_ret
      exact ⟨by rw [HV.out]; rfl, HB1.out⟩
    | succ g =>
      have hlt : (k : Int) < (l.length : Int) := by omega
      obtain ⟨a, ha⟩ : ∃ a, l[k]? = some a := ⟨_, List.getElem?_eq_getElem (by omega)⟩
      obtain ⟨_, A2, c2, hv, hcell⟩ := HI0.out.below HB1.out
      cases hv
      obtain ⟨bb, o, rfl, hbb, hc⟩ := hcell (by omega)
      have d : ∀ z : Wb wr, z.wd.cell? ⟨bb, o + k, none⟩ = some (.int .i64 a) := fun z => (z.h.cell (p := ⟨bb, o + k, none⟩) (show bb < _ by omega)).trans (hc k a ha)
      have HT := Lib.hid (take_snoc ha)
      have HAN := Lib.hid (allL_take ha hall)
      have HNO := Lib.hid (fun h => allL_no (n := n) ha h)
      have HF := Lib.hid (foldJ_lt HL.out.dual _ (top n L) hx hall)
      have HIS := Lib.hid (fun u => ris_any n L a u)
      clear hc ha hall hcell
      go_wp2
      refine wp_region_wb (by kernel_rfl) (by kernel_rfl) ?_
      repeat
        first
        | (go_big_quiet_want; refine quiet_rload _ _ rfl rfl w.heap.size n L rfl ?hm ?_; (case hm => (rintro u ⟨z, rfl⟩; exact HM1.out.wb hs z)); go_frame; go_big_quiet_on)
        | go_big_quiet_step ((go_at_call 17; exact q_wb (HIS.out _)))
      refine wpQuiet_nil ?_
      rintro u ⟨z, rfl⟩
      have HB2 := Lib.hid z.h
      have HM2 := Lib.hid (HM1.out.wb hs z)
      have hs2 := Nat.lt_of_lt_of_le hs z.h.size
      have d2 : ∀ y : Wb z.wd, y.wd.cell? ⟨bb, o + k, none⟩ = some (.int .i64 a) := fun y => (y.h.cell (p := ⟨bb, o + k, none⟩) (show bb < _ by omega)).trans (d z)
      clear d HIS
      cases hla : isL n a with
      | false =>
        have HV : Hid (rallV n (opp L) (top n L) l = -1) := Lib.hid (by unfold rallV; rw [HNO.out hla]; rfl)
        clear hla
        go_wp2
        go_ret
        exact ⟨by rw [HV.out]; rfl, HB1.out.trans (HB2.out.mono (by omega))⟩
      | true =>
        have HLA := Lib.hid hla
        obtain ⟨y, rfl, hy⟩ := isL_true hla
        have hc := fun u => rmeet_any n L (foldJ n (opp L) (top n L) (l.take k)) y u h8 (by have := HF.out; omega) (by omega)
        rw [(HL.out.mm_spec HF.out hy).1] at hc
        have HC := Lib.hid hc
        clear hla hc
        go_wp2
        refine wp_region_wb (by kernel_rfl) (by kernel_rfl) ?_
        repeat
          first
          | (go_big_quiet_want; refine quiet_rload _ _ rfl rfl w.heap.size n L rfl ?hm ?_; (case hm => (rintro u ⟨z, rfl⟩; exact HM2.out.wb hs2 z)); go_frame; go_big_quiet_on)
          | go_big_quiet_step ((go_at_call 28; exact q_wb (HC.out _)))
        refine wpQuiet_nil ?_
        rintro u ⟨z2, rfl⟩
        have HB3 := Lib.hid z2.h
        have HM3 := Lib.hid (HM2.out.wb hs2 z2)
        go_wp2
        go_roundg g
        case measure => omega
        case rel =>
          have e1 := HB2.out.size
          have e2 := HB3.out.size
          exact ⟨k + 1, by omega, by go_num, by rw [HT.out, foldJ_snoc]; rfl, by rw [HAN.out]; exact HLA.out, HM3.out, (HB1.out.trans (HB2.out.mono (by omega))).trans (HB3.out.mono (by omega)), by omega⟩

end Go.Proofs.Ytpikafadfailkaa
