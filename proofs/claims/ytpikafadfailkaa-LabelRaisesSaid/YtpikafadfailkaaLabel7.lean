/- The document's Raise. -/
import Derived.Test.YtpikafadfailkaaLabel6
import Derived.Test.YtpikafadfailkaaLabelKit
import Derived.Test.YtpikafadfailkaaLabelPlain
import Derived.Test.YtpikafadfailkaaOrder2
namespace Go.Proofs.Ytpikafadfailkaa
open Go.RowKit P
set_option linter.unusedVariables false

def RRaisePost (w : World) (n : Nat) (L : Rel) (ps : List (Int × Int)) (low : List Int) (e : Ending) (w' : World) : Prop :=
  Below w.heap.size w w' ∧ ((allL n low && okPairs low.length ps) = false ∧ e = .returned (.tuple #[.slice none 0 0, .bool false]) ∨
    (allL n low && okPairs low.length ps) = true ∧ ∃ v, e = .returned (.tuple #[v, .bool true]) ∧ IntsAt w' w'.heap.size v (labs (raiseN n L (edg ps) (natl low))))
theorem RRaisePost.no {w w' : World} {n : Nat} {L : Rel} {ps : List (Int × Int)} {low : List Int} (hb : Below w.heap.size w w') (h : allL n low = false ∨ okPairs low.length ps = false) :
    RRaisePost w n L ps low (.returned (.tuple #[.slice none 0 0, .bool false])) w' :=
  ⟨hb, .inl ⟨by rcases h with h | h <;> rw [h] <;> simp, rfl⟩⟩
theorem sweep_snoc {n : Nat} {L : Rel} {E : List (Nat × Nat)} {j : Nat} {e : Nat × Nat} (h : E[j]? = some e) (o : List Nat) : sweep n L (E.take (j + 1)) o = stepR n L (sweep n L (E.take j) o) e := by
  unfold sweep; rw [take_snoc h, List.foldl_append]; rfl

set_option maxHeartbeats 2000000 in
theorem rraise_any (n : Nat) (L : Rel) (ps : List (Int × Int)) (low : List Int) (A : Option Addr) (c : Nat) (v : Value) (w : World) (h8 : n ≤ 8) (hL : Lat n L) (hp : Pairs w w.heap.size A ps) (hl : IntsAt w w.heap.size v low) (h3 : low.length ≤ 300) :
    Calls Try.prog 47 #[.agg (rv n L), .slice A ps.length c, v] w (RRaisePost w n L ps low) := by
  have HI0 := Lib.hid hl
  have HP := Lib.hid hp
  have hpl := hp.1
  obtain ⟨hlen, LA, lc, rfl, hcell⟩ := hl
  have HM := Lib.hid (Rm.new w n L 27)
  have HB := Lib.hid ((Below.refl w.heap.size w).alloc (Nat.le_refl _) (.cells (rv n L) 27))
  have HS : w.heap.size < (w.alloc (.cells (rv n L) 27)).heap.size := by simp
  have HL := Lib.hid hL
  obtain ⟨i0, hi, hz0, hz1, hz2⟩ := info_parts info_int
  have HI := Lib.hid hi
  have HZ0 := Lib.hid hz0
  have HZ1 := Lib.hid hz1
  have HZ2 := Lib.hid hz2
  clear hi hz0 hz1 hz2 hp hcell hL
  go_enter Try.func47, Try.ntmps47
  go_upto_region 1 with (fail)
  generalize w.alloc (.cells (rv n L) 27) = W at *
  have HW1 := Lib.hid (ownsRow_empty W 3 1 W.heap.size (Nat.le_refl _))
  have HBA := Lib.hid ((Below.refl W.heap.size W).alloc (Nat.le_refl _) (.cells #[] 3))
  have HSRC := Lib.hid (fun h0 => (((HI0.out.below HB.out).more HB.out.size).below HBA.out).src h0)
  go_wp2_with (at_builtin; refine wl_append rfl _ _ 50 rfl W.heap.size 3 i0 (.int .i64 0) 1 8 Try.underlying50 HI.out HZ0.out HZ1.out HZ2.out rfl (by decide) _ 0 [] rfl HW1.out LA low.length lc (ints low) rfl (ints_len low) HSRC.out (ints_one low) ?c3 ?c4 ?c5 ?_)
  case c3 => unfold maxLen; omega
  case c4 => omega
  case c5 => simp
  intro v' w2 hown hg
  have hb2 : Below W.heap.size W w2 := HBA.out.grown hg (by simp) (fun j hj => (HW1.out.lt j hj).1)
  have HO2 : Hid (OwnInts w2 W.heap.size v' low) := Lib.hid (by simpa [OwnInts] using hown)
  have HB2 := Lib.hid (HB.out.trans (hb2.mono HB.out.size))
  have HM2 := Lib.hid (HM.out.below hb2 HS)
  have HS2 := Nat.lt_of_lt_of_le HS hb2.size
  clear hown hg hb2 HW1 HBA HSRC
  go_wp2
  go_loopg [9] low.length (fun g i wr => ∃ k : Nat, k + g = low.length ∧ i = .int .i64 k ∧ allL n (low.take k) = true ∧ Below w2.heap.size w2 wr)
  case atStart => exact ⟨0, by omega, rfl, rfl, Below.refl _ _⟩
  case round =>
    obtain ⟨k, hk, rfl, hall, hb⟩ := hrel
    have HA := Lib.hid hall
    have HB3 := Lib.hid hb
    have hz3 := hb.size
    have HM3 := Lib.hid (HM2.out.below hb HS2)
    have HS3 := Nat.lt_of_lt_of_le HS2 hz3
    clear hb
    have HB4 := Lib.hid (HB2.out.trans (HB3.out.mono HB2.out.size))
    cases gk with
    | succ g =>
      have hlt : (k : Int) < (low.length : Int) := by omega
      obtain ⟨a, ha⟩ : ∃ a, low[k]? = some a := ⟨_, List.getElem?_eq_getElem (by omega)⟩
      obtain ⟨_, A2, c2, hv, hcell⟩ := HI0.out.below HB4.out
      cases hv
      obtain ⟨bb, o, rfl, hbb, hc⟩ := hcell (by omega)
      have hzz := HB4.out.size
      have d : ∀ z : Wb wr, z.wd.cell? ⟨bb, o + k, none⟩ = some (.int .i64 a) := fun z => (z.h.cell (p := ⟨bb, o + k, none⟩) (show bb < _ by omega)).trans (hc k a ha)
      have HAN := Lib.hid (allL_take ha hall)
      have HNO := Lib.hid (fun h => allL_no (n := n) ha h)
      have HIS := Lib.hid (fun u => ris_any n L a u)
      clear hc ha hall hcell
      go_wp2
      refine wp_region_wb (by kernel_rfl) (by kernel_rfl) ?_
      repeat
        first
        | (go_big_quiet_want; refine quiet_rload _ _ rfl rfl w.heap.size n L rfl ?hm ?_; (case hm => (rintro u ⟨z, rfl⟩; exact HM3.out.wb HS3 z)); go_frame; go_big_quiet_on)
        | go_big_quiet_step ((go_at_call 17; exact q_wb (HIS.out _)))
      refine wpQuiet_nil ?_
      rintro u ⟨z, rfl⟩
      clear d HIS
      cases hla : isL n a with
      | false =>
        have HV := Lib.hid (HNO.out hla)
        clear hla
        go_wp2
        go_ret2
        exact RRaisePost.no (HB4.out.trans (z.h.mono HB4.out.size)) (.inl HV.out)
      | true =>
        have HLA := Lib.hid hla
        clear hla
        go_wp2
        go_roundg g
        case measure => omega
        case rel => exact ⟨k + 1, by omega, by go_num, by rw [HAN.out]; exact HLA.out, HB3.out.trans (z.h.mono hz3)⟩
    | zero =>
      have hge : ¬ ((k : Int) < (low.length : Int)) := by omega
      have HALL : Hid (allL n low = true) := Lib.hid (by
        have h1 := HA.out
        rw [List.take_of_length_le (by omega)] at h1
        exact h1)
      clear hall HA
      go_wp2
      go_loopg [10] ps.length (fun g i wx => ∃ k : Nat, k + g = ps.length ∧ i = .int .i64 k ∧ okPairs low.length (ps.take k) = true ∧ wr = wx)
      case atStart => exact ⟨0, by omega, rfl, rfl, rfl⟩
      case round =>
        obtain ⟨j, hj, rfl, hok, rfl⟩ := hrel
        have HO3 := Lib.hid hok
        clear hok
        cases gk with
        | succ g =>
          have hlt : (j : Int) < (ps.length : Int) := by omega
          obtain ⟨p, hp⟩ : ∃ p, ps[j]? = some p := ⟨_, List.getElem?_eq_getElem (by omega)⟩
          obtain ⟨bb, o, rfl, hbl, hcell⟩ := HP.out.2 (by omega)
          obtain ⟨c0, c1, wf0, wf1⟩ := hcell j p hp
          have d0 := (HB4.out.cell (p := ⟨bb, o + j * 2, none⟩) hbl).trans c0
          have d1 := (HB4.out.cell (p := ⟨bb, o + j * 2 + 1, none⟩) hbl).trans c1
          clear c0 c1 hcell
          obtain ⟨p0, p1⟩ := p
          have HPJ := Lib.hid hp
          clear hp
          simp only at d0 d1 wf0 wf1
          cases hr : (isLb low.length p0 && isLb low.length p1) with
          | false =>
            have HR := Lib.hid hr
            have hr2 : p0 < 0 ∨ (low.length : Int) ≤ p0 ∨ p1 < 0 ∨ (low.length : Int) ≤ p1 := by
              unfold isLb at hr; simp at hr; omega
            have HR2 := Lib.hid hr2
            clear hr hr2
            go_wp2
            all_goals first
              | (exfalso; have := HR2.out; omega)
              | (go_ret2
                 exact RRaisePost.no HB4.out (.inr (okPairs_take HPJ.out HR.out)))
          | true =>
            obtain ⟨a, e, rfl, rfl, ha, he⟩ : ∃ a e : Nat, p0 = a ∧ p1 = e ∧ a < low.length ∧ e < low.length := by
              unfold isLb at hr; simp at hr
              exact ⟨p0.toNat, p1.toNat, by omega, by omega, by omega, by omega⟩
            have HR := Lib.hid hr
            clear hr
            go_wp2
            all_goals first
              | (exfalso; omega)
              | (go_roundg g
                 (case measure => omega)
                 (case rel => exact ⟨j + 1, by omega, by go_num, by rw [take_snoc HPJ.out, okPairs_snoc, HO3.out, HR.out]; rfl, rfl⟩))
        | zero =>
          have hge2 : ¬ ((j : Int) < (ps.length : Int)) := by omega
          have HOK : Hid (okPairs low.length ps = true) := Lib.hid (by
            have h1 := HO3.out
            rw [List.take_of_length_le (by omega)] at h1
            exact h1)
          clear HO3
          obtain ⟨lo, hlo, hlab⟩ := labs_of HALL.out
          have hll : low.length = lo.length := by rw [hlo, labs_len]
          have hE := edg_ok HOK.out
          rw [hll] at hE
          have HLO := Lib.hid hlo
          have HLL := Lib.hid hll
          have HE := Lib.hid hE
          have hown := HO2.out
          rw [hlo] at hown
          obtain ⟨A2, c2, rfl, hrow⟩ := OwnRow.of_own hown
          have HROW := Lib.hid (hrow.below HB3.out)
          clear hlo hll hE hown hrow
          go_wp2
          go_loopg [11] (8 * low.length) (fun g i wy => ∃ t : Nat, t + g = 8 * low.length ∧ i = .int .i64 t ∧ OwnRow wy W.heap.size A2 (sweeps n L (edg ps) t lo) ∧ Rm wy w.heap.size n L ∧ Below w.heap.size w wy ∧ w.heap.size < wy.heap.size)
          case atStart => exact ⟨0, by omega, rfl, HROW.out, HM3.out, HB4.out, HS3⟩
          case round =>
            obtain ⟨t, ht, rfl, hrow, hm, hb, hs⟩ := hrel
            have HR5 := Lib.hid hrow
            have HM5 := Lib.hid hm
            have HB5 := Lib.hid hb
            have HU5 := Lib.hid ((Under.start HL.out hlab).sweeps HL.out HE.out t)
            have hol : lo.length = (sweeps n L (edg ps) t lo).length := HU5.out.le.1
            have HSW : Hid (sweep n L (edg ps) (sweeps n L (edg ps) t lo) = sweeps n L (edg ps) (t + 1) lo) := Lib.hid rfl
            have HRN : Hid (t = 8 * low.length → sweeps n L (edg ps) t lo = raiseN n L (edg ps) lo) := Lib.hid (fun h => by rw [h, HLL.out]; rfl)
            clear hrow hm hb
            generalize sweeps n L (edg ps) t lo = o at *
            have HOL := Lib.hid hol
            clear hol
            cases gk with
            | zero =>
              have hge3 : ¬ ((t : Int) < 8 * (low.length : Int)) := by omega
              go_wp2
              go_ret2
              refine ⟨HB5.out, .inr ⟨by rw [HALL.out, HOK.out]; rfl, _, rfl, ?_⟩⟩
              rw [HLO.out, natl_labs, ← HRN.out (by omega)]
              exact HR5.out.ints (by rw [← HOL.out, ← HLL.out]; omega) _ _ HOL.out
            | succ g =>
              have hlt3 : (t : Int) < 8 * (low.length : Int) := by omega
              go_wp2
              go_loopg [12] ps.length (fun g i wy => ∃ j : Nat, j + g = ps.length ∧ i = .int .i64 j ∧ OwnRow wy W.heap.size A2 (sweep n L ((edg ps).take j) o) ∧ Rm wy w.heap.size n L ∧ Below w.heap.size w wy ∧ w.heap.size < wy.heap.size)
              case atStart => exact ⟨0, by omega, rfl, HR5.out, HM5.out, HB5.out, hs⟩
              case round =>
                obtain ⟨j, hj, rfl, hrow, hm, hb, hs6⟩ := hrel
                have HR6 := Lib.hid hrow
                have HM6 := Lib.hid hm
                have HB6 := Lib.hid hb
                have HU6 := Lib.hid (Under.fold HL.out HE.out (E' := (edg ps).take j) (fun x hx => List.mem_of_mem_take hx) HU5.out)
                clear hrow hm hb
                cases gk with
                | zero =>
                  have hge4 : ¬ ((j : Int) < (ps.length : Int)) := by omega
                  have HTK : Hid ((edg ps).take j = edg ps) := Lib.hid (List.take_of_length_le (by unfold edg; rw [List.length_map]; omega))
                  go_wp2
                  go_roundg g
                  case measure => omega
                  case rel => exact ⟨t + 1, by omega, by go_num, by rw [← HSW.out]; have := HR6.out; rw [HTK.out] at this; exact this, HM6.out, HB6.out, hs6⟩
                | succ g2 =>
                  have hlt4 : (j : Int) < (ps.length : Int) := by omega
                  obtain ⟨p, hp⟩ : ∃ p, ps[j]? = some p := ⟨_, List.getElem?_eq_getElem (by omega)⟩
                  obtain ⟨bb, oo, rfl, hbl, hcell⟩ := HP.out.2 (by omega)
                  obtain ⟨c0, c1, wf0, wf1⟩ := hcell j p hp
                  have d0 := (HB6.out.cell (p := ⟨bb, oo + j * 2, none⟩) hbl).trans c0
                  have d1 := (HB6.out.cell (p := ⟨bb, oo + j * 2 + 1, none⟩) hbl).trans c1
                  clear c0 c1 hcell
                  obtain ⟨a, e, rfl, hp2, ha, he⟩ : ∃ a e : Nat, p = ((a : Int), (e : Int)) ∧ (edg ps)[j]? = some (a, e) ∧ a < lo.length ∧ e < lo.length := okPairs_nat HE.out HOK.out hp
                  have HSN := Lib.hid (sweep_snoc (n := n) (L := L) hp2 o)
                  have HPJ := Lib.hid hp2
                  clear hp hp2
                  simp only at d0 d1 wf0 wf1
                  generalize sweep n L ((edg ps).take j) o = o2 at *
                  have HOL2 : Hid (lo.length = o2.length) := Lib.hid HU6.out.le.1
                  have HAE : Hid (a < o2.length ∧ e < o2.length) := Lib.hid (by rw [← HOL2.out]; exact ⟨ha, he⟩)
                  have HLB := Lib.hid (show gv o2 a < n ∧ gv o2 e < n from ⟨HU6.out.lab a HAE.out.1, HU6.out.lab e HAE.out.2⟩)
                  obtain ⟨gb, rfl, hg1, hg2, hrow⟩ := HR6.out (by rw [← HOL2.out]; omega)
                  have HRW := Lib.hid hrow
                  clear hrow
                  go_upto_region 18 with (fail)
                  go_quiet (fail)
                  go_upto_region 19 with (fail)
                  refine wp_region_ord_tail 13 [(0, true), (1, true), (2, true), (3, true), (4, true), (5, true), (6, true), (7, true), (8, true), (9, true), (10, true), (11, false), (12, true)]
                    (fun w' => Rm w' w.heap.size n L ∧ RowAt w' gb o2 ∧ w.heap.size < w'.heap.size ∧ gb < w'.heap.size) (by kernel_rfl) (by kernel_rfl) rfl (by intro c a d v w h; cases d <;> exact h) ?_
                  have hs9 : Rm (wr.drewN nq).drew w.heap.size n L ∧ RowAt (wr.drewN nq).drew gb o2 ∧ w.heap.size < (wr.drewN nq).drew.heap.size ∧ gb < (wr.drewN nq).drew.heap.size := ⟨(HM6.out.drewN nq).drew, HRW.out.keep (fun _ => rfl) (fun _ => rfl), hs6, hg2⟩
                  refine ord_move (some 94) (.slice (some ⟨gb, 0, none⟩) lo.length c2) _ _ rfl rfl rfl (by first | exact wanted_none rfl | exact wanted_if rfl rfl rfl rfl) hs9 rfl ?_
                  go_frame
                  refine ord_move (some 95) (.int .i64 e) _ _ rfl rfl rfl (by first | exact wanted_none rfl | exact wanted_if rfl rfl rfl rfl) hs9 rfl ?_
                  go_frame
                  refine ord_load (some 96) (.agg (rv n L)) _ rfl rfl (by first | exact wanted_none rfl | exact wanted_if rfl rfl rfl rfl) hs9 (fun w' hw' => exec_rload _ _ rfl _ _ _ rfl hw'.1) ?_
                  go_frame
                  refine ord_move (some 97) (.slice (some ⟨gb, 0, none⟩) lo.length c2) _ _ rfl rfl rfl (by first | exact wanted_none rfl | exact wanted_if rfl rfl rfl rfl) hs9 rfl ?_
                  go_frame
                  refine ord_move (some 98) (.int .i64 a) _ _ rfl rfl rfl (by first | exact wanted_none rfl | exact wanted_if rfl rfl rfl rfl) hs9 rfl ?_
                  go_frame
                  refine ord_load (some 99) (.pointer (some ⟨gb, a, none⟩)) _ rfl rfl (by first | exact wanted_none rfl | exact wanted_if rfl rfl rfl rfl) hs9 (fun w' _ => by go_simp) ?_
                  go_frame
                  refine ord_load (some 100) (.int .i64 (gv o2 a : Nat)) _ rfl rfl (by first | exact wanted_none rfl | exact wanted_if rfl rfl rfl rfl) hs9 (fun w' hw' => by have dd := hw'.2.1.c a HAE.out.1; go_simp) ?_
                  go_frame
                  refine ord_move (some 101) (.slice (some ⟨gb, 0, none⟩) lo.length c2) _ _ rfl rfl rfl (by first | exact wanted_none rfl | exact wanted_if rfl rfl rfl rfl) hs9 rfl ?_
                  go_frame
                  refine ord_move (some 102) (.int .i64 e) _ _ rfl rfl rfl (by first | exact wanted_none rfl | exact wanted_if rfl rfl rfl rfl) hs9 rfl ?_
                  go_frame
                  refine ord_load (some 103) (.pointer (some ⟨gb, e, none⟩)) _ rfl rfl (by first | exact wanted_none rfl | exact wanted_if rfl rfl rfl rfl) hs9 (fun w' _ => by go_simp) ?_
                  go_frame
                  refine ord_load (some 104) (.int .i64 (gv o2 e : Nat)) _ rfl rfl (by first | exact wanted_none rfl | exact wanted_if rfl rfl rfl rfl) hs9 (fun w' hw' => by have dd := hw'.2.1.c e HAE.out.2; go_simp) ?_
                  go_frame
                  refine ord_to (some 105) 27 Try.func27 (by kernel_rfl) (by kernel_rfl) [.agg (rv n L), .int .i64 (gv o2 a : Nat), .int .i64 (gv o2 e : Nat)] _ _ _ rfl rfl rfl (by first | exact wanted_none rfl | exact wanted_if rfl rfl rfl rfl) rfl ?_
                  have cj := rjoin_any n L (gv o2 a) (gv o2 e) (wr.drewN nq).drew h8 (by have := HLB.out.1; omega) (by have := HLB.out.2; omega)
                  rw [(HL.out.jj_spec HLB.out.1 HLB.out.2).1] at cj
                  refine cj.mono ?_
                  rintro e' w9 ⟨rfl, hb9⟩
                  have hs10 : Rm w9 w.heap.size n L ∧ RowAt w9 gb o2 ∧ w.heap.size < w9.heap.size ∧ gb < w9.heap.size := ⟨hs9.1.below hb9 hs9.2.2.1, hs9.2.1.below hb9 hs9.2.2.2, Nat.lt_of_lt_of_le hs9.2.2.1 hb9.size, Nat.lt_of_lt_of_le hs9.2.2.2 hb9.size⟩
                  refine ⟨.int .i64 (jj n L (gv o2 a) (gv o2 e) : Nat), rfl, hs10, ?_⟩
                  go_frame
                  refine ord_load (some 106) (.pointer (some ⟨gb, e, none⟩)) _ rfl rfl (by first | exact wanted_none rfl | exact wanted_if rfl rfl rfl rfl) hs10 (fun w' _ => by go_simp) ?_
                  go_frame
                  refine ord_tail ?_
                  simp only [List.drop_succ_cons, List.drop_zero]
                  have dd := hs10.2.1.c e HAE.out.2
                  have ff := hs10.2.1.fz e HAE.out.2
                  have HS10 := Lib.hid hs10
                  have HB10 := Lib.hid (HB6.out.trans ((below_drewN (Below.refl _ _) nq).drew.trans (hb9.mono (by first | exact Nat.le_refl _ | (simp; omega)))))
                  clear hs9 hs10 hb9
                  go_wp2
                  go_roundg g2
                  case measure => omega
                  case rel =>
                    have hb0 := (Below.refl gb w9).setCell (Nat.le_refl gb) (p := ⟨gb, e, none⟩) (.int .i64 (jj n L (gv o2 a) (gv o2 e) : Nat))
                    refine ⟨j + 1, by omega, by go_num, fun _ => ⟨gb, rfl, hg1, by simp; exact HS10.out.2.2.2, ?_⟩, HS10.out.1.below hb0 (by omega), HB10.out.setCell (by simp; omega) _, by simp; exact HS10.out.2.2.1⟩
                    rw [HSN.out]
                    exact HS10.out.2.1.set HAE.out.2 _

end Go.Proofs.Ytpikafadfailkaa
