/- region.above. -/
import Derived.Test.YtedajbpjokmlaaaDoms
namespace Go.Proofs.Ytedajbpjokmlaaa
open Go Go.RowKit
set_option linter.unusedVariables false

set_option maxHeartbeats 4000000 in
set_option maxRecDepth 100000 in
theorem above_any (gb tb fb n base sb : Nat) (Vg : Nat → Value) (E : List (Nat × Nat)) (r : Nat) (S : Nat → Nat → Bool) (V : Nat → Value) (i : Nat) (w : World) (hg : GAt w gb tb fb n base Vg E) (hs : SetsAt w sb n (come n E r) V (setL n E r S))
    (hi : i < n) (hn : n ≤ 10000) (hE : E.length ≤ 10000) (hl : ∀ e ∈ E, e.1 < n ∧ e.2 < n) :
    Calls Try.prog 37 #[.pointer (some ⟨gb, 0, none⟩), .slice (some ⟨sb, 0, none⟩) n n, .int .i64 i] w (IntsPost w (listN (aboveS n E r S i) n)) := by
  have HG := Lib.hid hg
  have HST := Lib.hid hs
  have HEL := Lib.hid hE
  have HL := Lib.hid hl
  clear hg hs hE hl
  have d0 := HG.out.c0
  have hn2 : (n : Int) ≤ 10000 := by omega
  obtain ⟨i0, hi0, hz0, hz1, hz2⟩ := info_parts' info_int
  have HI0 := Lib.hid hi0
  have HZ0 := Lib.hid hz0
  have HZ1 := Lib.hid hz1
  have HZ2 := Lib.hid hz2
  clear hi0 hz0 hz1 hz2
  have hi2 : (i : Int) < (n : Int) := by omega
  go_enter Try.func37, Try.ntmps37
  go_wp2
  clear d0
  go_loopg [6, 15] n (fun q v x u => ∃ d : Nat, d + q = n ∧ x = .int .i64 d ∧ OwnSl 3 1 encI u w.heap.size v (listN (aboveS n E r S i) d) ∧ Below w.heap.size w u)
  case atStart => exact ⟨0, by omega, rfl, OwnSl.nil _ _, Below.refl _ _⟩
  case round =>
    obtain ⟨d, hd, rfl, hown, hb⟩ := hrel
    have HOWN := Lib.hid hown
    have HB := Lib.hid hb
    clear hown hb
    have HGU := Lib.hid (HG.out.below HB.out)
    have HSU := Lib.hid (HST.out.below HB.out)
    obtain ⟨A6, c6, hv6⟩ := own_sl HOWN.out
    subst hv6
    cases gk with
    | zero =>
      obtain rfl : d = n := by omega
      have hge : ¬ ((d : Int) < (d : Int)) := by omega
      go_wp2
      go_ret
      exact ⟨_, rfl, HOWN.out, HB.out⟩
    | succ q =>
      have hlt : (d : Int) < (n : Int) := by omega
      have hdn : d < n := by omega
      have HLS := Lib.hid (listN_succ (aboveS n E r S i) d)
      obtain ⟨W0, rfl⟩ : ∃ W0, W0 = wr := ⟨_, rfl⟩
      by_cases hdi : d = i
      · have t1 : ((d : Int) == (i : Int)) = true := by simp; omega
        have HAB : Hid (aboveS n E r S i d = (come n E r d && true)) := Lib.hid (by unfold aboveS; rw [hdi]; simp)
        clear hdi
        have dvd := HSU.out.row.c d hdn
        have hrd := HSU.out.each d hdn
        unfold RowV at hrd
        cases hcd : come n E r d with
        | false =>
          rw [hcd, if_neg (by simp)] at hrd
          rw [hrd.1] at dvd
          have HNO : Hid (aboveS n E r S i d = false) := Lib.hid (by rw [HAB.out, hcd]; rfl)
          clear hrd
          go_wp2
          go_roundg q
          case measure => omega
          case rel => exact ⟨d + 1, by omega, by go_num, by rw [HLS.out, HNO.out]; simpa using HOWN.out, HB.out⟩

        | true =>
          rw [hcd, if_pos rfl] at hrd
          obtain ⟨bd, cd, hvd, _, _⟩ := hrd
          rw [hvd] at dvd
          have HYES : Hid (aboveS n E r S i d = true) := Lib.hid (by rw [HAB.out, hcd]; rfl)
          have HLN := Lib.hid (listN_len (aboveS n E r S i) d)
          have HTL : Hid ((listN (aboveS n E r S i) d).length + 1 ≤ 10000) := Lib.hid (by have := HLN.out; omega)
          go_upto_region 14 with (fail)
          clear dvd
          have HWZ : Hid (OwnSl 3 1 encI (W0.alloc (.cells ⟨encI (d : Int)⟩ 3)) w.heap.size _ (listN (aboveS n E r S i) d)) := Lib.hid (OwnSl.below HOWN.out (box_below W0 (.cells ⟨encI (d : Int)⟩ 3)))
          have HCE := Lib.hid (cells_box W0 (encI (d : Int)) 3)
          have HK1 : Hid ((listN (aboveS n E r S i) d).length + 1 ≤ maxLen) := Lib.hid (room_max HTL.out)
          have HK2 : Hid (((listN (aboveS n E r S i) d).length + 1) * 8 ≤ 140737488355328) := Lib.hid (by have := HTL.out; omega)
          have HBB := Lib.hid (HB.out.alloc HB.out.size (.cells ⟨encI (d : Int)⟩ 3))
          have HLN2 : ((listN (aboveS n E r S i) d).length : Int) + 1 ≤ 10000 := by have := HTL.out; omega
          go_upto_region 15 with (at_builtin; refine wl_push rfl _ _ 34 rfl w.heap.size 3 i0 (.int .i64 0) 1 8 encI Try.underlying34 HI0.out HZ0.out HZ1.out HZ2.out rfl (by decide) encI_len encI_one _ _ rfl HWZ.out W0.heap.size 1 (d : Int) rfl HCE.out HK1.out HK2.out HBB.out.size ?_; intro v' W2 hown2 hg2; have HO3 := Lib.hid hown2; have HG3 := Lib.hid hg2; clear hown2 hg2)
          have HB3 := Lib.hid (push_below HBB.out HBB.out.size HWZ.out (Nat.le_refl _) HG3.out)
          clear HG3 HBB HWZ HCE
          go_wp2
          go_roundg q
          case measure => omega
          case rel => exact ⟨d + 1, by omega, by go_num, by rw [HLS.out, HYES.out]; exact HO3.out, HB3.out⟩

      · have t1 : ((d : Int) == (i : Int)) = false := by simp; omega
        have HAX : Hid (aboveS n E r S i d = (come n E r d && (ins E i).all fun k => !come n E r k || S k d)) := Lib.hid (by unfold aboveS; rw [show (d == i) = false by simpa using hdi]; rfl)
        have d2 := HGU.out.c2
        have ho := own_nats (l := ins E i) (by have := HGU.out.rows.own (n + i) (by omega); unfold rowsG at this; rw [if_neg (by omega), Nat.add_sub_cancel_left] at this; exact this) (Nat.le_trans (ins_len E i) HEL.out)
        obtain ⟨A, c, hv, hA⟩ := ho.ex
        have dr := HGU.out.rows.cf.c i hi
        rw [hv] at dr
        have HA := Lib.hid hA
        have HIL := Lib.hid (Nat.le_trans (ins_len E i) HEL.out)
        clear hv hA ho hdi
        go_wp2
        clear d2 dr t1
        go_loopg [8, 31] (ins E i).length (fun q2 a x u => ∃ j : Nat, j + q2 = (ins E i).length ∧ a = .bool (((ins E i).take j).all fun k => !come n E r k || S k d) ∧ x = .int .i64 j ∧ u = W0)
        case atStart => exact ⟨0, by omega, rfl, rfl, rfl⟩
        case round =>
          obtain ⟨j, hj, rfl, rfl, rfl⟩ := hrel
          cases gk with
          | zero =>
            obtain rfl : j = (ins E i).length := by omega
            have hge : ¬ (((ins E i).length : Int) < ((ins E i).length : Int)) := by omega
            rw [List.take_of_length_le (Nat.le_refl _)]
            cases hall : (ins E i).all (fun k => !come n E r k || S k d) with
            | true =>
              have HAB : Hid (aboveS n E r S i d = (come n E r d && true)) := Lib.hid (by rw [HAX.out, hall])
              clear hall
              have dvd := HSU.out.row.c d hdn
              have hrd := HSU.out.each d hdn
              unfold RowV at hrd
              cases hcd : come n E r d with
              | false =>
                rw [hcd, if_neg (by simp)] at hrd
                rw [hrd.1] at dvd
                have HNO : Hid (aboveS n E r S i d = false) := Lib.hid (by rw [HAB.out, hcd]; rfl)
                clear hrd
                go_wp2
                go_roundg q
                case measure => omega
                case rel => exact ⟨d + 1, by omega, by go_num, by rw [HLS.out, HNO.out]; simpa using HOWN.out, HB.out⟩

              | true =>
                rw [hcd, if_pos rfl] at hrd
                obtain ⟨bd, cd, hvd, _, _⟩ := hrd
                rw [hvd] at dvd
                have HYES : Hid (aboveS n E r S i d = true) := Lib.hid (by rw [HAB.out, hcd]; rfl)
                have HLN := Lib.hid (listN_len (aboveS n E r S i) d)
                have HTL : Hid ((listN (aboveS n E r S i) d).length + 1 ≤ 10000) := Lib.hid (by have := HLN.out; omega)
                go_upto_region 14 with (fail)
                clear dvd
                have HWZ : Hid (OwnSl 3 1 encI (wr.alloc (.cells ⟨encI (d : Int)⟩ 3)) w.heap.size _ (listN (aboveS n E r S i) d)) := Lib.hid (OwnSl.below HOWN.out (box_below wr (.cells ⟨encI (d : Int)⟩ 3)))
                have HCE := Lib.hid (cells_box wr (encI (d : Int)) 3)
                have HK1 : Hid ((listN (aboveS n E r S i) d).length + 1 ≤ maxLen) := Lib.hid (room_max HTL.out)
                have HK2 : Hid (((listN (aboveS n E r S i) d).length + 1) * 8 ≤ 140737488355328) := Lib.hid (by have := HTL.out; omega)
                have HBB := Lib.hid (HB.out.alloc HB.out.size (.cells ⟨encI (d : Int)⟩ 3))
                have HLN2 : ((listN (aboveS n E r S i) d).length : Int) + 1 ≤ 10000 := by have := HTL.out; omega
                go_upto_region 15 with (at_builtin; refine wl_push rfl _ _ 34 rfl w.heap.size 3 i0 (.int .i64 0) 1 8 encI Try.underlying34 HI0.out HZ0.out HZ1.out HZ2.out rfl (by decide) encI_len encI_one _ _ rfl HWZ.out wr.heap.size 1 (d : Int) rfl HCE.out HK1.out HK2.out HBB.out.size ?_; intro v' W2 hown2 hg2; have HO3 := Lib.hid hown2; have HG3 := Lib.hid hg2; clear hown2 hg2)
                have HB3 := Lib.hid (push_below HBB.out HBB.out.size HWZ.out (Nat.le_refl _) HG3.out)
                clear HG3 HBB HWZ HCE
                go_wp2
                go_roundg q
                case measure => omega
                case rel => exact ⟨d + 1, by omega, by go_num, by rw [HLS.out, HYES.out]; exact HO3.out, HB3.out⟩

            | false =>
              have HAB : Hid (aboveS n E r S i d = (come n E r d && false)) := Lib.hid (by rw [HAX.out, hall])
              clear hall
              have HNO : Hid (aboveS n E r S i d = false) := Lib.hid (by rw [HAB.out]; simp)

              go_wp2
              go_roundg q
              case measure => omega
              case rel => exact ⟨d + 1, by omega, by go_num, by rw [HLS.out, HNO.out]; simpa using HOWN.out, HB.out⟩

          | succ q2 =>
            have hlt2 : (j : Int) < ((ins E i).length : Int) := by omega
            have hil2 : ((ins E i).length : Int) ≤ 10000 := by have := HIL.out; omega
            obtain ⟨k, hk⟩ : ∃ k, (ins E i)[j]? = some k := ⟨_, List.getElem?_eq_getElem (by omega)⟩
            have hkn : k < n := (HL.out (k, i) (mem_ins.1 (List.mem_of_getElem? hk))).1
            have hkn2 : (k : Int) < (n : Int) := by omega
            obtain ⟨b, rfl, hbl, hc⟩ := HA.out (by omega)
            have da := hc j k hk
            have dv := HSU.out.row.c k hkn
            have hrk := HSU.out.each k hkn
            unfold RowV at hrk
            have HTK : Hid (((ins E i).take (j + 1)).all (fun k => !come n E r k || S k d) = (((ins E i).take j).all (fun k => !come n E r k || S k d) && (!come n E r k || S k d))) := Lib.hid (by rw [take_at hk, List.all_append]; simp)
            generalize ((ins E i).take j).all (fun k => !come n E r k || S k d) = a at *
            clear hc hk
            cases hck : come n E r k with
            | false =>
              rw [hck, if_neg (by simp)] at hrk
              rw [hrk.1] at dv
              have HT2 : Hid (((ins E i).take (j + 1)).all (fun k => !come n E r k || S k d) = a) := Lib.hid (by rw [HTK.out, hck]; simp)
              clear hrk hck HTK
              go_wp2
              go_roundg q2
              case measure => omega
              case rel => exact ⟨j + 1, by omega, by rw [HT2.out], by go_num, rfl⟩
            | true =>
              rw [hck, if_pos rfl] at hrk
              obtain ⟨b2, c2, hV, _, hc2⟩ := hrk
              rw [hV] at dv
              have hsl : setL n E r S k = listN (S k) n := by unfold setL; rw [if_pos hck]
              rw [hsl] at dv hc2
              have HSK := Lib.hid (listN_has (S := S k) hdn)
              have HSN := Lib.hid (listN_len (S k) n)
              have HT2 : Hid (((ins E i).take (j + 1)).all (fun k => !come n E r k || S k d) = (a && S k d)) := Lib.hid (by rw [HTK.out, hck]; simp)
              have HC := Lib.hid (Try.slices_Contains_int b2 0 (listN (S k) n).length c2 (listN (S k) n) (d : Int) wr (Nat.le_refl _) (by have := HSN.out; omega) (fun j hj => by rw [Nat.zero_add, hc2 j _ (List.getElem?_eq_getElem hj), List.getD_eq_getElem?_getD, List.getElem?_eq_getElem hj]; rfl))
              rw [List.take_length, HSK.out] at HC
              clear hV hc2 hsl hck HTK HSK
              cases hS : S k d with
              | true =>
                rw [hS] at HC
                have HT3 : Hid (((ins E i).take (j + 1)).all (fun k => !come n E r k || S k d) = a) := Lib.hid (by rw [HT2.out, hS]; simp)
                clear hS HT2
                go_wp2_with (go_at_call 44; fail)
                refine HC.out.mono ?_
                rintro e w' ⟨rfl, rfl⟩
                go_wp2
                go_roundg q2
                case measure => omega
                case rel => exact ⟨j + 1, by omega, by rw [HT3.out], by go_num, rfl⟩
              | false =>
                rw [hS] at HC
                have HT3 : Hid (((ins E i).take (j + 1)).all (fun k => !come n E r k || S k d) = false) := Lib.hid (by rw [HT2.out, hS]; simp)
                clear hS HT2
                go_wp2_with (go_at_call 44; fail)
                refine HC.out.mono ?_
                rintro e w' ⟨rfl, rfl⟩
                go_wp2
                go_roundg q2
                case measure => omega
                case rel => exact ⟨j + 1, by omega, by rw [HT3.out], by go_num, rfl⟩
end Go.Proofs.Ytedajbpjokmlaaa
