/- The document's dominators. -/
import Derived.Test.YtedajbpjokmlaaaRows1
namespace Go.Proofs.Ytedajbpjokmlaaa
open Go Go.RowKit
set_option linter.unusedVariables false

def DomRows (w : World) (g : List GN) (a : Int) (e : Ending) (w' : World) : Prop := ∃ v, e = .returned v ∧ RowsV w' v g.length (domsOf g a) ∧ Below w.heap.size w w'

theorem ap_push {w : World} {n i : Nat} {V : Nat → Value} {v' z : Value} {T : TypeId} {base : Nat} {l : List Int} (h : ∀ k, k < n → ∀ b, (V k).ownBlock = some b → some b ≠ z.ownBlock) {hi : i < n}
    (hb : v'.ownBlock = (V i).ownBlock ∨ v'.ownBlock = some w.heap.size) (ho : OwnSl T 1 encI w base z l) : ∀ k, k < n → ∀ b, (if k = i then v' else V k).ownBlock = some b → some b ≠ z.ownBlock := fun k hk b e => by
  by_cases e2 : k = i
  · subst e2
    rw [if_pos rfl] at e
    rcases hb with hb | hb
    · exact h k hk b (hb ▸ e)
    · intro e3
      rw [hb] at e
      injection e with e
      have := ho.lt e3.symm
      omega
  · rw [if_neg e2] at e
    exact h k hk b e

set_option maxHeartbeats 4000000 in
set_option maxRecDepth 100000 in
theorem ndominators_any (g : List GN) (a : Int) (c0 c1 c2 c3 c4 v5 : Value) (w : World) (hg : GraphAt w w.heap.size v5 g) (hlen : (edgesOf g).length ≤ 10000) (hgn : g.length ≤ 100) :
    Calls Try.prog 14 #[.agg ⟨[c0, c1, c2, c3, c4, v5]⟩, .int .i64 a] w (DomRows w g a) := by
  have HG := Lib.hid hg
  obtain ⟨hgl, A, c, rfl, hA⟩ := hg
  have HLEN := Lib.hid hlen
  have HG1 := Lib.hid hgn
  have HGN : Hid (g.length ≤ 10000) := Lib.hid (by omega)
  clear hA hlen hgl
  obtain ⟨i0, hi, hz0, hz1, hz2⟩ := info_parts' info_int
  have HI0 := Lib.hid hi
  have HZ0 := Lib.hid hz0
  have HZ1 := Lib.hid hz1
  have HZ2 := Lib.hid hz2
  clear hi hz0 hz1 hz2
  obtain ⟨iS, hi, hz0, hz1, hz2⟩ := info_parts' info_ints
  have HIS := Lib.hid hi
  have HS0 := Lib.hid hz0
  have HS1 := Lib.hid hz1
  have HS2 := Lib.hid hz2
  clear hi hz0 hz1 hz2
  have hgn2 : (g.length : Int) ≤ 100 := by omega
  go_enter Try.func14, Try.ntmps14
  go_upto_region 1 with (fail)
  have HB1 := Lib.hid (box_below w (.cells ⟨[c0, c1, c2, c3, c4, .slice A g.length c]⟩ 27))
  have HSZ1 := Lib.hid (box_size w (.cells ⟨[c0, c1, c2, c3, c4, .slice A g.length c]⟩ 27))
  have HC1 := Lib.hid (cells_box w [c0, c1, c2, c3, c4, .slice A g.length c] 27 5 _ rfl)
  have HR1 := Lib.hid (range_box w [c0, c1, c2, c3, c4, .slice A g.length c] 27)
  generalize w.alloc (.cells ⟨[c0, c1, c2, c3, c4, .slice A g.length c]⟩ 27) = W1 at *
  have d5 := HC1.out
  go_upto_region 2 with ((with_reducible refine wl_make 31 34 _ _ rfl ?hw iS (.slice none 0 0) 24 g.length Try.underlying31 HIS.out HS0.out HS1.out HS2.out (by decide) rfl ?hx ?hy HGN.out ?_); (case hw => first | exact wanted_none rfl | exact wanted_if rfl rfl rfl rfl); (case hx => rfl); (case hy => rfl); intro w4 hrow htag hb1 hs1; have HROW := Lib.hid hrow; have HB4 := Lib.hid hb1; have HS4 := Lib.hid hs1; clear hrow htag hb1 hs1)
  clear d5
  have HR4 := Lib.hid (rangeAt_below HR1.out HB4.out HSZ1.out)
  have HC4 := Lib.hid ((HB4.out.cell (p := ⟨w.heap.size, 5, none⟩) HSZ1.out).trans HC1.out)
  have HBW4 := Lib.hid (HB1.out.trans (HB4.out.mono HB1.out.size))
  have HSB : Hid (w.heap.size < W1.heap.size) := Lib.hid HSZ1.out
  obtain ⟨sb, hsb⟩ : ∃ sb, W1.heap.size = sb := ⟨_, rfl⟩
  rw [hsb] at HROW HS4 HSB
  rw [hsb]
  have HWS4 : Hid (w.heap.size < w4.heap.size) := Lib.hid (Nat.lt_trans HSB.out HS4.out)
  have HCM := Lib.hid (come_any g a c0 c1 c2 c3 c4 (.slice A g.length c) w4 (HG.out.next HBW4.out) HLEN.out HGN.out)
  clear HB4 HC1 HR1 hsb HB1 HSZ1
  go_upto_region 3 with (first | ((with_reducible refine wl_sload 27 _ rfl ?hw2 w.heap.size 0 [c0, c1, c2, c3, c4, .slice A g.length c] _ rfl HR4.out Try.underlying27 rfl ?hi2 ?_); (case hw2 => first | exact wanted_none rfl | exact wanted_if rfl rfl rfl rfl); (case hi2 => kernel_rfl)) | (go_at_call 39; refine HCM.out.mono ?_; rintro e w6 ⟨v6, rfl, hown6, hb6⟩; have HO6 := Lib.hid hown6; have HB6 := Lib.hid hb6; clear hown6 hb6))
  have HR6 := Lib.hid (rangeAt_below HR4.out HB6.out HWS4.out)
  have HC6 := Lib.hid ((HB6.out.cell (p := ⟨w.heap.size, 5, none⟩) HWS4.out).trans HC4.out)
  have HBW6 := Lib.hid (HBW4.out.trans (HB6.out.mono HBW4.out.size))
  have HWS6 : Hid (w.heap.size < w6.heap.size) := Lib.hid (Nat.lt_of_lt_of_le HWS4.out HB6.out.size)
  have HSB6 : Hid (sb < w6.heap.size) := Lib.hid (Nat.lt_of_lt_of_le HS4.out HB6.out.size)
  have HO6S : Hid (∀ b, v6.ownBlock = some b → b < w6.heap.size ∧ b ≠ sb) := Lib.hid fun b hb => ⟨HO6.out.lt hb, by have := HO6.out.block hb; have := HS4.out; omega⟩
  have HRW : Hid (Rows1 w6 sb w6.heap.size g.length (fun _ => .slice none 0 0) (domK g a 0)) := Lib.hid ⟨HROW.out.below HB6.out HS4.out, HSB6.out, HSB6.out, fun k _ => by rw [domK_zero]; exact OwnSl.nil _ _, fun k l _ _ _ => .inl rfl⟩
  clear HROW HR4 HC4 HBW4 HWS4 HCM HB6 HS4
  obtain ⟨A6, c6, hv6⟩ := own_sl HO6.out
  subst hv6
  have hcl := comeL_len g a
  have hcl2 : ((comeL g a).length : Int) ≤ 101 := by omega
  go_wp2
  go_loopg [7] g.length (fun q x u => ∃ (j : Nat) (V : Nat → Value), j + q = g.length ∧ x = .int .i64 j ∧ Rows1 u sb w6.heap.size g.length V (domK g a j) ∧ But w6 u sb sb)
  case atStart => exact ⟨0, _, by omega, rfl, HRW.out, But.refl _ _ _⟩
  case round =>
    obtain ⟨j, V, hj, rfl, hrw, hbut⟩ := hrel
    clear HRW
    have HRW := Lib.hid hrw
    have HBU := Lib.hid hbut
    clear hrw hbut
    have HBW := Lib.hid (HBW6.out.trans (HBU.out.below HBW6.out.size (Nat.le_of_lt HSB.out) (Nat.le_of_lt HSB.out)))
    have HSU : Hid (w6.heap.size ≤ wr.heap.size) := Lib.hid HBU.out.size
    have dm := (HBU.out.cell (o := 5) HWS6.out (Nat.ne_of_lt HSB.out) (Nat.ne_of_lt HSB.out)).trans HC6.out
    cases gk with
    | zero =>
      obtain rfl : j = g.length := by omega
      have hge : ¬ ((g.length : Int) < (g.length : Int)) := by omega
      go_wp2
      go_ret
      exact ⟨_, rfl, (Rows1.congr (L' := domsOf g a) HRW.out fun i _ => rfl).rows fun i _ => by have := domK_len g a g.length i; rw [domK_end] at this; omega, HBW.out⟩
    | succ q =>
      have hlt : (j : Int) < (g.length : Int) := by omega
      have hjn : j < g.length := by omega
      have HO := Lib.hid (HO6.out.keepB (W := wr) fun b hb => HBU.out.block b (HO6S.out b hb).1 (HO6S.out b hb).2 (HO6S.out b hb).2)
      have HH := Lib.hid (fun (x : Int) => has_any (.slice A6 (comeL g a).length c6) (comeL g a) x wr (HO.out.ints (by omega)) (by omega))
      cases hc : (comeL g a).contains (j : Int) with
      | false =>
        have HNO := Lib.hid (domK_no hc hjn)
        have HHJ := Lib.hid (HH.out (j : Int))
        rw [hc] at HHJ
        clear hc HH
        go_upto_region 7 with (go_at_call 40; refine HHJ.out.mono ?_; rintro e w9 ⟨rfl, rfl⟩)
        go_wp2
        go_roundg q
        case measure => omega
        case rel => exact ⟨j + 1, V, by omega, by go_num, HRW.out.congr fun i _ => HNO.out i, HBU.out⟩
      | true =>
        obtain ⟨r, hr, hrn⟩ := come_isN hc
        subst hr
        have hr2 : (r : Int) < (g.length : Int) := by omega
        have HHJ := Lib.hid (HH.out (j : Int))
        rw [hc] at HHJ
        have HYS := Lib.hid (fun i => domK_yes (g := g) (r := r) (j := j) (i := i) hrn)
        have HTE := Lib.hid (fun i hi => dom_test (g := g) (r := r) (j := j) (i := i) hrn hjn hi hc)
        have HLG := Lib.hid (lessG_len g j)
        have HLE := Lib.hid (Nat.le_trans (lessE_len j g 0) HLEN.out)
        have HRL := Lib.hid (rangeAt_below (B := sb) HR6.out (HBU.out.below (Nat.le_of_lt HSB6.out) (Nat.le_refl _) (Nat.le_refl _)) HSB.out)
        have HWO := Lib.hid (without_any g j c0 c1 c2 c3 c4 (.slice A g.length c) wr (HG.out.next HBW.out) HLEN.out HG1.out hjn)
        clear hc HH
        go_upto_region 7 with (go_at_call 40; refine HHJ.out.mono ?_; rintro e w9 ⟨rfl, rfl⟩)
        clear dm
        go_upto_region 8 with (first | ((with_reducible refine wl_sload 27 _ rfl ?hw2 w.heap.size 0 [c0, c1, c2, c3, c4, .slice A g.length c] _ rfl HRL.out Try.underlying27 rfl ?hi2 ?_); (case hw2 => first | exact wanted_none rfl | exact wanted_if rfl rfl rfl rfl); (case hi2 => kernel_rfl)) | (go_at_call 41; (refine HWO.out.mono ?_; rintro e w10 ⟨vN, rfl, hgraph, hb10⟩; have HB10 := Lib.hid hb10; have HCM := Lib.hid (come_any (lessG g j) (r : Int) (.int .i64 0) (.slice none 0 0) (.slice none 0 0) (.slice none 0 0) (.slice none 0 0) vN w10 hgraph HLE.out (by rw [HLG.out]; exact HGN.out)); clear hgraph hb10; unfold modelV)) | (go_at_call 39; refine HCM.out.mono ?_; rintro e w11 ⟨v11, rfl, hown, hb11⟩; have HO11 := Lib.hid hown; have HB11 := Lib.hid hb11; clear hown hb11))
        obtain ⟨A11, c11, hv11⟩ := own_sl HO11.out
        subst hv11
        have HB911 := Lib.hid (HB10.out.trans (HB11.out.mono HB10.out.size))
        have HRW11 := Lib.hid (HRW.out.below HB911.out)
        have HBU11 := Lib.hid (HBU.out.trans (But.of_below HB911.out _ _))
        have HSB10 : Hid (sb < w10.heap.size) := Lib.hid (Nat.lt_of_lt_of_le HRW.out.lt HB10.out.size)
        have HAP : Hid (∀ k, k < g.length → ∀ b, (V k).ownBlock = some b → some b ≠ (Value.slice A11 (comeL (lessG g j) (r : Int)).length c11).ownBlock) := Lib.hid fun k hk b hb e => by
          have h1 := (HRW.out.own k hk).lt hb
          have h2 := HO11.out.block e.symm
          have h3 := HB10.out.size
          omega
        have hcl3 := comeL_len (lessG g j) (r : Int)
        rw [HLG.out] at hcl3
        clear HRW HBU HB10 HB11 HB911 HRL HCM HWO HLE HHJ HO HBW HSU HYS
        generalize comeL (lessG g j) (r : Int) = RL2 at *
        have hrl2 : (RL2.length : Int) ≤ 101 := by omega
        go_wp2
        go_loopg [9] g.length (fun q2 x u => ∃ (i : Nat) (V2 : Nat → Value), i + q2 = g.length ∧ x = .int .i64 i ∧ Rows1 u sb w6.heap.size g.length V2 (midK g r j i) ∧ But w6 u sb sb ∧ OwnSl 3 1 encI u w10.heap.size (.slice A11 RL2.length c11) RL2 ∧ ∀ k, k < g.length → ∀ b, (V2 k).ownBlock = some b → some b ≠ (Value.slice A11 RL2.length c11).ownBlock)
        case atStart => exact ⟨0, V, by omega, rfl, HRW11.out.congr fun m _ => midK_zero g r j m, HBU11.out, HO11.out, HAP.out⟩
        case round =>
          obtain ⟨i, V2, hi, rfl, hrw, hbut, ho2, hap⟩ := hrel
          clear HRW11 HBU11 HO11 HAP
          have HRW2 := Lib.hid hrw
          have HBU2 := Lib.hid hbut
          have HO2 := Lib.hid ho2
          have HAP2 := Lib.hid hap
          clear hrw hbut ho2 hap
          have dm := (HBU2.out.cell (o := 5) HWS6.out (Nat.ne_of_lt HSB.out) (Nat.ne_of_lt HSB.out)).trans HC6.out
          cases gk with
          | zero =>
            obtain rfl : i = g.length := by omega
            have hge : ¬ ((g.length : Int) < (g.length : Int)) := by omega
            go_wp2
            go_roundg q
            case measure => omega
            case rel => exact ⟨j + 1, V2, by omega, by go_num, HRW2.out.congr fun m hm => (midK_end hm).symm, HBU2.out⟩
          | succ q2 =>
            have hlt2 : (i : Int) < (g.length : Int) := by omega
            have hin : i < g.length := by omega
            have HOC := Lib.hid (HO6.out.keepB (W := wr) fun b hb => HBU2.out.block b (HO6S.out b hb).1 (HO6S.out b hb).2 (HO6S.out b hb).2)
            have HHA := Lib.hid (has_any (.slice A6 (comeL g (r : Int)).length c6) (comeL g (r : Int)) (i : Int) wr (HOC.out.ints (by omega)) (by omega))
            have HHB := Lib.hid (has_any (.slice A11 RL2.length c11) RL2 (i : Int) wr (HO2.out.ints (by omega)) (by omega))
            have hte := HTE.out i hin
            have HNOO := Lib.hid (fun h m => midK_no (g := g) (r := r) (j := j) (i := i) hrn h m)
            have d1 := HRW2.out.row.c i hin
            have HWZ := Lib.hid (HRW2.out.below (box_below wr (.cells ⟨encI (j : Int)⟩ 3)))
            have HCE := Lib.hid (cells_box wr (encI (j : Int)) 3)
            have HBUX := Lib.hid (HBU2.out.trans (But.of_below (box_below wr (.cells ⟨encI (j : Int)⟩ 3)) _ _))
            have HO2X := Lib.hid (HO2.out.below (box_below wr (.cells ⟨encI (j : Int)⟩ 3)))
            have hml : (midK g r j i i).length ≤ j := by rw [midK_at]; exact domK_len _ _ _ _
            have HK1 : Hid ((midK g r j i i).length + 1 ≤ maxLen) := Lib.hid (by unfold maxLen; omega)
            have HK2 : Hid (((midK g r j i i).length + 1) * 8 ≤ 140737488355328) := Lib.hid (by omega)
            have HSB : Hid (w6.heap.size ≤ (wr.alloc (.cells ⟨encI (j : Int)⟩ 3)).heap.size) := Lib.hid HBUX.out.size
            have HAPI : Hid ((Value.slice A11 RL2.length c11).ownBlock = none ∨ (Value.slice A11 RL2.length c11).ownBlock ≠ (V2 i).ownBlock) := Lib.hid (by
              cases hv : (V2 i).ownBlock with
              | none =>
                cases hw : (Value.slice A11 RL2.length c11).ownBlock with
                | none => exact .inl rfl
                | some b => exact .inr (fun h => by cases h)
              | some b => exact .inr fun e => HAP2.out i hin b hv e.symm)
            clear hml
            generalize (comeL g (r : Int)).contains (i : Int) = bA at *
            generalize RL2.contains (i : Int) = bB at *
            cases bA with
            | false =>
              rw [Bool.false_and] at hte
              have HNOO := Lib.hid (HNOO.out hte)
              clear hte
              go_wp2_with (go_at_call 40; first | (with_reducible refine HHA.out.mono ?_; rintro e w12 ⟨rfl, hw⟩; have hw2 := hw.symm; subst hw2) | (with_reducible refine HHB.out.mono ?_; rintro e w12 ⟨rfl, hw⟩; have hw2 := hw.symm; subst hw2))
              go_roundg q2
              case measure => omega
              case rel => exact ⟨i + 1, V2, by omega, by go_num, HRW2.out.congr fun m _ => HNOO.out m, HBU2.out, HO2.out, HAP2.out⟩
            | true =>
              rw [Bool.true_and] at hte
              by_cases hjr : j = r
              · have t1 : ((j : Int) == (r : Int)) = true := by rw [beq_iff_eq]; omega
                have HDT : Hid (domOf g.length (graphE g) r j i = true) := Lib.hid (by rw [hte]; simp [hjr])
                clear hte hjr
                go_upto_region 12 with (go_at_call 40; first | (with_reducible refine HHA.out.mono ?_; rintro e w12 ⟨rfl, hw⟩; have hw2 := hw.symm; subst hw2) | (with_reducible refine HHB.out.mono ?_; rintro e w12 ⟨rfl, hw⟩; have hw2 := hw.symm; subst hw2))
                clear dm t1
                go_wp2_with (at_builtin; (refine wl_pushb rfl _ _ 34 rfl w6.heap.size 3 i0 (.int .i64 0) 1 8 encI Try.underlying34 HI0.out HZ0.out HZ1.out HZ2.out rfl (by decide) encI_len encI_one (V2 i) (midK g r j i i) rfl (HWZ.out.own i hin) wr.heap.size 1 (j : Int) rfl HCE.out HK1.out HK2.out HSB.out ?_; intro v' w12 hown hg hblk; obtain ⟨s1, s2, s3, rfl⟩ := own_slice hown; have hsb := hg.block sb HWZ.out.lt (HWZ.out.sb_ne hin); have d3 := (HWZ.out.row.keep hsb).c i hin; have f3 := (HWZ.out.row.keep hsb).fz i hin; have HRX := Lib.hid (Rows1.pushMid HWZ.out hrn hin HDT.out hown hg hblk); have HBX := Lib.hid (But.pushed HBUX.out HWZ.out (Nat.le_refl _) hin hg (.slice s1 s2 s3)); have HOX : Hid (OwnSl 3 1 encI (w12.setCell ⟨sb, i, none⟩ (.slice s1 s2 s3)) w10.heap.size (.slice A11 RL2.length c11) RL2) := Lib.hid (own_put (World.ownsRow.kept HO2X.out hg (HAPI.out)) HSB10.out _); have HAX := Lib.hid (ap_push (hi := hin) HAP2.out hblk HO2X.out); clear hown hg hblk hsb))
                go_roundg q2
                case measure => omega
                case rel => exact ⟨i + 1, _, by omega, by go_num, HRX.out, HBX.out, HOX.out, HAX.out⟩
              · have t1 : ((j : Int) == (r : Int)) = false := by rw [beq_eq_false_iff_ne]; omega
                have h1 : (j == r) = false := by rw [beq_eq_false_iff_ne]; exact hjr
                by_cases hij : i = j
                · have t2 : ((i : Int) == (j : Int)) = true := by rw [beq_iff_eq]; omega
                  have HDT : Hid (domOf g.length (graphE g) r j i = true) := Lib.hid (by rw [hte]; simp [hij])
                  clear hte hjr h1 hij
                  go_upto_region 12 with (go_at_call 40; first | (with_reducible refine HHA.out.mono ?_; rintro e w12 ⟨rfl, hw⟩; have hw2 := hw.symm; subst hw2) | (with_reducible refine HHB.out.mono ?_; rintro e w12 ⟨rfl, hw⟩; have hw2 := hw.symm; subst hw2))
                  clear dm t1 t2
                  go_wp2_with (at_builtin; (refine wl_pushb rfl _ _ 34 rfl w6.heap.size 3 i0 (.int .i64 0) 1 8 encI Try.underlying34 HI0.out HZ0.out HZ1.out HZ2.out rfl (by decide) encI_len encI_one (V2 i) (midK g r j i i) rfl (HWZ.out.own i hin) wr.heap.size 1 (j : Int) rfl HCE.out HK1.out HK2.out HSB.out ?_; intro v' w12 hown hg hblk; obtain ⟨s1, s2, s3, rfl⟩ := own_slice hown; have hsb := hg.block sb HWZ.out.lt (HWZ.out.sb_ne hin); have d3 := (HWZ.out.row.keep hsb).c i hin; have f3 := (HWZ.out.row.keep hsb).fz i hin; have HRX := Lib.hid (Rows1.pushMid HWZ.out hrn hin HDT.out hown hg hblk); have HBX := Lib.hid (But.pushed HBUX.out HWZ.out (Nat.le_refl _) hin hg (.slice s1 s2 s3)); have HOX : Hid (OwnSl 3 1 encI (w12.setCell ⟨sb, i, none⟩ (.slice s1 s2 s3)) w10.heap.size (.slice A11 RL2.length c11) RL2) := Lib.hid (own_put (World.ownsRow.kept HO2X.out hg (HAPI.out)) HSB10.out _); have HAX := Lib.hid (ap_push (hi := hin) HAP2.out hblk HO2X.out); clear hown hg hblk hsb))
                  go_roundg q2
                  case measure => omega
                  case rel => exact ⟨i + 1, _, by omega, by go_num, HRX.out, HBX.out, HOX.out, HAX.out⟩
                · have t2 : ((i : Int) == (j : Int)) = false := by rw [beq_eq_false_iff_ne]; omega
                  have h2 : (i == j) = false := by rw [beq_eq_false_iff_ne]; exact hij
                  rw [h1, h2, Bool.false_or, Bool.false_or] at hte
                  cases bB with
                  | true =>
                    have HNOO := Lib.hid (HNOO.out hte)
                    clear hte hjr h1 hij h2
                    go_wp2_with (go_at_call 40; first | (with_reducible refine HHA.out.mono ?_; rintro e w12 ⟨rfl, hw⟩; have hw2 := hw.symm; subst hw2) | (with_reducible refine HHB.out.mono ?_; rintro e w12 ⟨rfl, hw⟩; have hw2 := hw.symm; subst hw2))
                    go_roundg q2
                    case measure => omega
                    case rel => exact ⟨i + 1, V2, by omega, by go_num, HRW2.out.congr fun m _ => HNOO.out m, HBU2.out, HO2.out, HAP2.out⟩
                  | false =>
                    have HDT := Lib.hid hte
                    clear hte hjr h1 hij h2
                    go_upto_region 12 with (go_at_call 40; first | (with_reducible refine HHA.out.mono ?_; rintro e w12 ⟨rfl, hw⟩; have hw2 := hw.symm; subst hw2) | (with_reducible refine HHB.out.mono ?_; rintro e w12 ⟨rfl, hw⟩; have hw2 := hw.symm; subst hw2))
                    clear dm t1 t2
                    go_wp2_with (at_builtin; (refine wl_pushb rfl _ _ 34 rfl w6.heap.size 3 i0 (.int .i64 0) 1 8 encI Try.underlying34 HI0.out HZ0.out HZ1.out HZ2.out rfl (by decide) encI_len encI_one (V2 i) (midK g r j i i) rfl (HWZ.out.own i hin) wr.heap.size 1 (j : Int) rfl HCE.out HK1.out HK2.out HSB.out ?_; intro v' w12 hown hg hblk; obtain ⟨s1, s2, s3, rfl⟩ := own_slice hown; have hsb := hg.block sb HWZ.out.lt (HWZ.out.sb_ne hin); have d3 := (HWZ.out.row.keep hsb).c i hin; have f3 := (HWZ.out.row.keep hsb).fz i hin; have HRX := Lib.hid (Rows1.pushMid HWZ.out hrn hin HDT.out hown hg hblk); have HBX := Lib.hid (But.pushed HBUX.out HWZ.out (Nat.le_refl _) hin hg (.slice s1 s2 s3)); have HOX : Hid (OwnSl 3 1 encI (w12.setCell ⟨sb, i, none⟩ (.slice s1 s2 s3)) w10.heap.size (.slice A11 RL2.length c11) RL2) := Lib.hid (own_put (World.ownsRow.kept HO2X.out hg (HAPI.out)) HSB10.out _); have HAX := Lib.hid (ap_push (hi := hin) HAP2.out hblk HO2X.out); clear hown hg hblk hsb))
                    go_roundg q2
                    case measure => omega
                    case rel => exact ⟨i + 1, _, by omega, by go_num, HRX.out, HBX.out, HOX.out, HAX.out⟩
end Go.Proofs.Ytedajbpjokmlaaa
