/- Parts of a proof: RLabel, RAll, Same11, Awake11. -/
import Derived.Test.YtppmkehdhpgdcaaGreatPack9
import Derived.Test.YtppmkehdhpgdcaaGreatPack16
import Derived.Test.YtppmkehdhpgdcaaGreatPack41
import Derived.Test.YtppmkehdhpgdcaaGreatPack42
import Derived.Test.YtppmkehdhpgdcaaGreatPack48
import Derived.Test.YtppmkehdhpgdcaaGreatPack51
import Derived.Test.YtppmkehdhpgdcaaGreatPack53
section
namespace Go.Proofs.YtppmkehdhpgdcaaGreat
open Go Go.RowKit P
set_option linter.unusedVariables false
set_option linter.unusedSimpArgs false
set_option maxHeartbeats 2000000 in
set_option maxRecDepth 100000 in
theorem rfind_any (E : List VarT) (s : ByteArray) (v : Value) (w : World) (hv : SlAt w w.heap.size 11 (VarAt w w.heap.size) v E) (hE : E.length ≤ 10000) :
    Calls Tryz.prog 36 #[v, .string s] w fun e w' => e = .returned (.int .i64 (findV E s)) ∧ w' = w := by
  obtain ⟨hel, EA, ec, rfl, hea⟩ := hv
  have HEB := Lib.hid hea
  have hle2 : (E.length : Int) ≤ 10000 := by omega
  clear hea hel
  go_enter Tryz.func36, Tryz.ntmps36
  go_wp2
  go_loopg [5] E.length (fun q x u => ∃ j : Nat, j + q = E.length ∧ x = .int .i64 j ∧ u = w ∧ ∀ k, k < j → ∀ e, E[k]? = some e → nameIs s e = false)
  case atStart => exact ⟨0, by omega, rfl, rfl, fun k hk => absurd hk (Nat.not_lt_zero k)⟩
  case round =>
    obtain ⟨jj, hj, rfl, rfl, hno⟩ := hrel
    have HNO := Lib.hid hno
    clear hno
    cases gk with
    | zero =>
      obtain rfl : jj = E.length := by omega
      have hge : ¬ ((E.length : Int) < (E.length : Int)) := by omega
      have HR : Hid (findV E s = -1) := Lib.hid (findV_no fun k e he => HNO.out k (List.getElem?_eq_some_iff.1 he).1 e he)
      go_wp2
      go_ret
      exact ⟨by rw [HR.out]; try rfl, rfl⟩
    | succ q =>
      have hlt2 : (jj : Int) < (E.length : Int) := by omega
      obtain ⟨x, he⟩ : ∃ e, E[jj]? = some e := ⟨_, List.getElem?_eq_getElem (by omega)⟩
      obtain ⟨bb, o, rfl, hbl, hc⟩ := HEB.out (by omega)
      obtain ⟨ks, hkl, hks, hva⟩ := hc jj x he
      obtain ⟨a, b, c, d, e, f, g, i, j, rfl⟩ := var_form hva
      have hcell : wr.cell? ⟨bb, o + jj * 11, none⟩ = some (.string x.name) := hks 0 _ rfl
      have HE := Lib.hid he
      clear hc he hks hva hkl
      cases ho : (x.name.toList == s.toList) with
      | true =>
        have HR : Hid (findV E s = jj) := Lib.hid (findV_yes jj x HE.out ho fun k hk e' he' => HNO.out k hk e' he')
        go_wp2
        go_ret
        exact ⟨by rw [HR.out]; try rfl, rfl⟩
      | false =>
        have HNX : Hid (∀ k, k < jj + 1 → ∀ e, E[k]? = some e → nameIs s e = false) := Lib.hid fun k hk e' he' => by
          by_cases ek : k = jj
          · subst ek
            have := HE.out
            rw [he'] at this
            injection this with this
            rw [this]; exact ho
          · exact HNO.out k (by omega) e' he'
        go_wp2
        go_roundg q
        case measure => omega
        case rel => exact ⟨jj + 1, by omega, by go_num, rfl, HNX.out⟩
theorem map_at {M : List ByteArray} {j : Nat} {s : ByteArray} (h : M[j]? = some s) : (M.map txt)[j]? = some (txt s) := by rw [List.getElem?_map, h]; rfl
set_option maxHeartbeats 4000000 in
set_option maxRecDepth 100000 in
theorem rlabel_any (n : Nat) (L : Rel) (t : ET) (E : List VarT) (cs : List Value) (v : Value) (w : World) (h8 : n ≤ 8) (hl : Lat n L) (hv : ExpAt w w.heap.size cs t) (hE : SlAt w w.heap.size 11 (VarAt w w.heap.size) v E) (hlen : E.length ≤ 10000) :
    Calls Tryz.prog 13 #[.agg (rv n L), .agg ⟨cs⟩, v] w fun e w' => e = .returned (.tuple #[.int .i64 (labE n L E t).1, .int .i64 (labE n L E t).2]) ∧ Below w.heap.size w w' := by
  have HCL := Lib.hid (eslen hv)
  have HM := Lib.hid (Rm.new w n L 36)
  have hB0 := box_below w (.cells (rv n L) 36)
  have hM2 := (HM.out.below (box_below (w.alloc (.cells (rv n L) 36)) (.cells ⟨cs⟩ 30)) (box_size w _))
  have HM2 := Lib.hid hM2
  have hR := range_box (w.alloc (.cells (rv n L) 36)) cs 30
  rw [World.size_alloc] at hR
  have HR := Lib.hid hR
  have HB := Lib.hid (hB0.trans ((box_below (w.alloc (.cells (rv n L) 36)) (.cells ⟨cs⟩ 30)).mono hB0.size))
  have HS : Hid (w.heap.size + 1 < ((w.alloc (.cells (rv n L) 36)).alloc (.cells ⟨cs⟩ 30)).heap.size) := Lib.hid (by simp)
  have HV := Lib.hid ((hv.under HB.out).more HB.out.size)
  have HLT := Lib.hid hl
  have HEA := Lib.hid hE
  obtain ⟨_, EA, ec, rfl, _⟩ := hE
  have hlen2 : (E.length : Int) ≤ 10000 := by omega
  clear hv hl hB0 hM2 hR HM
  go_enter Tryz.func13, Tryz.ntmps13
  go_upto_region 1 with (fail)
  generalize (w.alloc (.cells (rv n L) 36)).alloc (.cells ⟨cs⟩ 30) = W at *
  have HC := Lib.hid (rrightE t cs W HV.out)
  cases hr : rightET t with
  | false =>
    rw [hr] at HC
    have HX : Hid ((labE n L E t) = (0, 2)) := Lib.hid (by unfold labE; rw [hr, if_neg (by decide)])
    clear hr
    go_wp2_with (first | ((with_reducible refine wl_sload 30 _ rfl ?hwa (w.heap.size + 1) 0 cs _ rfl HR.out Tryz.underlying30 rfl ?hia ?_); (case hwa => (first | exact wanted_none rfl | exact wanted_if rfl rfl rfl rfl)); (case hia => rw [HCL.out]; kernel_rfl)) | (go_at_call 10; refine HC.out.mono ?_; rintro e z ⟨rfl, hb⟩; have HB2 := Lib.hid (HB.out.trans (hb.mono HB.out.size)); clear hb))
    go_ret2
    exact ⟨by rw [HX.out]; rfl, HB2.out⟩
  | true =>
    rw [hr] at HC
    have HX0 : Hid ((labE n L E t) = labX n L E (readL t)) := Lib.hid (by unfold labE; rw [hr, if_pos rfl])
    clear hr
    go_upto_region 3 with (first | ((with_reducible refine wl_sload 30 _ rfl ?hwa (w.heap.size + 1) 0 cs _ rfl HR.out Tryz.underlying30 rfl ?hia ?_); (case hwa => (first | exact wanted_none rfl | exact wanted_if rfl rfl rfl rfl)); (case hia => rw [HCL.out]; kernel_rfl)) | (go_at_call 10; refine HC.out.mono ?_; rintro e z ⟨rfl, hb⟩; have HB1 := Lib.hid hb; clear hb))
    have HM3 := Lib.hid (HM2.out.below HB1.out (by have := HS.out; omega))
    have HBO := Lib.hid (rbottom_any n L z h8 HLT.out)
    have HBz := Lib.hid (HB.out.trans (HB1.out.mono HB.out.size))
    have HSz : Hid (w.heap.size + 1 < z.heap.size) := Lib.hid (Nat.lt_of_lt_of_le HS.out HB1.out.size)
    go_upto_region 4 with (first | (refine wl_rload _ rfl ?hw w.heap.size n L rfl HM3.out ?_; case hw => (first | exact wanted_none rfl | exact wanted_if rfl rfl rfl rfl)) | (go_at_call 35; refine HBO.out.mono ?_; rintro e z2 ⟨rfl, hb⟩; have HB2 := Lib.hid hb; clear hb))
    have HM4 := Lib.hid (HM3.out.below HB2.out (by have := HSz.out; omega))
    have HBz2 := Lib.hid (HBz.out.trans (HB2.out.mono HBz.out.size))
    have HSz2 : Hid (w.heap.size + 1 < z2.heap.size) := Lib.hid (Nat.lt_of_lt_of_le HSz.out HB2.out.size)
    have HR2 := Lib.hid (rangeAt_below (rangeAt_below HR.out HB1.out HS.out) HB2.out HSz.out)
    have HCR := Lib.hid (rreads_any t cs z2 ((((HV.out.under HB1.out).more HB1.out.size).under HB2.out).more HB2.out.size))
    go_upto_region 6 with (first | ((with_reducible refine wl_sload 30 _ rfl ?hwb (w.heap.size + 1) 0 cs _ rfl HR2.out Tryz.underlying30 rfl ?hib ?_); (case hwb => (first | exact wanted_none rfl | exact wanted_if rfl rfl rfl rfl)); (case hib => rw [HCL.out]; kernel_rfl)) | (go_at_call 16; refine HCR.out.mono ?_; rintro e w3 ⟨nv, M, rfl, hsl, hmt, hb⟩; have HSL := Lib.hid hsl; have HMT := Lib.hid hmt; have HB3 := Lib.hid (HBz2.out.trans (hb.mono HBz2.out.size)); have HM5 := Lib.hid (HM4.out.below hb (by have := HSz2.out; omega)); have HS3 : Hid (w.heap.size + 1 < w3.heap.size) := Lib.hid (Nat.lt_of_lt_of_le HSz2.out hb.size); obtain ⟨_, NA, nc, hnv, hna⟩ := hsl; subst hnv; have HNA := Lib.hid hna; clear hna hmt hb))
    have HNL : Hid (M.length ≤ 500) := Lib.hid (by have h := readL_len t; rw [← HMT.out, List.length_map] at h; exact h)
    have hnl2 : (M.length : Int) ≤ 500 := by have := HNL.out; omega
    have HMT2 : Hid (labE n L E t = labX n L E (M.map txt)) := Lib.hid (by rw [HMT.out]; exact HX0.out)
    clear HCR HR2 HBO HC HM2 HM3 HM4 HR HSL
    obtain ⟨xa, hxa⟩ : ∃ x, (labE n L E t).1 = x := ⟨_, rfl⟩
    obtain ⟨xb, hxb⟩ : ∃ x, (labE n L E t).2 = x := ⟨_, rfl⟩
    have HX : Hid (labX n L E (M.map txt) = (xa, xb)) := Lib.hid (by rw [← HMT2.out, ← hxa, ← hxb])
    have HXE : Hid ((labE n L E t).1 = xa ∧ (labE n L E t).2 = xb) := Lib.hid ⟨hxa, hxb⟩
    clear hxa hxb
    go_loopg [8, 10] M.length (fun g u i wr => ∃ (j : Nat) (ls : List Int), j + g = M.length ∧ i = .int .i64 j ∧ u = .int .i64 (foldJ n L (bot n L) ls : Nat) ∧ allL n ls = true ∧ labsV E (isL n) (M.map txt) = (ls ++ (labsV E (isL n) ((M.map txt).drop j)).1, (labsV E (isL n) ((M.map txt).drop j)).2) ∧ Below w3.heap.size w3 wr)
    case atStart => exact ⟨0, [], by omega, rfl, rfl, rfl, rfl, Below.refl _ _⟩
    case round =>
      obtain ⟨j, ls, hj, rfl, rfl, hal, hlab, hb⟩ := hrel
      have HLAB := Lib.hid hlab
      have HAL := Lib.hid hal
      have HBW := Lib.hid hb
      have HBK := Lib.hid (HB3.out.trans (hb.mono HB3.out.size))
      have HFL := Lib.hid (foldJ_lt HLT.out ls (bot n L) HLT.out.bot_lt hal)
      clear hlab hb hal
      cases gk with
      | zero =>
        obtain rfl : j = M.length := by omega
        have hge : ¬ ((M.length : Int) < (M.length : Int)) := by omega
        have HLE := Lib.hid (labsV_end (l := M.map txt) (by have := HLAB.out; rw [List.length_map]; exact this))
        have HXX : Hid (((foldJ n L (bot n L) ls : Nat) : Int) = xa ∧ (0 : Int) = xb) := Lib.hid (by
          have h := HX.out
          unfold labX at h
          rw [HLE.out] at h
          simp only [if_true] at h
          injection h with h1 h2
          exact ⟨h1, h2⟩)
        go_wp2
        go_ret2
        exact ⟨by rw [HXE.out.1, HXE.out.2, ← HXX.out.1, ← HXX.out.2]; rfl, HBK.out⟩
      | succ g =>
        have hlt : (j : Int) < (M.length : Int) := by omega
        obtain ⟨s, hs⟩ : ∃ s, M[j]? = some s := ⟨_, List.getElem?_eq_getElem (by omega)⟩
        obtain ⟨ng, no, rfl, hngl, hnc⟩ := HNA.out (by omega)
        obtain ⟨ncs, _, hnr, hne⟩ := hnc j s hs
        have dn := (HBW.out.cell (p := ⟨ng, no + j, none⟩) hngl).trans (by have := hnr 0 (.string s) (by rw [hne]; rfl); simpa using this)
        have HSJ := Lib.hid (map_at hs)
        clear hnc hs hnr hne
        have HCI := Lib.hid (rfind_any E s (.slice EA E.length ec) wr ((HEA.out.below HBK.out fun _ _ _ h => (h.under HBK.out).more HBK.out.size).more HBK.out.size) (by omega))
        have htl : s.toList = txt s := Lib.toList_data s
        rcases findV_find (E := E) (s := s) with ⟨hf, hlo⟩ | ⟨k, x, hf, hk, hlo⟩
        · rw [hf] at HCI
          rw [htl] at hlo
          have HX2 : Hid ((0 : Int) = xa ∧ (11 : Int) = xb) := Lib.hid (by
            have h := HX.out
            unfold labX at h
            rw [(labsV_err HSJ.out HLAB.out).1 hlo] at h
            simp only [show ¬ ((11 : Int) = 0) from by decide, if_false] at h
            injection h with h1 h2
            exact ⟨h1, h2⟩)
          clear hf hlo htl
          go_wp2_with (go_at_call 36; refine HCI.out.mono ?_; rintro e w5 ⟨rfl, h⟩; rw [h]; clear h w5)
          go_ret2
          exact ⟨by rw [HXE.out.1, HXE.out.2, ← HX2.out.1, ← HX2.out.2]; rfl, HBK.out⟩
        · rw [hf] at HCI
          rw [htl] at hlo
          have hkl : k < E.length := (List.getElem?_eq_some_iff.1 hk).1
          obtain ⟨_, EA2, ec2, hve, hea⟩ := HEA.out
          injection hve with e1 _ e2
          subst e1 e2
          obtain ⟨bb, o, rfl, hbl, hc⟩ := hea (by omega)
          obtain ⟨ks, _, hks, hva⟩ := hc k x hk
          obtain ⟨a2, b2, c2, d2, e2, f2, g2, i2, j2, rfl⟩ := var_form hva
          have HKX : Hid (w.cell? ⟨bb, o + k * 11 + 1, none⟩ = some (.int .i64 x.label)) := Lib.hid (hks 1 _ rfl)
          have HBL := Lib.hid hbl
          have hk2 : (k : Int) < (E.length : Int) := by omega
          have hk0 : ¬ ((k : Int) < 0) := by omega
          have HLO := Lib.hid hlo
          clear hf hlo htl hc hks hva hk hea hbl
          go_upto_region 11 with (go_at_call 36; refine HCI.out.mono ?_; rintro e w5 ⟨rfl, h⟩; rw [h]; clear h w5)
          clear dn
          have HMr := Lib.hid (HM5.out.below HBW.out (by have := HS3.out; omega))
          have HDL := Lib.hid ((HBK.out.cell (p := ⟨bb, o + k * 11 + 1, none⟩) HBL.out).trans HKX.out)
          have HSr : Hid (w.heap.size + 1 < wr.heap.size) := Lib.hid (Nat.lt_of_lt_of_le HS3.out HBW.out.size)
          obtain ⟨isx, hisx⟩ : ∃ b, isL n x.label = b := ⟨_, rfl⟩
          have HIS := Lib.hid hisx
          go_cut [40] (fun q z => q = .bool (!isx) ∧ Below wr.heap.size wr z)
          case first =>
            refine wp_region_ord [(0, true), (1, true), (2, true), (3, true), (4, true), (5, true), (6, false), (7, true)] (fun z => Rm z w.heap.size n L ∧ z.cell? ⟨bb, o + k * 11 + 1, none⟩ = some (.int .i64 x.label)) (by kernel_rfl) (by kernel_rfl) (by kernel_rfl) rfl (by intro c a d v w h; cases d <;> exact h) ?_
            have hs9 : Rm wr.drew w.heap.size n L ∧ wr.drew.cell? ⟨bb, o + k * 11 + 1, none⟩ = some (.int .i64 x.label) := ⟨HMr.out.drew, HDL.out⟩
            have HWD : Hid (Below wr.heap.size wr wr.drew) := Lib.hid (Below.refl _ _).drew
            have HSd : Hid (w.heap.size + 1 < wr.drew.heap.size) := HSr
            have HBLd : Hid (bb < wr.drew.heap.size) := Lib.hid (by have := HBL.out; have := HSr.out; show bb < wr.heap.size; omega)
            generalize wr.drew = wd at *
            refine ord_load (some 33) (.agg (rv n L)) _ rfl rfl (by first | exact wanted_none rfl | exact wanted_if rfl rfl rfl rfl) hs9 (fun z hz => exec_rload _ _ rfl _ _ _ rfl hz.1) ?_
            go_frame
            refine ord_move (some 34) (.slice (some ⟨bb, o, none⟩) E.length ec) _ _ rfl rfl rfl (by first | exact wanted_none rfl | exact wanted_if rfl rfl rfl rfl) hs9 rfl ?_
            go_frame
            refine ord_move (some 35) (.int .i64 k) _ _ rfl rfl rfl (by first | exact wanted_none rfl | exact wanted_if rfl rfl rfl rfl) hs9 rfl ?_
            go_frame
            refine ord_load (some 36) (.pointer (some ⟨bb, o + k * 11, none⟩)) _ rfl rfl (by first | exact wanted_none rfl | exact wanted_if rfl rfl rfl rfl) hs9 (fun z _ => by go_simp) ?_
            go_frame
            refine ord_load (some 37) (.pointer (some ⟨bb, o + k * 11 + 1, none⟩)) _ rfl rfl (by first | exact wanted_none rfl | exact wanted_if rfl rfl rfl rfl) hs9 (fun z _ => by go_simp) ?_
            go_frame
            refine ord_load (some 38) (.int .i64 x.label) _ rfl rfl (by first | exact wanted_none rfl | exact wanted_if rfl rfl rfl rfl) hs9 (fun z hz => by have dd := hz.2; go_simp) ?_
            go_frame
            refine ord_to (some 39) 37 Tryz.func37 (by kernel_rfl) (by kernel_rfl) [.agg (rv n L), .int .i64 x.label] _ _ _ rfl rfl rfl (by first | exact wanted_none rfl | exact wanted_if rfl rfl rfl rfl) rfl ?_
            refine (ris_any n L x.label wd).mono ?_
            rintro e z2 ⟨rfl, hb⟩
            refine ⟨_, rfl, ⟨hs9.1.below hb (by have := HSd.out; omega), (hb.cell (p := ⟨bb, o + k * 11 + 1, none⟩) HBLd.out).trans hs9.2⟩, ?_⟩
            go_frame
            have hs8 : Rm z2 w.heap.size n L ∧ z2.cell? ⟨bb, o + k * 11 + 1, none⟩ = some (.int .i64 x.label) := ⟨hs9.1.below hb (by have := HSd.out; omega), (hb.cell (p := ⟨bb, o + k * 11 + 1, none⟩) HBLd.out).trans hs9.2⟩
            have HZB := Lib.hid (HWD.out.trans (hb.mono HWD.out.size))
            refine ord_load (some 40) (.bool (!isx)) _ rfl rfl (by first | exact wanted_none rfl | exact wanted_if rfl rfl rfl rfl) hs8 (fun z _ => by rw [← hisx]; go_simp) ?_
            go_frame
            refine ord_end ?_
            go_wp2
            go_meet
            case rel => exact ⟨rfl, HZB.out⟩
          case rest =>
          obtain ⟨rfl, hbc⟩ := hcut
          have HBC := Lib.hid hbc
          have HBKc := Lib.hid (HBK.out.trans (hbc.mono HBK.out.size))
          have HBWc := Lib.hid (HBW.out.trans (hbc.mono HBW.out.size))
          clear hbc hisx
          cases isx with
          | false =>
            have HX2 : Hid ((0 : Int) = xa ∧ (3 : Int) = xb) := Lib.hid (by
              have h := HX.out
              unfold labX at h
              rw [(labsV_err HSJ.out HLAB.out).2 _ HLO.out HIS.out] at h
              simp only [show ¬ ((3 : Int) = 0) from by decide, if_false] at h
              injection h with h1 h2
              exact ⟨h1, h2⟩)
            go_wp2
            go_ret2
            exact ⟨by rw [HXE.out.1, HXE.out.2, ← HX2.out.1, ← HX2.out.2]; rfl, HBKc.out⟩
          | true =>
            have HST := Lib.hid (labsV_step HSJ.out _ HLO.out HIS.out HLAB.out)
            obtain ⟨y, hy, hyn⟩ := isL_true HIS.out
            go_upto_region 13 with (fail)
            have HMc := Lib.hid (HMr.out.below HBC.out (by have := HSr.out; omega))
            have HDc := Lib.hid ((HBKc.out.cell (p := ⟨bb, o + k * 11 + 1, none⟩) HBL.out).trans HKX.out)
            rw [hy] at HDc HST
            have HYN : Hid (y < n) := Lib.hid (by simpa using hyn)
            have HJS := Lib.hid (HLT.out.jj_spec HFL.out HYN.out).1
            have HALN : Hid (allL n (ls ++ [(y : Int)]) = true) := Lib.hid (by unfold allL; rw [List.all_append]; have h1 := HAL.out; unfold allL at h1; rw [h1]; simp; exact isL_nat HYN.out)
            obtain ⟨fo, hfo⟩ : ∃ q, foldJ n L (bot n L) ls = q := ⟨_, rfl⟩
            have HFS : Hid (foldJ n L (bot n L) (ls ++ [(y : Int)]) = jj n L fo y) := Lib.hid (by rw [foldJ_snoc, hfo]; rfl)
            rw [hfo] at HJS HFL
            rw [hfo]
            clear hfo hy hyn
            refine wp_region_ord [(0, true), (1, true), (2, true), (3, true), (4, true), (5, true), (6, true), (7, false), (8, true)] (fun z => Rm z w.heap.size n L ∧ z.cell? ⟨bb, o + k * 11 + 1, none⟩ = some (.int .i64 y)) (by kernel_rfl) (by kernel_rfl) (by kernel_rfl) rfl (by intro c a d v w h; cases d <;> exact h) ?_
            have hs9 : Rm wc.drew w.heap.size n L ∧ wc.drew.cell? ⟨bb, o + k * 11 + 1, none⟩ = some (.int .i64 y) := ⟨HMc.out.drew, HDc.out⟩
            have HWD : Hid (Below w3.heap.size w3 wc.drew) := Lib.hid HBWc.out.drew
            have HSd : Hid (w.heap.size + 1 < wc.drew.heap.size) := Lib.hid (Nat.lt_of_lt_of_le HSr.out HBC.out.size)
            have HBLd : Hid (bb < wc.drew.heap.size) := Lib.hid (by have := HBL.out; have := HSd.out; omega)
            generalize wc.drew = wd at *
            refine ord_load (some 41) (.agg (rv n L)) _ rfl rfl (by first | exact wanted_none rfl | exact wanted_if rfl rfl rfl rfl) hs9 (fun z hz => exec_rload _ _ rfl _ _ _ rfl hz.1) ?_
            go_frame
            refine ord_move (some 42) (.int .i64 fo) _ _ rfl rfl rfl (by first | exact wanted_none rfl | exact wanted_if rfl rfl rfl rfl) hs9 rfl ?_
            go_frame
            refine ord_move (some 43) (.slice (some ⟨bb, o, none⟩) E.length ec) _ _ rfl rfl rfl (by first | exact wanted_none rfl | exact wanted_if rfl rfl rfl rfl) hs9 rfl ?_
            go_frame
            refine ord_move (some 44) (.int .i64 k) _ _ rfl rfl rfl (by first | exact wanted_none rfl | exact wanted_if rfl rfl rfl rfl) hs9 rfl ?_
            go_frame
            refine ord_load (some 45) (.pointer (some ⟨bb, o + k * 11, none⟩)) _ rfl rfl (by first | exact wanted_none rfl | exact wanted_if rfl rfl rfl rfl) hs9 (fun z _ => by go_simp) ?_
            go_frame
            refine ord_load (some 46) (.pointer (some ⟨bb, o + k * 11 + 1, none⟩)) _ rfl rfl (by first | exact wanted_none rfl | exact wanted_if rfl rfl rfl rfl) hs9 (fun z _ => by go_simp) ?_
            go_frame
            refine ord_load (some 47) (.int .i64 y) _ rfl rfl (by first | exact wanted_none rfl | exact wanted_if rfl rfl rfl rfl) hs9 (fun z hz => by have dd := hz.2; go_simp) ?_
            go_frame
            refine ord_to (some 48) 38 Tryz.func38 (by kernel_rfl) (by kernel_rfl) [.agg (rv n L), .int .i64 fo, .int .i64 y] _ _ _ rfl rfl rfl (by first | exact wanted_none rfl | exact wanted_if rfl rfl rfl rfl) rfl ?_
            refine (rjoin_any n L fo y wd h8 (by have := HFL.out; omega) (by have := HYN.out; omega)).mono ?_
            rintro e z2 ⟨rfl, hb⟩
            have hs8 : Rm z2 w.heap.size n L ∧ z2.cell? ⟨bb, o + k * 11 + 1, none⟩ = some (.int .i64 y) := ⟨hs9.1.below hb (by have := HSd.out; omega), (hb.cell (p := ⟨bb, o + k * 11 + 1, none⟩) HBLd.out).trans hs9.2⟩
            refine ⟨_, rfl, hs8, ?_⟩
            go_frame
            rw [HJS.out]
            have HZB := Lib.hid (HWD.out.trans (hb.mono HWD.out.size))
            clear hb hs9
            refine ord_assign (some 8) (.int .i64 (jj n L fo y : Nat)) _ _ rfl rfl rfl (by first | exact wanted_none rfl | exact wanted_if rfl rfl rfl rfl) hs8 rfl ?_
            go_frame
            refine ord_end ?_
            clear hs8
            go_wp2
            go_roundg g
            case measure => omega
            case rel => exact ⟨j + 1, ls ++ [(y : Int)], by omega, by go_num, by rw [HFS.out], HALN.out, HST.out, HZB.out⟩
end Go.Proofs.YtppmkehdhpgdcaaGreat
end
section
namespace Go.Proofs.YtppmkehdhpgdcaaGreat
open Go Go.RowKit P
set_option linter.unusedVariables false
set_option linter.unusedSimpArgs false
set_option maxHeartbeats 4000000 in
set_option maxRecDepth 100000 in
theorem rall_any (n : Nat) (L : Rel) (l : List ET) (E : List VarT) (u v : Value) (w : World) (h8 : n ≤ 8) (hl : Lat n L) (hu : SlAt w w.heap.size 10 (ExpAt w w.heap.size) u l) (hE : SlAt w w.heap.size 11 (VarAt w w.heap.size) v E) (hlen : E.length ≤ 10000) (hll : l.length ≤ 10000) :
    Calls Tryz.prog 18 #[.agg (rv n L), u, v] w fun e w' => e = .returned (.tuple #[.int .i64 (allX n L E l).1, .int .i64 (allX n L E l).2]) ∧ Below w.heap.size w w' := by
  have HM := Lib.hid (Rm.new w n L 36)
  have HB := Lib.hid (box_below w (.cells (rv n L) 36))
  have HS := Lib.hid (box_size w (.cells (rv n L) 36))
  have HLT := Lib.hid hl
  have HEA := Lib.hid hE
  have HUA := Lib.hid hu
  obtain ⟨_, EA, ec, rfl, _⟩ := hE
  obtain ⟨_, XA, xc, rfl, _⟩ := hu
  have hll2 : (l.length : Int) ≤ 10000 := by omega
  obtain ⟨xa, hxa⟩ : ∃ x, (allX n L E l).1 = x := ⟨_, rfl⟩
  obtain ⟨xb, hxb⟩ : ∃ x, (allX n L E l).2 = x := ⟨_, rfl⟩
  have HX : Hid (allX n L E l = (xa, xb)) := Lib.hid (by rw [← hxa, ← hxb])
  rw [hxa, hxb]
  clear hxa hxb hl
  go_enter Tryz.func18, Tryz.ntmps18
  go_upto_region 1 with (fail)
  generalize w.alloc (.cells (rv n L) 36) = W at *
  have HBO := Lib.hid (rbottom_any n L W h8 HLT.out)
  go_upto_region 3 with (first | (refine wl_rload _ rfl ?hw w.heap.size n L rfl HM.out ?_; case hw => (first | exact wanted_none rfl | exact wanted_if rfl rfl rfl rfl)) | (go_at_call 35; refine HBO.out.mono ?_; rintro e w3 ⟨rfl, hb⟩; have HB3 := Lib.hid (HB.out.trans (hb.mono HB.out.size)); have HM5 := Lib.hid (HM.out.below hb HS.out); have HS3 : Hid (w.heap.size < w3.heap.size) := Lib.hid (Nat.lt_of_lt_of_le HS.out hb.size); clear hb))
  go_loopg [8, 9] l.length (fun g u i wr => ∃ (j : Nat) (ls : List Int), j + g = l.length ∧ i = .int .i64 j ∧ u = .int .i64 (foldJ n L (bot n L) ls : Nat) ∧ allL n ls = true ∧ allsV n L E l = (ls ++ (allsV n L E (l.drop j)).1, (allsV n L E (l.drop j)).2) ∧ Below w3.heap.size w3 wr)
  case atStart => exact ⟨0, [], by omega, rfl, rfl, rfl, rfl, Below.refl _ _⟩
  case round =>
    obtain ⟨j, ls, hj, rfl, rfl, hal, hlab, hb⟩ := hrel
    have HLAB := Lib.hid hlab
    have HAL := Lib.hid hal
    have HBW := Lib.hid hb
    have HBK := Lib.hid (HB3.out.trans (hb.mono HB3.out.size))
    have HFL := Lib.hid (foldJ_lt HLT.out ls (bot n L) HLT.out.bot_lt hal)
    clear hlab hb hal
    cases gk with
    | zero =>
      obtain rfl : j = l.length := by omega
      have hge : ¬ ((l.length : Int) < (l.length : Int)) := by omega
      have HLE := Lib.hid (allsV_end HLAB.out)
      have HXX : Hid (((foldJ n L (bot n L) ls : Nat) : Int) = xa ∧ (0 : Int) = xb) := Lib.hid (by
        have h := HX.out
        unfold allX at h
        rw [HLE.out] at h
        simp only [if_true] at h
        injection h with h1 h2
        exact ⟨h1, h2⟩)
      go_wp2
      go_ret2
      exact ⟨by rw [← HXX.out.1, ← HXX.out.2]; rfl, HBK.out⟩
    | succ g =>
      have hlt : (j : Int) < (l.length : Int) := by omega
      obtain ⟨t, ht⟩ : ∃ t, l[j]? = some t := ⟨_, List.getElem?_eq_getElem (by omega)⟩
      obtain ⟨_, XA2, xc2, hve, hea⟩ := HUA.out
      injection hve with e1 _ e2
      subst e1 e2
      obtain ⟨bb, o, rfl, hbl, hc⟩ := hea (by omega)
      obtain ⟨ks, hkl, hks, hvx⟩ := hc j t ht
      have HKS := Lib.hid (rangeAt_below hks HBK.out hbl)
      have HBL := Lib.hid hbl
      have HCL := Lib.hid hkl
      have HV := Lib.hid hvx
      have HTJ := Lib.hid ht
      clear hc hks hvx ht hkl hea hbl
      go_upto_region 5 with (fail)
      have HMr := Lib.hid (HM5.out.below HBW.out HS3.out)
      have HSr : Hid (w.heap.size < wr.heap.size) := Lib.hid (Nat.lt_of_lt_of_le HS3.out HBW.out.size)
      obtain ⟨ya, hya⟩ : ∃ x, (labE n L E t).1 = x := ⟨_, rfl⟩
      obtain ⟨yb, hyb⟩ : ∃ x, (labE n L E t).2 = x := ⟨_, rfl⟩
      have HYA := Lib.hid hya
      have HYB := Lib.hid hyb
      go_cut [10, 11] (fun q r z => q = .int .i64 ya ∧ r = .int .i64 yb ∧ Below wr.heap.size wr z)
      case first =>
        refine wp_region_ord [(0, true), (1, true), (2, true), (3, true), (4, true), (5, true), (6, false), (7, true), (8, true), (9, true), (10, true), (11, true)] (fun z => Rm z w.heap.size n L ∧ z.rangeAt bb (o + j * 10) ks) (by kernel_rfl) (by kernel_rfl) (by kernel_rfl) rfl (by intro c a d v w h; cases d <;> exact h) ?_
        have hs9 : Rm wr.drew w.heap.size n L ∧ wr.drew.rangeAt bb (o + j * 10) ks := ⟨HMr.out.drew, HKS.out⟩
        have HWD : Hid (Below wr.heap.size wr wr.drew) := Lib.hid (Below.refl _ _).drew
        have HSd : Hid (w.heap.size < wr.drew.heap.size) := HSr
        have HBLd : Hid (bb < wr.drew.heap.size) := Lib.hid (by have := HBL.out; have := HSr.out; show bb < wr.heap.size; omega)
        have HBKd : Hid (Below w.heap.size w wr.drew) := Lib.hid HBK.out.drew
        generalize wr.drew = wd at *
        refine ord_load (some 21) (.agg (rv n L)) _ rfl rfl (by first | exact wanted_none rfl | exact wanted_if rfl rfl rfl rfl) hs9 (fun z hz => exec_rload _ _ rfl _ _ _ rfl hz.1) ?_
        go_frame
        refine ord_move (some 22) (.slice (some ⟨bb, o, none⟩) l.length xc) _ _ rfl rfl rfl (by first | exact wanted_none rfl | exact wanted_if rfl rfl rfl rfl) hs9 rfl ?_
        go_frame
        refine ord_move (some 23) (.int .i64 j) _ _ rfl rfl rfl (by first | exact wanted_none rfl | exact wanted_if rfl rfl rfl rfl) hs9 rfl ?_
        go_frame
        refine ord_load (some 24) (.pointer (some ⟨bb, o + j * 10, none⟩)) _ rfl rfl (by first | exact wanted_none rfl | exact wanted_if rfl rfl rfl rfl) hs9 (fun z _ => by go_simp) ?_
        go_frame
        refine ord_load (some 25) (.agg ks.toArray) _ rfl rfl (by first | exact wanted_none rfl | exact wanted_if rfl rfl rfl rfl) hs9 (fun z hz => exec_sload 30 rfl bb (o + j * 10) ks _ rfl hz.2 Tryz.underlying30 rfl (by rw [HCL.out]; kernel_rfl)) ?_
        go_frame
        refine ord_move (some 26) (.slice EA E.length ec) _ _ rfl rfl rfl (by first | exact wanted_none rfl | exact wanted_if rfl rfl rfl rfl) hs9 rfl ?_
        go_frame
        refine ord_to (some 27) 13 Tryz.func13 (by kernel_rfl) (by kernel_rfl) [.agg (rv n L), .agg ks.toArray, .slice EA E.length ec] _ _ _ rfl rfl rfl (by first | exact wanted_none rfl | exact wanted_if rfl rfl rfl rfl) rfl ?_
        refine (rlabel_any n L t E ks (.slice EA E.length ec) wd h8 HLT.out ((HV.out.under HBKd.out).more HBKd.out.size) ((HEA.out.below HBKd.out fun _ _ _ h => (h.under HBKd.out).more HBKd.out.size).more HBKd.out.size) hlen).mono ?_
        rintro e z2 ⟨rfl, hb⟩
        rw [hya, hyb]
        have hs8 : Rm z2 w.heap.size n L ∧ z2.rangeAt bb (o + j * 10) ks := ⟨hs9.1.below hb HSd.out, rangeAt_below hs9.2 hb HBLd.out⟩
        refine ⟨_, rfl, hs8, ?_⟩
        go_frame
        have HZB := Lib.hid (HWD.out.trans (hb.mono HWD.out.size))
        clear hb hs9 hya hyb
        refine ord_move (some 20) (.tuple #[.int .i64 ya, .int .i64 yb]) _ _ rfl rfl rfl (by first | exact wanted_none rfl | exact wanted_if rfl rfl rfl rfl) hs8 rfl ?_
        go_frame
        refine ord_load (some 28) (.int .i64 ya) _ rfl rfl (by first | exact wanted_none rfl | exact wanted_if rfl rfl rfl rfl) hs8 (fun z _ => by go_simp) ?_
        go_frame
        refine ord_load (some 29) (.int .i64 yb) _ rfl rfl (by first | exact wanted_none rfl | exact wanted_if rfl rfl rfl rfl) hs8 (fun z _ => by go_simp) ?_
        go_frame
        refine ord_assign (some 10) (.int .i64 ya) _ _ rfl rfl rfl (by first | exact wanted_none rfl | exact wanted_if rfl rfl rfl rfl) hs8 rfl ?_
        go_frame
        refine ord_assign (some 11) (.int .i64 yb) _ _ rfl rfl rfl (by first | exact wanted_none rfl | exact wanted_if rfl rfl rfl rfl) hs8 rfl ?_
        go_frame
        refine ord_end ?_
        clear hs8
        go_wp2
        go_meet
        case rel => exact ⟨rfl, rfl, HZB.out⟩
      case rest =>
      obtain ⟨rfl, rfl, hbc⟩ := hcut
      have HBC := Lib.hid hbc
      have HBKc := Lib.hid (HBK.out.trans (hbc.mono HBK.out.size))
      have HBWc := Lib.hid (HBW.out.trans (hbc.mono HBW.out.size))
      clear hbc hya hyb
      by_cases hy : yb = 0
      · have h0 := HYB.out.trans hy
        have HST := Lib.hid (allsV_step HTJ.out h0 HLAB.out)
        have HIS := Lib.hid (labE_isL HLT.out E t h0)
        rw [HYA.out] at HST HIS
        obtain ⟨y, rfl, hyn⟩ := isL_true HIS.out
        have HYN : Hid (y < n) := Lib.hid (by simpa using hyn)
        subst hy
        clear h0 hyn
        have HMc := Lib.hid (HMr.out.below HBC.out HSr.out)
        have HJS := Lib.hid (HLT.out.jj_spec HFL.out HYN.out).1
        have HALN : Hid (allL n (ls ++ [(y : Int)]) = true) := Lib.hid (by unfold allL; rw [List.all_append]; have h1 := HAL.out; unfold allL at h1; rw [h1]; simp; exact isL_nat HYN.out)
        obtain ⟨fo, hfo⟩ : ∃ q, foldJ n L (bot n L) ls = q := ⟨_, rfl⟩
        have HFS : Hid (foldJ n L (bot n L) (ls ++ [(y : Int)]) = jj n L fo y) := Lib.hid (by rw [foldJ_snoc, hfo]; rfl)
        rw [hfo] at HJS HFL
        rw [hfo]
        clear hfo
        have HJC := Lib.hid (rjoin_any n L fo y wc h8 (by have := HFL.out; omega) (by have := HYN.out; omega))
        rw [HJS.out] at HJC
        go_wp2_with (first | (refine wl_rload _ rfl ?hw w.heap.size n L rfl HMc.out ?_; case hw => (first | exact wanted_none rfl | exact wanted_if rfl rfl rfl rfl)) | (go_at_call 38; refine HJC.out.mono ?_; rintro e z5 ⟨rfl, hb⟩; have HB9 := Lib.hid (HBWc.out.trans (hb.mono HBWc.out.size)); clear hb))
        go_roundg g
        case measure => omega
        case rel => exact ⟨j + 1, ls ++ [(y : Int)], by omega, by go_num, by rw [HFS.out], HALN.out, HST.out, HB9.out⟩
      · have hyn : (yb != 0) = true := by simpa using hy
        have HX2 : Hid ((0 : Int) = xa ∧ yb = xb) := Lib.hid (by
          have h := HX.out
          have he := allsV_err HTJ.out (by rw [HYB.out]; exact hy) HLAB.out
          unfold allX at h
          rw [he, HYB.out, if_neg hy] at h
          injection h with h1 h2
          exact ⟨h1, h2⟩)
        clear hy
        go_wp2
        go_ret2
        exact ⟨by rw [← HX2.out.1, ← HX2.out.2]; rfl, HBKc.out⟩
end Go.Proofs.YtppmkehdhpgdcaaGreat
end
section
namespace Go.Proofs.YtppmkehdhpgdcaaGreat
open Go Go.RowKit P
set_option linter.unusedVariables false
set_option linter.unusedSimpArgs false
def NameR (cs : List Value) (x : List UInt8) : Prop := cs = [.string ⟨x.toArray⟩]
theorem names_own {w : World} {base : Nat} {v : Value} {l : List (List UInt8)} (h : w.ownsRow base 9 1 v l.length (l.map encStr)) (hl : l.length ≤ 500) : SlAt w w.heap.size 1 NameR v l := by
  obtain ⟨A, c, rfl⟩ := own_form h
  refine ⟨by omega, A, c, rfl, fun h0 => ?_⟩
  obtain ⟨g, rfl, hg, hc⟩ := names_cell h h0
  refine ⟨g, 0, rfl, hg, fun i x hx => ⟨[.string ⟨x.toArray⟩], rfl, fun j u hu => ?_, rfl⟩⟩
  match j, hu with
  | 0, hu =>
    simp at hu
    subst hu
    have := hc i x hx
    rw [show 0 + i * 1 + 0 = i by omega]; exact this
  | j + 1, hu => simp at hu
theorem names_map {w : World} {B : Nat} {v : Value} {M : List ByteArray} {l : List (List UInt8)} (h : SlAt w B 1 (Enc encB) v M) (hm : M.map txt = l) : SlAt w B 1 NameR v l := by
  subst hm
  obtain ⟨h0, A, c, rfl, h1⟩ := h
  refine ⟨by rw [List.length_map]; exact h0, A, c, by rw [List.length_map], fun hp => ?_⟩
  rw [List.length_map] at hp
  obtain ⟨b, o, rfl, hb, hc⟩ := h1 hp
  refine ⟨b, o, rfl, hb, fun i x hx => ?_⟩
  rw [List.getElem?_map, Option.map_eq_some_iff] at hx
  obtain ⟨s, hs, rfl⟩ := hx
  obtain ⟨cs, h2, h3, h4⟩ := hc i s hs
  exact ⟨cs, h2, h3, h4⟩
theorem name_cell {w : World} {b o : Nat} {l : List (List UInt8)} (hc : ∀ (i : Nat) x, l[i]? = some x → ∃ cs : List Value, cs.length = 1 ∧ w.rangeAt b (o + i * 1) cs ∧ NameR cs x) {j : Nat} {x : List UInt8} (hx : l[j]? = some x) :
    w.cell? ⟨b, o + j, none⟩ = some (.string ⟨x.toArray⟩) := by
  obtain ⟨cs, _, hr, he⟩ := hc j x hx
  have := hr 0 (.string ⟨x.toArray⟩) (by rw [he]; rfl)
  simpa using this
set_option maxHeartbeats 1000000 in
set_option maxRecDepth 100000 in
theorem rsame11 (u v : Value) (l : List (List UInt8)) (w : World) (hu : SlAt w w.heap.size 1 NameR u l) (hv : SlAt w w.heap.size 1 NameR v l) (hl : l.length ≤ 500) :
    Calls Tryz.prog 14 #[u, v] w fun e w' => e = .returned (.bool true) ∧ Below w.heap.size w w' := by
  obtain ⟨_, A, c, rfl, hA⟩ := hu
  obtain ⟨_, D, c', rfl, hD⟩ := hv
  have HA := Lib.hid hA
  have HD := Lib.hid hD
  have hl2 : (l.length : Int) ≤ 500 := by omega
  clear hA hD
  go_enter Tryz.func14, Tryz.ntmps14
  go_wp2
  go_loopg [5] l.length (fun g i wr => ∃ j : Nat, j + g = l.length ∧ i = .int .i64 j ∧ Below w.heap.size w wr)
  case atStart => exact ⟨0, by omega, rfl, Below.refl _ _⟩
  case round =>
    obtain ⟨j, hj, rfl, hb⟩ := hrel
    have HB := Lib.hid hb
    cases gk with
    | zero =>
      obtain rfl : j = l.length := by omega
      have hge : ¬ ((l.length : Int) < (l.length : Int)) := by omega
      clear hb
      go_wp2
      go_ret
      exact ⟨rfl, HB.out⟩
    | succ g =>
      have hlt : (j : Int) < (l.length : Int) := by omega
      obtain ⟨x, hx⟩ : ∃ x, l[j]? = some x := ⟨_, List.getElem?_eq_getElem (by omega)⟩
      obtain ⟨b1, o1, rfl, hb1, hc1⟩ := HA.out (by omega)
      obtain ⟨b2, o2, rfl, hb2, hc2⟩ := HD.out (by omega)
      have d1 := (hb.cell (p := ⟨b1, o1 + j, none⟩) hb1).trans (name_cell hc1 hx)
      have d2 := (hb.cell (p := ⟨b2, o2 + j, none⟩) hb2).trans (name_cell hc2 hx)
      clear hb hx hc1 hc2 hb1 hb2
      generalize (⟨x.toArray⟩ : ByteArray) = s at *
      have hs : (s.toList == s.toList) = true := by simp
      go_upto_region 6 with (fail)
      go_quiet (fail)
      go_wp2
      go_roundg g
      case measure => omega
      case rel => exact ⟨j + 1, by omega, by go_num, below_drewN HB.out _⟩
def zvarC (nm : ByteArray) (l : Int) : List Value := [.string nm, .int .i64 l, .int .i64 0, .slice none 0 0, .slice none 0 0, .int .i64 0, .int .i64 0, .float .f64 0, .string ⟨#[]⟩, .slice none 0 0, .slice none 0 0]
def zvar (nm : ByteArray) (l : Int) : VarT := ⟨nm, l, .mk 0 [] [], .mk 0 0 0 ⟨#[]⟩ [] []⟩
theorem zvar_at (w : World) (B : Nat) (nm : ByteArray) (l : Int) (hn : nm.size ≤ maxLen) (hl : wfI l) : VarAt w B (zvarC nm l) (zvar nm l) where
  ex := ⟨[.int .i64 0, .slice none 0 0, .slice none 0 0], [.int .i64 0, .int .i64 0, .float .f64 0, .string ⟨#[]⟩, .slice none 0 0, .slice none 0 0], rfl, rfl, rfl,
    TypAt.of (wf_int 0 (by decide +kernel)) (SlAt.nil _ _ _ _) (by unfold maxLen; simp) (SlAt.nil _ _ _ _),
    ValAt.of (wf_int 0 (by decide +kernel)) (wf_int 0 (by decide +kernel)) (by decide +kernel) (Nat.zero_le _) (SlAt.nil _ _ _ _) (by unfold maxLen; simp) (SlAt.nil _ _ _ _)⟩
  name := hn
  label := hl
theorem vars_two (w : World) (a b : ByteArray) (i j : Int) (ha : a.size ≤ maxLen) (hb : b.size ≤ maxLen) (hi : wfI i) (hj : wfI j) :
    SlAt (w.alloc (.cells ⟨zvarC a i ++ zvarC b j⟩ 64)) (w.alloc (.cells ⟨zvarC a i ++ zvarC b j⟩ 64)).heap.size 11 (VarAt (w.alloc (.cells ⟨zvarC a i ++ zvarC b j⟩ 64)) (w.alloc (.cells ⟨zvarC a i ++ zvarC b j⟩ 64)).heap.size) (.slice (some ⟨w.heap.size, 0, none⟩) 2 2) [zvar a i, zvar b j] := by
  have hr := range_box w (zvarC a i ++ zvarC b j) 64
  refine ⟨by simp, _, 2, rfl, fun _ => ⟨w.heap.size, 0, rfl, by simp, fun k x hx => ?_⟩⟩
  match k, hx with
  | 0, hx =>
    simp at hx
    subst hx
    refine ⟨zvarC a i, rfl, fun p u hu => ?_, zvar_at _ _ a i ha hi⟩
    exact hr p u (by rw [List.getElem?_append_left (List.getElem?_eq_some_iff.1 hu).1]; exact hu)
  | 1, hx =>
    simp at hx
    subst hx
    refine ⟨zvarC b j, rfl, fun p u hu => ?_, zvar_at _ _ b j hb hj⟩
    have := hr (11 + p) u (by rw [List.getElem?_append_right (by show 11 ≤ 11 + p; omega), show 11 + p - (zvarC a i).length = p by show 11 + p - 11 = p; omega]; exact hu)
    rw [show 0 + 1 * 11 + p = 0 + (11 + p) by omega]; exact this
  | k + 2, hx => simp at hx
end Go.Proofs.YtppmkehdhpgdcaaGreat
end
section
namespace Go.Proofs.YtppmkehdhpgdcaaGreat
open Go Go.RowKit P
set_option linter.unusedVariables false
set_option linter.unusedSimpArgs false
def ps2 : List (Int × Int) := [(0, 1)]
def L2 : Rel := ordOf 2 ps2
theorem mk2 : makeE 2 ps2 = 0 := by decide +kernel
def E11 : List VarT := [zvar ⟨#[120]⟩ 1, zvar ⟨#[121]⟩ 0]
theorem lb_xy : labE 2 L2 E11 ex_xy = (1, 0) := by decide +kernel
theorem lb_three : labE 2 L2 E11 ex_three = (0, 0) := by decide +kernel
theorem lb_z : labE 2 L2 E11 ex_z = (0, 11) := by decide +kernel
theorem rd_bab : readL ex_bab = [[97], [98]] := by decide +kernel
theorem rp_xy : replE ⟨#[120]⟩ ex_one ex_xy = ex_oney := by kernel_rfl
theorem sm_oney : sameE ex_oney ex_oney = true := by decide +kernel
theorem ps_xy : ∀ w, Calls Tryz.prog 21 #[.string ⟨#[120, 43, 121]⟩] w fun e w' => ∃ cs, e = .returned (.agg ⟨cs⟩) ∧ ExpAt w' w'.heap.size cs ex_xy ∧ Below w.heap.size w w' := parsed_any tx_xy ex_xy (parse_any tx_xy tk_xy ex_xy 2 (by decide) lx_xy (by decide) (by decide) (fun pb tb c => pcx_xy pb tb c _) (by decide) rt_xy)
theorem ps_three : ∀ w, Calls Tryz.prog 21 #[.string ⟨#[51]⟩] w fun e w' => ∃ cs, e = .returned (.agg ⟨cs⟩) ∧ ExpAt w' w'.heap.size cs ex_three ∧ Below w.heap.size w w' := parsed_any tx_three ex_three (parse_any tx_three tk_three ex_three 2 (by decide) lx_three (by decide) (by decide) (fun pb tb c => pcx_three pb tb c _) (by decide) rt_three)
theorem ps_z : ∀ w, Calls Tryz.prog 21 #[.string ⟨#[122]⟩] w fun e w' => ∃ cs, e = .returned (.agg ⟨cs⟩) ∧ ExpAt w' w'.heap.size cs ex_z ∧ Below w.heap.size w w' := parsed_any tx_z ex_z (parse_any tx_z tk_z ex_z 2 (by decide) lx_z (by decide) (by decide) (fun pb tb c => pcx_z pb tb c _) (by decide) rt_z)
theorem ps_one : ∀ w, Calls Tryz.prog 21 #[.string ⟨#[49]⟩] w fun e w' => ∃ cs, e = .returned (.agg ⟨cs⟩) ∧ ExpAt w' w'.heap.size cs ex_one ∧ Below w.heap.size w w' := parsed_any tx_one ex_one (parse_any tx_one tk_one ex_one 2 (by decide) lx_one (by decide) (by decide) (fun pb tb c => pcx_one pb tb c _) (by decide) rt_one)
theorem ps_bab : ∀ w, Calls Tryz.prog 21 #[.string ⟨#[98, 43, 97, 43, 98]⟩] w fun e w' => ∃ cs, e = .returned (.agg ⟨cs⟩) ∧ ExpAt w' w'.heap.size cs ex_bab ∧ Below w.heap.size w w' := parsed_any tx_bab ex_bab (parse_any tx_bab tk_bab ex_bab 2 (by decide) lx_bab (by decide) (by decide) (fun pb tb c => pcx_bab pb tb c _) (by decide) rt_bab)
theorem ps_oney : ∀ w, Calls Tryz.prog 21 #[.string ⟨#[49, 43, 121]⟩] w fun e w' => ∃ cs, e = .returned (.agg ⟨cs⟩) ∧ ExpAt w' w'.heap.size cs ex_oney ∧ Below w.heap.size w w' := parsed_any tx_oney ex_oney (parse_any tx_oney tk_oney ex_oney 2 (by decide) lx_oney (by decide) (by decide) (fun pb tb c => pcx_oney pb tb c _) (by decide) rt_oney)
theorem fit_leaf (k : Int) (s : ByteArray) (v : VT) : FitE (.mk k s v [] []) := .mk (by simp) (by simp) (fun x hx => by cases hx)
theorem fit_xy : FitE ex_xy := .mk (by simp) (by show 2 * 160 ≤ 140737488351232; omega) (fun x hx => by
  simp only [List.mem_cons, List.not_mem_nil, or_false] at hx
  rcases hx with rfl | rfl
  · exact fit_leaf _ _ _
  · exact fit_leaf _ _ _)
theorem fit_one : FitE ex_one := fit_leaf _ _ _
def t11r : OrdT := .act 22 (.take 23 (.take 24 (.take 25 (.act 26 (.act 27 (.take 28 (.take 29 .done)))))))
def t11 : OrdT := OrdT.of [(0, true), (1, true), (2, true), (3, true), (4, true), (5, true), (6, true), (7, true), (8, true), (9, true), (10, true), (11, true), (12, true), (13, true), (14, true), (15, true), (16, true), (17, true), (18, true)] (.two 19 21 (.two 20 21 (.act 21 t11r) (.act 20 t11r)) (.act 19 (.act 20 t11r)))
set_option maxHeartbeats 8000000 in
set_option maxRecDepth 100000 in
theorem awake11 (w : World) : Calls Tryz.prog 7 #[] w fun e w' => e = .returned (.bool true) ∧ Below w.heap.size w w' := by
  go_enter Tryz.func7, Tryz.ntmps7
  go_wp2_with fail
  refine (make_ok 2 _ 1 1 ps2 _ rfl (Pairs.new w ps2 _ _ rfl (by unfold okPs ps2; decide) (by decide)) mk2).mono ?_
  rintro e w1 ⟨rfl, hl, hb⟩
  have HL1 := Lib.hid hl
  have HB1 : Hid (Below w.heap.size w w1) := Lib.hid ((box_below w _).trans (hb.mono (by simp)))
  clear hl hb
  obtain ⟨lb, hlb⟩ : ∃ lb, (w.alloc (.cells (pcells ps2).toArray 59)).heap.size = lb := ⟨_, rfl⟩
  have hlb2 : w.heap.size + 1 = lb := by rw [← hlb]; simp
  have HL2 : Hid (LatR w1 lb 2 L2) := Lib.hid (by rw [← hlb]; exact HL1.out)
  go_upto_region 3 with (fail)
  clear hlb hlb2 HL1
  have HV := Lib.hid (vars_two w1 ⟨#[120]⟩ ⟨#[121]⟩ 1 0 (by decide) (by decide) (wf_int 1 (by decide +kernel)) (wf_int 0 (by decide +kernel)))
  have HB2 := Lib.hid (box_below w1 (.cells ⟨zvarC ⟨#[120]⟩ 1 ++ zvarC ⟨#[121]⟩ 0⟩ 64))
  show Code.wp _ _ _ _ (w1.alloc (.cells ⟨zvarC ⟨#[120]⟩ 1 ++ zvarC ⟨#[121]⟩ 0⟩ 64))
  have HBX := Lib.hid (HB1.out.trans (HB2.out.mono HB1.out.size))
  have HLX := Lib.hid (HL2.out.here HB2.out)
  have HVX : Hid (SlAt (w1.alloc (.cells ⟨zvarC ⟨#[120]⟩ 1 ++ zvarC ⟨#[121]⟩ 0⟩ 64)) (w1.alloc (.cells ⟨zvarC ⟨#[120]⟩ 1 ++ zvarC ⟨#[121]⟩ 0⟩ 64)).heap.size 11 (VarAt (w1.alloc (.cells ⟨zvarC ⟨#[120]⟩ 1 ++ zvarC ⟨#[121]⟩ 0⟩ 64)) (w1.alloc (.cells ⟨zvarC ⟨#[120]⟩ 1 ++ zvarC ⟨#[121]⟩ 0⟩ 64)).heap.size) (.slice (some ⟨w1.heap.size, 0, none⟩) 2 2) E11) := Lib.hid HV.out
  clear HB1 HB2 HL2 HV
  generalize w1.alloc (.cells ⟨zvarC ⟨#[120]⟩ 1 ++ zvarC ⟨#[121]⟩ 0⟩ 64) = W at *
  go_wp2_with (go_at_call 21; fail)
  refine (ps_xy _).mono ?_
  rintro e w3a ⟨c3, rfl, hv, hb⟩
  have HE := Lib.hid hv
  have HBA := Lib.hid (HBX.out.trans (hb.mono HBX.out.size))
  have HLA := Lib.hid (HLX.out.here hb)
  have HVA := Lib.hid ((HVX.out.below hb (R' := VarAt w3a w3a.heap.size) fun _ _ _ h => (h.under hb).more hb.size).more hb.size)
  have HLC := Lib.hid (ilabel_any 2 L2 lb ex_xy E11 c3 (.slice (some ⟨w1.heap.size, 0, none⟩) 2 2) w3a HLA.out HE.out HVA.out (by decide))
  rw [lb_xy] at HLC
  simp only at HLC
  clear hv hb HBX HLX HVX
  go_wp2_with (go_at_call 11; fail)
  refine HLC.out.mono ?_
  rintro e w3b ⟨rfl, hb⟩
  have HBX := Lib.hid (HBA.out.trans (hb.mono HBA.out.size))
  have HLX := Lib.hid (HLA.out.here hb)
  have HVX := Lib.hid ((HVA.out.below hb (R' := VarAt w3b w3b.heap.size) fun _ _ _ h => (h.under hb).more hb.size).more hb.size)
  clear hb HBA HLA HVA HE HLC
  go_wp2_with (go_at_call 21; fail)
  refine (ps_three _).mono ?_
  rintro e w4a ⟨c4, rfl, hv, hb⟩
  have HE := Lib.hid hv
  have HBA := Lib.hid (HBX.out.trans (hb.mono HBX.out.size))
  have HLA := Lib.hid (HLX.out.here hb)
  have HVA := Lib.hid ((HVX.out.below hb (R' := VarAt w4a w4a.heap.size) fun _ _ _ h => (h.under hb).more hb.size).more hb.size)
  have HLC := Lib.hid (ilabel_any 2 L2 lb ex_three E11 c4 (.slice (some ⟨w1.heap.size, 0, none⟩) 2 2) w4a HLA.out HE.out HVA.out (by decide))
  rw [lb_three] at HLC
  simp only at HLC
  clear hv hb HBX HLX HVX
  go_wp2_with (go_at_call 11; fail)
  refine HLC.out.mono ?_
  rintro e w4b ⟨rfl, hb⟩
  have HBX := Lib.hid (HBA.out.trans (hb.mono HBA.out.size))
  have HLX := Lib.hid (HLA.out.here hb)
  have HVX := Lib.hid ((HVA.out.below hb (R' := VarAt w4b w4b.heap.size) fun _ _ _ h => (h.under hb).more hb.size).more hb.size)
  clear hb HBA HLA HVA HE HLC
  go_wp2_with (go_at_call 21; fail)
  refine (ps_z _).mono ?_
  rintro e w5a ⟨c5, rfl, hv, hb⟩
  have HE := Lib.hid hv
  have HBA := Lib.hid (HBX.out.trans (hb.mono HBX.out.size))
  have HLA := Lib.hid (HLX.out.here hb)
  have HVA := Lib.hid ((HVX.out.below hb (R' := VarAt w5a w5a.heap.size) fun _ _ _ h => (h.under hb).more hb.size).more hb.size)
  have HLC := Lib.hid (ilabel_any 2 L2 lb ex_z E11 c5 (.slice (some ⟨w1.heap.size, 0, none⟩) 2 2) w5a HLA.out HE.out HVA.out (by decide))
  rw [lb_z] at HLC
  simp only at HLC
  clear hv hb HBX HLX HVX
  go_wp2_with (go_at_call 11; fail)
  refine HLC.out.mono ?_
  rintro e w5b ⟨rfl, hb⟩
  have HBX := Lib.hid (HBA.out.trans (hb.mono HBA.out.size))
  have HLX := Lib.hid (HLA.out.here hb)
  have HVX := Lib.hid ((HVA.out.below hb (R' := VarAt w5b w5b.heap.size) fun _ _ _ h => (h.under hb).more hb.size).more hb.size)
  clear hb HBA HLA HVA HE HLC
  clear HLX HVX
  go_wp2_with (go_at_call 21; fail)
  refine (ps_xy _).mono ?_
  rintro e w6 ⟨c6, rfl, hv, hb⟩
  have HE := Lib.hid hv
  have HB6 := Lib.hid (HBX.out.trans (hb.mono HBX.out.size))
  clear hv hb HBX
  go_wp2_with (go_at_call 21; fail)
  refine (ps_one _).mono ?_
  rintro e w7 ⟨c7, rfl, hv, hb⟩
  have HE7 := Lib.hid ((HE.out.under hb).more hb.size)
  have HO7 := Lib.hid hv
  have HB7 := Lib.hid (HB6.out.trans (hb.mono HB6.out.size))
  clear hv hb HE HB6
  have HRC := Lib.hid (ireplace_any ⟨#[120]⟩ ex_one fit_one ex_xy w7.heap.size c6 c7 w7 fit_xy (Nat.le_refl _) HE7.out HO7.out)
  rw [rp_xy] at HRC
  go_wp2_with (go_at_call 22; fail)
  refine HRC.out.mono ?_
  rintro e z9 ⟨cr, rfl, hk, hb⟩
  have HRX := Lib.hid hk.exp
  have HRL := Lib.hid (eslen hk.exp)
  have HRO := Lib.hid hk.exp.one
  have HB9 := Lib.hid (HB7.out.trans (hb.mono HB7.out.size))
  clear hk hb HE7 HO7 HB7 HRC
  go_upto_region 7 with (first | ((with_reducible refine wl_sbox 30 _ _ rfl ?hwx z9 ?zz cr ?hwld ?hz ?hx ?hy ?hi ?h1 ?_); (case hwld => rfl); (case hx => rfl); (case hy => rfl); (case hwx => (first | exact wanted_none rfl | exact wanted_if rfl rfl rfl rfl)); (case hz => rw [HRL.out]; rfl); (case hi => rw [HRL.out]; kernel_rfl); (case h1 => exact HRO.out); intro Z hZ; have HX := Lib.hid hZ; clear hZ))
  have HBZ := Lib.hid (HB9.out.trans (HX.out.below.mono HB9.out.size))
  have HRG := Lib.hid HX.out.range
  have HEZ := Lib.hid ((HRX.out.under HX.out.below).more HX.out.below.size)
  have HZS := Lib.hid HX.out.size
  clear HX HRX HB9
  refine wp_region_tree t11 (fun z => Below Z.heap.size Z z) (by kernel_rfl) (by kernel_rfl) (by kernel_rfl) rfl (by intro c a d v w h; cases d <;> exact h) ?_
  have hs0 : Below Z.heap.size Z Z.drew := (Below.refl _ Z).drew
  generalize Z.drew = Zd at *
  refine tree_move (some 44) (.int .i64 1) _ _ rfl rfl rfl (by first | exact wanted_none rfl | exact wanted_if rfl rfl rfl rfl) hs0 rfl ?_
  go_frame
  refine tree_load (some 45) (.bool true) _ rfl rfl (by first | exact wanted_none rfl | exact wanted_if rfl rfl rfl rfl) hs0 (fun z hz => by go_simp) ?_
  go_frame
  refine tree_move (some 46) (.bool true) _ _ rfl rfl rfl (by first | exact wanted_none rfl | exact wanted_if rfl rfl rfl rfl) hs0 rfl ?_
  go_frame
  refine tree_move (some 47) (.int .i64 0) _ _ rfl rfl rfl (by first | exact wanted_none rfl | exact wanted_if rfl rfl rfl rfl) hs0 rfl ?_
  go_frame
  refine tree_load (some 48) (.bool true) _ rfl rfl (by first | exact wanted_none rfl | exact wanted_if rfl rfl rfl rfl) hs0 (fun z hz => by go_simp) ?_
  go_frame
  refine tree_pick (some 49) (.bool true) _ _ _ _ true rfl rfl rfl rfl (by first | exact wanted_none rfl | exact wanted_if rfl rfl rfl rfl) hs0 rfl ?_
  go_frame
  refine tree_move (some 50) (.bool true) _ _ rfl rfl rfl (by first | exact wanted_none rfl | exact wanted_if rfl rfl rfl rfl) hs0 rfl ?_
  go_frame
  refine tree_move (some 51) (.int .i64 0) _ _ rfl rfl rfl (by first | exact wanted_none rfl | exact wanted_if rfl rfl rfl rfl) hs0 rfl ?_
  go_frame
  refine tree_load (some 52) (.bool true) _ rfl rfl (by first | exact wanted_none rfl | exact wanted_if rfl rfl rfl rfl) hs0 (fun z hz => by go_simp) ?_
  go_frame
  refine tree_pick (some 53) (.bool true) _ _ _ _ true rfl rfl rfl rfl (by first | exact wanted_none rfl | exact wanted_if rfl rfl rfl rfl) hs0 rfl ?_
  go_frame
  refine tree_move (some 54) (.bool true) _ _ rfl rfl rfl (by first | exact wanted_none rfl | exact wanted_if rfl rfl rfl rfl) hs0 rfl ?_
  go_frame
  refine tree_move (some 55) (.int .i64 0) _ _ rfl rfl rfl (by first | exact wanted_none rfl | exact wanted_if rfl rfl rfl rfl) hs0 rfl ?_
  go_frame
  refine tree_load (some 56) (.bool true) _ rfl rfl (by first | exact wanted_none rfl | exact wanted_if rfl rfl rfl rfl) hs0 (fun z hz => by go_simp) ?_
  go_frame
  refine tree_pick (some 57) (.bool true) _ _ _ _ true rfl rfl rfl rfl (by first | exact wanted_none rfl | exact wanted_if rfl rfl rfl rfl) hs0 rfl ?_
  go_frame
  refine tree_move (some 58) (.bool true) _ _ rfl rfl rfl (by first | exact wanted_none rfl | exact wanted_if rfl rfl rfl rfl) hs0 rfl ?_
  go_frame
  refine tree_move (some 59) (.int .i64 11) _ _ rfl rfl rfl (by first | exact wanted_none rfl | exact wanted_if rfl rfl rfl rfl) hs0 rfl ?_
  go_frame
  refine tree_load (some 60) (.bool true) _ rfl rfl (by first | exact wanted_none rfl | exact wanted_if rfl rfl rfl rfl) hs0 (fun z hz => by go_simp) ?_
  go_frame
  refine tree_pick (some 61) (.bool true) _ _ _ _ true rfl rfl rfl rfl (by first | exact wanted_none rfl | exact wanted_if rfl rfl rfl rfl) hs0 rfl ?_
  go_frame
  refine tree_move (some 62) (.bool true) _ _ rfl rfl rfl (by first | exact wanted_none rfl | exact wanted_if rfl rfl rfl rfl) hs0 rfl ?_
  go_frame
  have HZR := Lib.hid HRG.out
  refine tree_cc (fun u z => ∃ cs, u = .agg ⟨cs⟩ ∧ ExpAt z z.heap.size cs ex_bab) (fun v z => SlAt z z.heap.size 1 NameR v [[97], [98]]) (fun v z => SlAt z z.heap.size 1 NameR v [[97], [98]])
    21 15 Tryz.func21 (by kernel_rfl) (by kernel_rfl) Tryz.func15 (by kernel_rfl) (by kernel_rfl) (.string ⟨#[98, 43, 97, 43, 98]⟩) #[.string ⟨#[97]⟩, .string ⟨#[98]⟩] _ _ _ _ _ rfl rfl rfl rfl rfl rfl rfl rfl
    (by first | exact wanted_none rfl | exact wanted_if rfl rfl rfl rfl) (fun v => (by first | exact wanted_none rfl | exact wanted_if rfl rfl rfl rfl)) (fun u => (by first | exact wanted_none rfl | exact wanted_if rfl rfl rfl rfl)) (fun u v => (by first | exact wanted_none rfl | exact wanted_if rfl rfl rfl rfl)) (by first | exact wanted_none rfl | exact wanted_if rfl rfl rfl rfl) (fun u => (by first | exact wanted_none rfl | exact wanted_if rfl rfl rfl rfl)) (fun u v => (by first | exact wanted_none rfl | exact wanted_if rfl rfl rfl rfl)) (fun u => rfl) (fun u v => rfl) (T := 9) (n := 2)
    (fun z => by go_simp) (fun u z => by go_simp) (fun u v z => by go_simp) ?c1 ?c2 ?p1 ?p2 ?p3 ?p4 (by decide) (by decide) hs0 ?_
  case c1 =>
    intro z hz
    refine (ps_bab z).mono ?_
    rintro e z' ⟨cs, rfl, hv, hb⟩
    exact ⟨_, rfl, hz.trans (hb.mono hz.size), ⟨cs, rfl, hv⟩, fun u hu => (hu.below hb fun _ _ _ h => h).more hb.size⟩
  case c2 =>
    rintro u z hz ⟨cs, rfl, hv⟩
    refine (reads_any ex_bab cs z hv).mono ?_
    rintro e z' ⟨v, base, rfl, hbs, hrow, hb⟩
    rw [rd_bab] at hrow
    exact ⟨_, rfl, hz.trans (hb.mono hz.size), names_own hrow (by decide), fun u hu => (hu.below hb fun _ _ _ h => h).more hb.size⟩
  case p1 => exact fun z hz => hz.alloc hz.size _
  case p2 => rintro v z ⟨cs, rfl, hv⟩; exact ⟨cs, rfl, (hv.under (box_below z _)).more (box_below z _).size⟩
  case p3 => exact fun v z hv => (hv.below (box_below z _) fun _ _ _ h => h).more (box_below z _).size
  case p4 =>
    intro z
    refine ⟨by decide, _, 2, rfl, fun _ => ⟨z.heap.size, 0, rfl, by simp, fun k x hx => ?_⟩⟩
    have hr := range_box z [.string ⟨#[97]⟩, .string ⟨#[98]⟩] 9
    match k, hx with
    | 0, hx =>
      simp at hx
      subst hx
      exact ⟨[.string ⟨#[97]⟩], rfl, fun p u hu => by
        match p, hu with
        | 0, hu => simp at hu; subst hu; exact hr 0 _ rfl
        | p + 1, hu => simp at hu, rfl⟩
    | 1, hx =>
      simp at hx
      subst hx
      exact ⟨[.string ⟨#[98]⟩], rfl, fun p u hu => by
        match p, hu with
        | 0, hu => simp at hu; subst hu; exact hr 1 _ rfl
        | p + 1, hu => simp at hu, rfl⟩
    | k + 2, hx => simp at hx
  intro u v x z hz hvn hxn
  clear hs0
  go_frame
  refine tree_to (some 66) 14 Tryz.func14 (by kernel_rfl) (by kernel_rfl) [v, x] _ _ _ rfl rfl rfl (by first | exact wanted_none rfl | exact wanted_if rfl rfl rfl rfl) rfl ?_
  refine (rsame11 v x [[97], [98]] z hvn hxn (by decide)).mono ?_
  rintro e z2 ⟨rfl, hb⟩
  have hs0 := hz.trans (hb.mono hz.size)
  refine ⟨_, rfl, hs0, ?_⟩
  go_frame
  clear hvn hxn hb hz
  refine tree_pick (some 67) (.bool true) _ _ _ _ true rfl rfl rfl rfl (by first | exact wanted_none rfl | exact wanted_if rfl rfl rfl rfl) hs0 rfl ?_
  go_frame
  refine tree_move (some 68) (.bool true) _ _ rfl rfl rfl (by first | exact wanted_none rfl | exact wanted_if rfl rfl rfl rfl) hs0 rfl ?_
  go_frame
  refine tree_load (some 69) (.agg cr.toArray) _ rfl rfl (by first | exact wanted_none rfl | exact wanted_if rfl rfl rfl rfl) hs0 (fun z hz => exec_sload 30 rfl z9.heap.size 0 cr _ rfl (rangeAt_below HZR.out hz HZS.out) Tryz.underlying30 rfl (by rw [HRL.out]; kernel_rfl)) ?_
  go_frame
  refine tree_to (some 70) 21 Tryz.func21 (by kernel_rfl) (by kernel_rfl) [.string ⟨#[49, 43, 121]⟩] _ _ _ rfl rfl rfl (by first | exact wanted_none rfl | exact wanted_if rfl rfl rfl rfl) rfl ?_
  refine (ps_oney z2).mono ?_
  rintro e z3 ⟨c3, rfl, hv3, hb⟩
  have hs1 := hs0.trans (hb.mono hs0.size)
  refine ⟨_, rfl, hs1, ?_⟩
  go_frame
  clear hb hs0
  refine tree_to (some 71) 23 Tryz.func23 (by kernel_rfl) (by kernel_rfl) [.agg cr.toArray, .agg ⟨c3⟩] _ _ _ rfl rfl rfl (by first | exact wanted_none rfl | exact wanted_if rfl rfl rfl rfl) rfl ?_
  have hsm := resame_any ex_oney ex_oney cr c3 z3 ((HEZ.out.under hs1).more hs1.size) hv3
  rw [sm_oney] at hsm
  refine hsm.mono ?_
  rintro e z4 ⟨rfl, hb⟩
  have hs0 := hs1.trans (hb.mono hs1.size)
  refine ⟨_, rfl, hs0, ?_⟩
  go_frame
  clear hb hs1 hsm hv3
  refine tree_pick (some 72) (.bool true) _ _ _ _ true rfl rfl rfl rfl (by first | exact wanted_none rfl | exact wanted_if rfl rfl rfl rfl) hs0 rfl ?_
  go_frame
  refine tree_assign (some 0) (.bool true) _ _ rfl rfl rfl (by first | exact wanted_none rfl | exact wanted_if rfl rfl rfl rfl) hs0 rfl ?_
  go_frame
  refine tree_end ?_
  have HEND := Lib.hid (HBZ.out.trans (hs0.mono HBZ.out.size))
  clear hs0
  go_wp2
  go_ret
  exact ⟨rfl, HEND.out⟩
end Go.Proofs.YtppmkehdhpgdcaaGreat
end
