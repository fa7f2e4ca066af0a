/- THE STATEMENT LabelLeast is proved: for every number, every two lists of pairs and every two lists of labels the Go function LabelLeast returns true, and its arguments read afterwards as before; without conditions. -/
import Derived.Test.YtpikafadfailkaaFrame
import Derived.Test.YtpikafadfailkaaAwake2
import Derived.Test.YtpikafadfailkaaBoth2
import Derived.Test.YtpikafadfailkaaLabelPlain
import Derived.Test.YtpikafadfailkaaLeastPlain
import Derived.Test.YtpikafadfailkaaQuiet
import Derived.Deep.QuietTactic
import Derived.BigQuiet
import Derived.Test.YtpikafadfailkaaLabelKit
namespace Go.Proofs.Ytpikafadfailkaa
open Go.ChangeShapes Go.WideShapes Go.ChangeAt Go.RowKit P
set_option linter.unusedVariables false

set_option maxHeartbeats 2000000 in
set_option maxRecDepth 100000 in
theorem labelLeast_walk (w : World) (n : Int) (_wn : (Lit.int .i64 n).wf = true) (A : Option Addr) (l c : Nat) (ps : List (Int × Int)) (hl : ps.length = l) (hp : Pairs w w.heap.size A ps)
    (A2 : Option Addr) (l2 c2 : Nat) (es : List (Int × Int)) (hl2 : es.length = l2) (hp2 : Pairs w w.heap.size A2 es) (v : Value) (ls : List Int) (hi : IntsAt w w.heap.size v ls) (v' : Value) (os : List Int) (hi' : IntsAt w w.heap.size v' os) :
    Calls Try.prog 11 #[.int .i64 n, .slice A l c, .slice A2 l2 c2, v, v'] w fun e w' => e = .returned (.bool true) ∧ Below w.heap.size w w' := by
  subst hl2
  have CB := Lib.hid (both2_all n A l c ps w hl hp)
  have HI := Lib.hid hi
  have HE := Lib.hid hp2
  have HO := Lib.hid hi'
  obtain ⟨hlen, LA, lc, rfl, _⟩ := hi
  obtain ⟨hlen', LO, oc, rfl, _⟩ := hi'
  have hz := rzero
  clear hl hp hp2
  go_enter Try.func11, Try.ntmps11
  go_wp2_with fail
  refine CB.out.mono ?_
  rintro e w1 ⟨hb, (⟨N, L, rfl⟩ | ⟨_, _, k, b, rfl, rfl, hlat⟩)⟩
  · have HB1 := Lib.hid hb
    have HM := Lib.hid (Rm.new w1 0 (fun _ _ => false) 27)
    have HB2 := Lib.hid (below_setCells (hb.alloc hb.size (.cells (rv 0 fun _ _ => false) 27)) (b := w1.heap.size) hb.size (rl N L) 0)
    clear hb CB
    go_wp2_with (first | ((with_reducible show wpList _ _ _ _ _ _); refine wl_rstore _ _ rfl ?hw w1.heap.size N L rfl rfl ?hm ?_; (case hw => simp [Region.wanted]); (case hm => exact ⟨_, _, HM.out⟩)) | (go_at_call 38; fail))
    generalize World.setCells _ _ _ _ = W at *
    refine (awake2 _).mono ?_
    rintro e w2 ⟨rfl, hb⟩
    have HB3 := Lib.hid (HB2.out.trans (hb.mono HB2.out.size))
    clear hb
    go_wp2_with fail
    refine (awake2 _).mono ?_
    rintro e w3 ⟨rfl, hb⟩
    have HB4 := Lib.hid (HB3.out.trans (hb.mono HB3.out.size))
    clear hb
    go_wp2
    go_ret
    exact ⟨rfl, HB4.out⟩
  · have HL1 := Lib.hid hlat
    have HB1 := Lib.hid hb
    have hz1 : w.heap.size ≤ w1.heap.size := hb.size
    have HM := Lib.hid (Rm.new w1 0 (fun _ _ => false) 27)
    have HB2 := Lib.hid (below_setCells (hb.alloc hb.size (.cells (rv 0 fun _ _ => false) 27)) (b := w1.heap.size) hb.size (rl k (ordOf k ps)) 0)
    have HL2 := Lib.hid ((hlat.alloc (.cells (rv 0 fun _ _ => false) 27)).below (below_setCells (Below.refl w1.heap.size _) (Nat.le_refl _) (rl k (ordOf k ps)) 0) hlat.lt)
    have HM2 := Lib.hid (HM.out.setCells k (ordOf k ps))
    have hs2 : w1.heap.size < ((w1.alloc (.cells (rv 0 fun _ _ => false) 27)).setCells w1.heap.size 0 (rl k (ordOf k ps))).heap.size := by rw [size_setCells]; simp
    have HLA := Lib.hid hlat.lat
    have h8 := hlat.le8
    clear hb hlat CB
    go_wp2_with (first | ((with_reducible show wpList _ _ _ _ _ _); refine wl_rstore _ _ rfl ?hw w1.heap.size k (ordOf k ps) rfl rfl ?hm ?_; (case hw => simp [Region.wanted]); (case hm => exact ⟨_, _, HM.out⟩)) | (go_at_call 38; fail))
    clear HM
    generalize World.setCells _ _ _ _ = W at *
    generalize ordOf k ps = L at *
    refine (awake2 _).mono ?_
    rintro e w2 ⟨rfl, hb⟩
    have HB3 := Lib.hid (HB2.out.trans (hb.mono HB2.out.size))
    have HL3 := Lib.hid (HL2.out.here hb)
    have HI3 := Lib.hid ((HI.out.below HB3.out).more HB3.out.size)
    have HE3 := Lib.hid ((HE.out.below HB3.out).more HB3.out.size)
    have HO3 := Lib.hid ((HO.out.below HB3.out).more HB3.out.size)
    clear hb HL2 HL1 HB1 HB2 HM2 hs2
    by_cases h3 : 100 < es.length
    · have t3 : decide ((100 : Int) < es.length) = true := by simp; omega
      clear h3
      go_wp2_with fail
      refine (awake2 _).mono ?_
      rintro e w3 ⟨rfl, hb⟩
      have HB4 := Lib.hid (HB3.out.trans (hb.mono HB3.out.size))
      clear hb
      go_wp2
      go_ret
      exact ⟨rfl, HB4.out⟩
    · have t3 : decide ((100 : Int) < es.length) = false := by simp; omega
      have H3 := Lib.hid h3
      clear h3
      by_cases h4 : 40 < ls.length
      · have t4 : decide ((40 : Int) < ls.length) = true := by simp; omega
        clear h4
        go_wp2_with fail
        refine (awake2 _).mono ?_
        rintro e w3 ⟨rfl, hb⟩
        have HB4 := Lib.hid (HB3.out.trans (hb.mono HB3.out.size))
        clear hb
        go_wp2
        go_ret
        exact ⟨rfl, HB4.out⟩
      · have t4 : decide ((40 : Int) < ls.length) = false := by simp; omega
        have H4 := Lib.hid h4
        clear h4
        by_cases h5 : os.length = ls.length
        · have t5 : ((os.length : Int) != (ls.length : Int)) = false := by simp; omega
          have H5 := Lib.hid h5
          clear h5
          go_wp2_with fail
          clear t3 t4 t5
          refine (raise_r b k L (.slice LA ls.length lc) (.slice LA ls.length lc) es ls A2 c2 w2 HL3.out HE3.out HI3.out (by have := H4.out; omega)).mono ?_
          rintro e w3 ⟨hb3, hcase⟩
          have HB4 := Lib.hid (HB3.out.trans (hb3.mono HB3.out.size))
          rcases hcase with ⟨hno, rfl⟩ | ⟨hyes, v3, rfl, hv3⟩
          · clear hno hb3
            go_wp2
            go_ret
            exact ⟨rfl, HB4.out⟩
          · have HL4 := Lib.hid (HL3.out.here hb3)
            have HI4 := Lib.hid ((HI3.out.below hb3).more hb3.size)
            have HE4 := Lib.hid ((HE3.out.below hb3).more hb3.size)
            have HO4 := Lib.hid ((HO3.out.below hb3).more hb3.size)
            have HLO := Lib.hid (leastOk HLA.out h8 hyes)
            generalize raiseN k L (edg es) (natl ls) = R at *
            have HV3 := Lib.hid hv3
            obtain ⟨rlen, RA, rc, rfl, _⟩ := hv3
            clear hb3 hyes HL3 HI3 HE3 HO3 HB3
            go_wp2_with fail
            refine (raise_r b k L (.slice LA ls.length lc) (.slice RA (labs R).length rc) es (labs R) A2 c2 w3 HL4.out HE4.out HV3.out (by have := H4.out; have := HLO.out.len; rw [labs_len]; omega)).mono ?_
            rintro e w4 ⟨hb4, (⟨hno, _⟩ | ⟨_, v4, rfl, hv4⟩)⟩
            · exact absurd (HLO.out.ok.symm.trans hno) (by simp)
            · rw [HLO.out.again] at hv4
              have HB5 := Lib.hid (HB4.out.trans (hb4.mono HB4.out.size))
              have HL5 := Lib.hid (HL4.out.here hb4)
              have HI5 := Lib.hid ((HI4.out.below hb4).more hb4.size)
              have HE5 := Lib.hid ((HE4.out.below hb4).more hb4.size)
              have HO5 := Lib.hid ((HO4.out.below hb4).more hb4.size)
              have HV5 := Lib.hid ((HV3.out.below hb4).more hb4.size)
              have HV4 := Lib.hid hv4
              clear hb4 hv4 HL4 HI4 HE4 HO4 HB4 HV3
              have sm := same_any _ _ _ _ _ w4 HV5.out HV4.out
              rw [beq_self_eq_true] at sm
              have SM := Lib.hid sm
              clear sm
              go_wp2_with (go_at_call 33; refine SM.out.mono ?_; rintro e w' ⟨rfl, m, rfl⟩)
              clear SM
              have HB6 := Lib.hid (below_drewN HB5.out m)
              have HL6 := Lib.hid (HL5.out.drewN m)
              have HI6 : Hid (IntsAt (w4.drewN m) (w4.drewN m).heap.size (.slice LA ls.length lc) ls) := Lib.hid (HI5.out.drewN m)
              have HO6 : Hid (IntsAt (w4.drewN m) (w4.drewN m).heap.size (.slice LO os.length oc) os) := Lib.hid (HO5.out.drewN m)
              have HV6 : Hid (IntsAt (w4.drewN m) (w4.drewN m).heap.size (.slice RA (labs R).length rc) (labs R)) := Lib.hid (HV5.out.drewN m)
              have HE6 : Hid (Pairs (w4.drewN m) (w4.drewN m).heap.size A2 es) := Lib.hid (HE5.out.below (below_drewN (Below.refl _ _) m))
              clear HB5 HL5 HI5 HO5 HV5 HE5 HV4
              generalize w4.drewN m = W at *
              obtain ⟨_, _, _, hv, hcI⟩ := HI6.out
              cases hv
              obtain ⟨_, _, _, hv, hcO⟩ := HO6.out
              cases hv
              obtain ⟨_, _, _, hv, hcV⟩ := HV6.out
              cases hv
              have HCI := Lib.hid hcI
              have HCO := Lib.hid hcO
              have HCV := Lib.hid hcV
              clear hcI hcO hcV
              rw [labs_len]
              rw [labs_len] at rlen
              go_loopg [18, 80] ls.length (fun g ft i wr => ∃ j : Nat, j + g = ls.length ∧ i = .int .i64 j ∧ ft = .bool (fitA k L ls os j) ∧ Below W.heap.size W wr)
              case atStart => exact ⟨0, by omega, rfl, rfl, Below.refl _ _⟩
              case round =>
                obtain ⟨j, hj, rfl, rfl, hb⟩ := hrel
                have HB7 := Lib.hid hb
                clear hb
                cases gk with
                | succ g =>
                  have hlt : (j : Int) < (ls.length : Int) := by omega
                  have hltO : (j : Int) < (os.length : Int) := by have := H5.out; omega
                  have hltR : (j : Int) < (R.length : Int) := by have := HLO.out.len; omega
                  obtain ⟨a, ha⟩ : ∃ a, ls[j]? = some a := ⟨_, List.getElem?_eq_getElem (by omega)⟩
                  obtain ⟨o, ho⟩ : ∃ o, os[j]? = some o := ⟨_, List.getElem?_eq_getElem (by omega)⟩
                  have q1 := HLO.out.above j (by omega)
                  have hst := fitA_succ k L ls os j
                  rw [List.getD_eq_getElem?_getD, ha] at q1 hst
                  rw [List.getD_eq_getElem?_getD (l := os), ho] at hst
                  simp only [Option.getD_some] at q1 hst
                  have HST := Lib.hid hst
                  clear hst
                  obtain ⟨b1, o1, rfl, hb1, hc1⟩ := HCI.out (by omega)
                  obtain ⟨b2, o2, rfl, hb2, hc2⟩ := HCO.out (by omega)
                  obtain ⟨b3, o3, rfl, hb3, hc3⟩ := HCV.out (by rw [labs_len]; omega)
                  have D1 := Lib.hid (fun (z : World) (hz : Below W.heap.size W z) => (hz.cell (p := ⟨b1, o1 + j, none⟩) hb1).trans (hc1 j a ha))
                  have D2 := Lib.hid (fun (z : World) (hz : Below W.heap.size W z) => (hz.cell (p := ⟨b2, o2 + j, none⟩) hb2).trans (hc2 j o ho))
                  have D3 := Lib.hid (fun (z : World) (hz : Below W.heap.size W z) => (hz.cell (p := ⟨b3, o3 + j, none⟩) hb3).trans (hc3 j _ (labs_at (by omega))))
                  have HL7 := Lib.hid (HL6.out.here HB7.out)
                  have d1 := D1.out wr HB7.out
                  have d3 := D3.out wr HB7.out
                  clear ha ho hc1 hc2 hc3
                  generalize gv R j = r at *
                  obtain ⟨F, hF⟩ : ∃ F, fitA k L ls os j = F := ⟨_, rfl⟩
                  rw [hF] at HST
                  rw [hF]
                  clear hF
                  go_upto_region 14 with (fail)
                  go_quiet ((go_at_call 22; refine Calls.quiet_of_same ((leq_r (HL7.out.drewN _) _ _).mono fun e w' h => ⟨h.1, h.2.symm⟩)))
                  go_upto_region 16 with (fail)
                  have HB8 := Lib.hid (below_drewN HB7.out nq)
                  have HL8 := Lib.hid (HL7.out.drewN nq)
                  clear d1 d3
                  generalize wr.drewN nq = wq at *
                  have d1 := D1.out wq HB8.out
                  have d2 := D2.out wq HB8.out
                  cases F with
                  | false =>
                    go_quiet (fail)
                    go_wp2
                    go_roundg g
                    case measure => omega
                    case rel => exact ⟨j + 1, by omega, by go_num, by rw [HST.out]; rfl, below_drewN HB8.out _⟩
                  | true =>
                    obtain ⟨t, ht⟩ : ∃ t, lqI k L a o = t := ⟨_, rfl⟩
                    go_quiet ((go_at_call 22; refine Calls.quiet_of_same ((leq_r (HL8.out.drewN _) _ _).mono fun e w' h => ⟨h.1, h.2.symm⟩)))
                    have HT := Lib.hid ht
                    clear ht
                    go_wp2
                    go_roundg g
                    case measure => omega
                    case rel => exact ⟨j + 1, by omega, by go_num, by rw [HST.out, HT.out]; rfl, below_drewN HB8.out _⟩
                | zero =>
                  have hge : ¬ ((j : Int) < (ls.length : Int)) := by omega
                  obtain rfl : j = ls.length := by omega
                  clear hj
                  obtain ⟨F, hF⟩ : ∃ F, fitA k L ls os ls.length = F := ⟨_, rfl⟩
                  have HFA := Lib.hid hF
                  rw [hF]
                  clear hF
                  go_wp2
                  go_loopg [18, 110] es.length (fun g ft i wx => ∃ j : Nat, j + g = es.length ∧ i = .int .i64 j ∧ ft = .bool (F && fitB k L (es.take j) os) ∧ Below W.heap.size W wx)
                  case atStart => exact ⟨0, by omega, rfl, by simp [fitB], HB7.out⟩
                  case round =>
                    obtain ⟨j, hj, rfl, rfl, hb⟩ := hrel
                    have HB8 := Lib.hid hb
                    have hz8 := hb.size
                    clear hb
                    cases gk with
                    | succ g =>
                      have hlt : (j : Int) < (es.length : Int) := by omega
                      have hes : (es.length : Int) ≤ 100 := by have := H3.out; omega
                      obtain ⟨p, hp⟩ : ∃ p, es[j]? = some p := ⟨_, List.getElem?_eq_getElem (by omega)⟩
                      obtain ⟨a, e, rfl, ha, he, q1⟩ := HLO.out.rise j p hp
                      obtain ⟨bp, op, rfl, hbp, hcp⟩ := HE6.out.2 (by omega)
                      obtain ⟨c0, c1, _, _⟩ := hcp j _ hp
                      have d0 := (HB8.out.cell (p := ⟨bp, op + j * 2, none⟩) hbp).trans c0
                      have d1 := (HB8.out.cell (p := ⟨bp, op + j * 2 + 1, none⟩) hbp).trans c1
                      have hst := fitB_snoc (n := k) (L := L) (b := os) hp
                      clear c0 c1 hcp hp
                      obtain ⟨x, hx⟩ : ∃ x, os[a]? = some x := ⟨_, List.getElem?_eq_getElem (by have := H5.out; omega)⟩
                      obtain ⟨y, hy⟩ : ∃ y, os[e]? = some y := ⟨_, List.getElem?_eq_getElem (by have := H5.out; omega)⟩
                      simp only [Int.toNat_natCast] at hst
                      rw [List.getD_eq_getElem?_getD, hx, List.getD_eq_getElem?_getD, hy] at hst
                      simp only [Option.getD_some] at hst
                      have HST := Lib.hid hst
                      clear hst
                      obtain ⟨b2, o2, rfl, hb2, hc2⟩ := HCO.out (by have := H5.out; omega)
                      obtain ⟨b3, o3, rfl, hb3, hc3⟩ := HCV.out (by rw [labs_len]; have := HLO.out.len; omega)
                      have ha3 : a < R.length := by have := HLO.out.len; omega
                      have he3 : e < R.length := by have := HLO.out.len; omega
                      have D1 := Lib.hid (fun (z : World) (hz : Below W.heap.size W z) => (hz.cell (p := ⟨b3, o3 + a, none⟩) hb3).trans (hc3 a _ (labs_at ha3)))
                      have D2 := Lib.hid (fun (z : World) (hz : Below W.heap.size W z) => (hz.cell (p := ⟨b3, o3 + e, none⟩) hb3).trans (hc3 e _ (labs_at he3)))
                      have D3 := Lib.hid (fun (z : World) (hz : Below W.heap.size W z) => (hz.cell (p := ⟨b2, o2 + a, none⟩) hb2).trans (hc2 a x hx))
                      have D4 := Lib.hid (fun (z : World) (hz : Below W.heap.size W z) => (hz.cell (p := ⟨b2, o2 + e, none⟩) hb2).trans (hc2 e y hy))
                      have haR : (a : Int) < (R.length : Int) := by omega
                      have heR : (e : Int) < (R.length : Int) := by omega
                      have haO : (a : Int) < (os.length : Int) := by have := H5.out; omega
                      have heO : (e : Int) < (os.length : Int) := by have := H5.out; omega
                      clear hx hy hc2 hc3 ha he ha3 he3
                      simp only at d0 d1
                      have HBZ := Lib.hid (HB8.out.alloc hz8 (.cells #[.int .i64 a, .int .i64 e] 39))
                      have e0 : (wr.alloc (.cells #[.int .i64 a, .int .i64 e] 39)).cell? ⟨wr.heap.size, 0, none⟩ = some (.int .i64 a) := by rw [cell_new]; rfl
                      have e1 : (wr.alloc (.cells #[.int .i64 a, .int .i64 e] 39)).cell? ⟨wr.heap.size, 1, none⟩ = some (.int .i64 e) := by rw [cell_new]; rfl
                      generalize gv R a = ra at *
                      generalize gv R e = re at *
                      obtain ⟨G, hG⟩ : ∃ G, (F && fitB k L (es.take j) os) = G := ⟨_, rfl⟩
                      have HSG : Hid ((F && fitB k L (es.take (j + 1)) os) = (G && lqI k L x y)) := Lib.hid (by rw [HST.out, ← Bool.and_assoc, hG])
                      rw [hG]
                      clear hG HST
                      go_upto_region 21 with (fail)
                      clear d0 d1
                      generalize wr.alloc (.cells #[.int .i64 a, .int .i64 e] 39) = wz at *
                      have HL8 := Lib.hid (HL6.out.here HBZ.out)
                      have d1 := D1.out wz HBZ.out
                      have d2 := D2.out wz HBZ.out
                      go_quiet ((go_at_call 22; refine Calls.quiet_of_same ((leq_r (HL8.out.drewN _) _ _).mono fun e w' h => ⟨h.1, h.2.symm⟩)))
                      go_upto_region 23 with (fail)
                      have HB9 := Lib.hid (below_drewN HBZ.out nq)
                      have HL9 := Lib.hid (HL8.out.drewN nq)
                      have e0' : (wz.drewN nq).cell? ⟨wr.heap.size, 0, none⟩ = some (.int .i64 a) := e0
                      have e1' : (wz.drewN nq).cell? ⟨wr.heap.size, 1, none⟩ = some (.int .i64 e) := e1
                      clear d1 d2 e0 e1
                      generalize wz.drewN nq = wq at *
                      have d3 := D3.out wq HB9.out
                      have d4 := D4.out wq HB9.out
                      cases G with
                      | false =>
                        go_quiet (fail)
                        go_wp2
                        go_roundg g
                        case measure => omega
                        case rel => exact ⟨j + 1, by omega, by go_num, by rw [HSG.out]; rfl, below_drewN HB9.out _⟩
                      | true =>
                        obtain ⟨t, ht⟩ : ∃ t, lqI k L x y = t := ⟨_, rfl⟩
                        go_quiet ((go_at_call 22; refine Calls.quiet_of_same ((leq_r (HL9.out.drewN _) _ _).mono fun e w' h => ⟨h.1, h.2.symm⟩)))
                        have HT := Lib.hid ht
                        clear ht
                        go_wp2
                        go_roundg g
                        case measure => omega
                        case rel => exact ⟨j + 1, by omega, by go_num, by rw [HSG.out, HT.out]; rfl, below_drewN HB9.out _⟩
                    | zero =>
                      have hge2 : ¬ ((j : Int) < (es.length : Int)) := by omega
                      have HTK : Hid (es.take j = es) := Lib.hid (List.take_of_length_le (by omega))
                      rw [HTK.out]
                      have hlst : ∀ i, i < ls.length → (F && fitB k L es os) = true → lqI k L (gv R i) (os.getD i 0) = true := fun i hi hf => by
                        rw [Bool.and_eq_true] at hf
                        exact HLO.out.least os H5.out (by rw [HFA.out]; exact hf.1) hf.2 i hi
                      have HLS := Lib.hid hlst
                      clear hlst
                      generalize (F && fitB k L es os) = G at *
                      go_wp2
                      go_loopg [145] R.length (fun g i wy => ∃ j : Nat, j + g = R.length ∧ i = .int .i64 j ∧ Below W.heap.size W wy)
                      case atStart => exact ⟨0, by omega, rfl, HB8.out⟩
                      case round =>
                        obtain ⟨j, hj, rfl, hb⟩ := hrel
                        have HB9 := Lib.hid hb
                        clear hb
                        cases gk with
                        | zero =>
                          have hge3 : ¬ ((j : Int) < (R.length : Int)) := by omega
                          go_wp2
                          go_ret
                          exact ⟨rfl, HB6.out.trans (HB9.out.mono HB6.out.size)⟩
                        | succ g =>
                          have hltR : (j : Int) < (R.length : Int) := by omega
                          have hltO : (j : Int) < (os.length : Int) := by have := H5.out; have := HLO.out.len; omega
                          cases G with
                          | false =>
                            go_upto_region 28 with (fail)
                            go_quiet (fail)
                            go_wp2
                            go_roundg g
                            case measure => omega
                            case rel => exact ⟨j + 1, by omega, by go_num, below_drewN HB9.out _⟩
                          | true =>
                            have q1 := HLS.out j (by have := HLO.out.len; omega) rfl
                            obtain ⟨o, ho⟩ : ∃ o, os[j]? = some o := ⟨_, List.getElem?_eq_getElem (by omega)⟩
                            rw [List.getD_eq_getElem?_getD, ho] at q1
                            simp only [Option.getD_some] at q1
                            obtain ⟨b2, o2, rfl, hb2, hc2⟩ := HCO.out (by omega)
                            obtain ⟨b3, o3, rfl, hb3, hc3⟩ := HCV.out (by rw [labs_len]; omega)
                            have d1 := (HB9.out.cell (p := ⟨b2, o2 + j, none⟩) hb2).trans (hc2 j o ho)
                            have d2 := (HB9.out.cell (p := ⟨b3, o3 + j, none⟩) hb3).trans (hc3 j _ (labs_at (by omega)))
                            have HL9 := Lib.hid (HL6.out.here HB9.out)
                            clear ho hc2 hc3
                            generalize gv R j = r at *
                            go_upto_region 28 with (fail)
                            go_quiet ((go_at_call 22; refine Calls.quiet_of_same ((leq_r (HL9.out.drewN _) _ _).mono fun e w' h => ⟨h.1, h.2.symm⟩)))
                            go_wp2
                            go_roundg g
                            case measure => omega
                            case rel => exact ⟨j + 1, by omega, by go_num, below_drewN HB9.out _⟩
        · have t5 : ((os.length : Int) != (ls.length : Int)) = true := by simp; omega
          clear h5
          go_wp2_with fail
          refine (awake2 _).mono ?_
          rintro e w3 ⟨rfl, hb⟩
          have HB4 := Lib.hid (HB3.out.trans (hb.mono HB3.out.size))
          clear hb
          go_wp2
          go_ret
          exact ⟨rfl, HB4.out⟩
set_option maxRecDepth 100000 in
/-- the row's step, argument by argument -/
theorem labelLeast_lifted (os : Os) (started : os.Started) (H : Type) (enc : TypeId × Value → H) :
    ReturnsInHanded {} Try.checked os 11 .any (Rows.labelLeastSpec.pre6 enc Try.prog Try.f11 Rows.labelLeastRow.domain false) (Rows.labelLeastSpec.post enc Try.prog Try.f11 false true false false) := by
  refine returnsInHanded_of_change (C := Try.checked) own started (by kernel_rfl) Try.func11
    (ChangeSpec.witness6 (enc := enc) (C := Try.checked) false ⟨#[], #[.int .i64 0, .slice none 0 0, .slice none 0 0, .slice none 0 0, .slice none 0 0], []⟩ 8 (by kernel_rfl) (by kernel_rfl) (by kernel_rfl) (by kernel_rfl)) ?_
  intro W base args ds gs before hval0 hW hcnd _
  have hval : ∀ (j : Nat) t v, Try.f11.params[j]? = some t → args[j]? = some v → Value.okWide Try.prog W .any base t v := hval0
  have hW' := hW
  obtain ⟨p, q, hA0, hV, rfl, hfz, hnd⟩ := hW
  have hA : DataW.TrodAll enc Try.prog W 0 (fun _ => true) true Try.f11.params.toList args.toList ds p := hA0
  rw [Try.params11] at hA hval
  obtain ⟨v0, vs0, d0, ds0, p0, q0, hargs, rfl, rfl, h0, r0⟩ := trodAll_cons hA
  obtain ⟨v1, vs1, d1, ds1, p1, q1, rfl, rfl, rfl, h1, r1⟩ := trodAll_cons r0
  obtain ⟨v2, vs2, d2, ds2, p2, q2, rfl, rfl, rfl, h2, r2⟩ := trodAll_cons r1
  obtain ⟨v3, vs3, d3, ds3, p3, q3, rfl, rfl, rfl, h3, r3⟩ := trodAll_cons r2
  obtain ⟨v4, vs4, d4, ds4, p4, q4, rfl, rfl, rfl, h4, r4⟩ := trodAll_cons r3
  obtain ⟨rfl, rfl, rfl⟩ := trodAll_nil r4
  obtain rfl : args = #[v0, v1, v2, v3, v4] := by cases args; simp_all
  obtain ⟨rfl, rfl⟩ := trodVars_none hV
  obtain ⟨a0, rfl, rfl, rfl, w0⟩ := open_int Try.underlying3 (hval 0 3 v0 rfl rfl) h0
  obtain ⟨a1, len1, cap1, rfl⟩ := okWide_slice Try.underlying22 (hval 1 22 v1 rfl rfl)
  have k1 := h1
  have lt1 := lt_of_trod k1
  obtain ⟨z1, l1, w1⟩ := open_pairs h1
  obtain ⟨a2, len2, cap2, rfl⟩ := okWide_slice Try.underlying22 (hval 2 22 v2 rfl rfl)
  have k2 := h2
  have lt2 := lt_of_trod k2
  obtain ⟨z2, l2, w2⟩ := open_pairs h2
  obtain ⟨a3, len3, cap3, rfl⟩ := okWide_slice Try.underlying50 (hval 3 50 v3 rfl rfl)
  have k3 := h3
  have lt3 := lt_of_trod k3
  obtain ⟨z3, l3, w3⟩ := open_nums h3
  obtain ⟨a4, len4, cap4, rfl⟩ := okWide_slice Try.underlying50 (hval 4 50 v4 rfl rfl)
  have k4 := h4
  have lt4 := lt_of_trod k4
  obtain ⟨z4, l4, w4⟩ := open_nums h4
  clear hA0 hval0
  refine (labelLeast_walk W a0 w0 a1 len1 cap1 z1 l1 w1 a2 len2 cap2 z2 l2 w2 _ z3 w3 _ z4 w4).mono fun e W' ⟨he, bel⟩ => ?_
  subst he
  exact ⟨_, rfl, _, _, _, [], _, [], hW', trodAll_mk1 (shut_bool Try.underlying4 _), (trodAll_cons_mk (shut_int Try.underlying3 w0) (trodAll_cons_mk (Below.trod laidOut (by kernel_rfl) (of_decide_eq_true (by kernel_rfl)) k1 bel lt1) (trodAll_cons_mk (Below.trod laidOut (by kernel_rfl) (of_decide_eq_true (by kernel_rfl)) k2 bel lt2) (trodAll_cons_mk (Below.trod laidOut (by kernel_rfl) (of_decide_eq_true (by kernel_rfl)) k3 bel lt3) (trodAll_cons_mk (Below.trod laidOut (by kernel_rfl) (of_decide_eq_true (by kernel_rfl)) k4 bel lt4) trodAll_mk0))))), rfl, bel.frame _, fun h => by cases h⟩

theorem labelLeast_proved : Rows.LabelLeastSaid :=
  OpenClaim.holds_of_wide 11 Try.f11 rfl rfl rfl rfl rfl rfl rfl ⟨rfl, rfl, rfl, rfl, rfl⟩ rfl rfl rfl rfl rfl (by kernel_rfl) Try.func11 (by kernel_rfl)
    (of_decide_eq_true (by kernel_rfl)) (by unfold Func.isWrapper; first | (rw [if_pos (by decide +kernel)]; kernel_rfl) | (rw [if_neg (by decide +kernel)]; exact ⟨rfl, rfl⟩))
    (fun os started H enc _ => labelLeast_lifted os started H enc)
#print axioms labelLeast_proved

end Go.Proofs.Ytpikafadfailkaa
