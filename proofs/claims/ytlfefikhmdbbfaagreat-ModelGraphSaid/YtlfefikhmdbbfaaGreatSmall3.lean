/- The document's Small of models. -/
import Derived.Test.YtlfefikhmdbbfaaGreatSmall2
namespace Go.Proofs.YtlfefikhmdbbfaaGreat
open Go.RowKit
set_option linter.unusedVariables false

structure SmallM (m : ModelT) : Prop where
  order : m.order.length ≤ 200
  grants : m.grants.length ≤ 200
  vars : m.vars.length ≤ 40
  msgs : m.msgs.length ≤ 40
  nodes : m.nodes.length ≤ 100
  next : ∀ (i : Nat) x, m.nodes[i]? = some x → x.next.length ≤ 40 ∧ x.conds.length ≤ 40
def SmallPost (m : ModelT) (w : World) (e : Ending) (w' : World) : Prop := ∃ b : Bool, e = .returned (.bool b) ∧ Below w.heap.size w w' ∧ (b = true → SmallM m)
theorem SmallPost.no {m : ModelT} {w w' : World} (h : Below w.heap.size w w') : SmallPost m w (.returned (.bool false)) w' := ⟨false, rfl, h, fun h => by cases h⟩

set_option maxHeartbeats 4000000 in
set_option maxRecDepth 100000 in
theorem msmall (m : ModelT) (cs : List Value) (w : World) (hv : ModelAt w w.heap.size cs m) : Calls Tryz.prog 6 #[.agg ⟨cs⟩] w (SmallPost m w) := by
  obtain ⟨⟨u1, u2, u3, u4, u5, rfl, hu1, hu2, hu3, hu4, hu5⟩, _⟩ := hv
  obtain ⟨hl1, A1, c1, rfl, _⟩ := hu1
  obtain ⟨hl2, A2, c2, rfl, _⟩ := hu2
  obtain ⟨hl3, A3, c3, rfl, ha3⟩ := hu3
  obtain ⟨hl4, A4, c4, rfl, ha4⟩ := hu4
  obtain ⟨hl5, A5, c5, rfl, ha5⟩ := hu5
  have HA3 := Lib.hid ha3
  have HA4 := Lib.hid ha4
  have HA5 := Lib.hid ha5
  clear ha3 ha4 ha5
  obtain ⟨cs, hcs⟩ : ∃ cs, cs = [Value.int .i64 m.labels, .slice A1 m.order.length c1, .slice A2 m.grants.length c2, .slice A3 m.vars.length c3, .slice A4 m.msgs.length c4, .slice A5 m.nodes.length c5] := ⟨_, rfl⟩
  rw [← hcs]
  have HCS := Lib.hid hcs
  clear hcs
  go_enter Tryz.func6, Tryz.ntmps6
  go_upto_region 1 with (fail)
  have HB := Lib.hid (box_below w (.cells ⟨cs⟩ 27))
  have HR := Lib.hid (range_box w cs 27)
  have HSZ := Lib.hid (box_size w (.cells ⟨cs⟩ 27))
  generalize w.alloc (.cells ⟨cs⟩ 27) = W at *
  rw [HCS.out] at HR
  have HF : Hid (∀ z : World, Below W.heap.size W z → z.cell? ⟨w.heap.size, 1, none⟩ = some (.slice A1 m.order.length c1) ∧ z.cell? ⟨w.heap.size, 2, none⟩ = some (.slice A2 m.grants.length c2) ∧ z.cell? ⟨w.heap.size, 3, none⟩ = some (.slice A3 m.vars.length c3) ∧
      z.cell? ⟨w.heap.size, 4, none⟩ = some (.slice A4 m.msgs.length c4) ∧ z.cell? ⟨w.heap.size, 5, none⟩ = some (.slice A5 m.nodes.length c5)) := Lib.hid fun z hz => by
    have hr := rangeAt_below HR.out hz HSZ.out
    exact ⟨range_cell hr 1 rfl, range_cell hr 2 rfl, range_cell hr 3 rfl, range_cell hr 4 rfl, range_cell hr 5 rfl⟩
  obtain ⟨d1, d2, d3, d4, d5⟩ := HF.out W (Below.refl _ _)
  have no : ∀ {z : World}, Below W.heap.size W z → SmallPost m w (.returned (.bool false)) z := fun h => SmallPost.no (HB.out.trans (h.mono HB.out.size))
  have NO : Hid (∀ z : World, Below W.heap.size W z → SmallPost m w (.returned (.bool false)) z) := Lib.hid fun z h => no h
  clear no HR HCS
  by_cases h1 : m.order.length ≤ 200
  · have t1 : decide ((200 : Int) < m.order.length) = false := by simp; omega
    by_cases h2 : m.grants.length ≤ 200
    · have t2 : decide ((200 : Int) < m.grants.length) = false := by simp; omega
      by_cases h3 : m.vars.length ≤ 40
      · have t3 : decide ((40 : Int) < m.vars.length) = false := by simp; omega
        by_cases h4 : m.msgs.length ≤ 40
        · have t4 : decide ((40 : Int) < m.msgs.length) = false := by simp; omega
          by_cases h5 : m.nodes.length ≤ 100
          · have t5 : decide ((100 : Int) < m.nodes.length) = false := by simp; omega
            have H1 := Lib.hid h1
            have H2 := Lib.hid h2
            have H3 := Lib.hid h3
            have H4 := Lib.hid h4
            have H5 := Lib.hid h5
            clear h1 h2 h3 h4 h5
            go_wp2
            clear t1 t2 t3 t4 t5 d1 d2 d3 d4 d5
            go_loopg [3] m.vars.length (fun g i wr => ∃ j : Nat, j + g = m.vars.length ∧ i = .int .i64 j ∧ Below W.heap.size W wr)
            case atStart => exact ⟨0, by omega, rfl, Below.refl _ _⟩
            case round =>
              obtain ⟨j, hj, rfl, hb⟩ := hrel
              have HB1 := Lib.hid hb
              have HB1' := Lib.hid (HB.out.trans (hb.mono HB.out.size))
              obtain ⟨d1, d2, d3, d4, d5⟩ := HF.out wr hb
              clear hb d1 d2 d4 d5
              cases gk with
              | succ g =>
                have hlt : (j : Int) < (m.vars.length : Int) := by omega
                have hle : (m.vars.length : Int) ≤ 40 := by have := H3.out; omega
                obtain ⟨y, hy⟩ : ∃ y, m.vars[j]? = some y := ⟨_, List.getElem?_eq_getElem (by omega)⟩
                obtain ⟨b, o, rfl, hbb, hc⟩ := HA3.out (by omega)
                obtain ⟨ks, hcl, hr, hR⟩ := hc j y hy
                have HRK := Lib.hid (rangeAt_below hr HB1'.out hbb)
                have HKL := Lib.hid hcl
                have HVA := Lib.hid ((hR.under HB1'.out).more HB1'.out.size)
                have HY := Lib.hid hy
                clear hc hr hR hy hcl
                go_upto_region 7 with (first | ((with_reducible refine wl_sload 47 _ rfl ?hw b (o + j * 11) ks _ rfl HRK.out Tryz.underlying47 rfl ?hi ?_); (case hw => first | exact wanted_none rfl | exact wanted_if rfl rfl rfl rfl); (case hi => rw [HKL.out]; kernel_rfl)) | ((with_reducible refine wl_sbox 47 _ _ rfl ?hw wr ?z7 ks ?hwld ?hz ?hx ?hy ?hi ?h1 ?_); (case hwld => rfl); (case hx => rfl); (case hy => rfl); (case hw => first | exact wanted_none rfl | exact wanted_if rfl rfl rfl rfl); (case hz => rw [HKL.out]; rfl); (case hi => rw [HKL.out]; kernel_rfl); (case h1 => exact HVA.out.one); intro Z hbx; have HX := Lib.hid hbx; clear hbx))
                have HBZ := Lib.hid (HB1.out.trans (HX.out.below.mono HB1.out.size))
                obtain ⟨⟨ct, ci, hks, hct, hci, tA, vA⟩, _, _⟩ := HVA.out
                have dn : Z.cell? ⟨wr.heap.size, 0, none⟩ = some (.string y.name) := HX.out.cell 0 (by rw [hks]; rfl)
                have HRS := Lib.hid (HX.out.sub (Below.refl _ _) [.string y.name, .int .i64 y.label] ct ci hks 2 rfl)
                have HRV := Lib.hid (fun (u : World) (hu : Below Z.heap.size Z u) => HX.out.sub hu ([.string y.name, .int .i64 y.label] ++ ct) ci [] (by rw [hks]; simp) 5 (by simp [hct]))
                have HTA := Lib.hid tA
                have HVV := Lib.hid vA
                have HCT := Lib.hid hct
                have HCI := Lib.hid hci
                clear hks hct hci tA vA
                by_cases hn : y.name.size ≤ 300
                · have tn : decide ((300 : Int) < (y.name.size : Int)) = false := by simp; omega
                  have HN := Lib.hid hn
                  clear hn
                  go_wp2_with (first | ((with_reducible refine wl_sload 45 _ rfl ?hw wr.heap.size 2 ct _ rfl HRS.out Tryz.underlying45 rfl ?hi ?_); (case hw => first | exact wanted_none rfl | exact wanted_if rfl rfl rfl rfl); (case hi => rw [HCT.out]; kernel_rfl)) | (go_at_call 22; fail))
                  refine (tsmall _ ct Z ((HTA.out.under HX.out.below).more HX.out.below.size)).mono ?_
                  rintro e z ⟨q, rfl, hb⟩
                  have HBA := Lib.hid (HBZ.out.trans (hb.mono HBZ.out.size))
                  have HZ2 := Lib.hid hb
                  clear hb
                  cases q with
                  | false =>
                    go_wp2
                    go_ret
                    exact NO.out _ (HBA.out)
                  | true =>
                    clear HRS
                    have HRS := Lib.hid (HRV.out z HZ2.out)
                    have HW2 := Lib.hid (HX.out.below.trans (HZ2.out.mono HX.out.below.size))
                    go_wp2_with (first | ((with_reducible refine wl_sload 38 _ rfl ?hw wr.heap.size 5 ci _ rfl HRS.out Tryz.underlying38 rfl ?hi ?_); (case hw => first | exact wanted_none rfl | exact wanted_if rfl rfl rfl rfl); (case hi => rw [HCI.out]; kernel_rfl)) | (go_at_call 23; fail))
                    refine (vsmall _ ci z ((HVV.out.under HW2.out).more HW2.out.size)).mono ?_
                    rintro e z ⟨q, rfl, hb⟩
                    have HBC := Lib.hid (HBA.out.trans (hb.mono HBA.out.size))
                    have HZ2 := Lib.hid hb
                    clear hb
                    cases q with
                    | false =>
                      go_wp2
                      go_ret
                      exact NO.out _ (HBC.out)
                    | true =>
                      go_wp2
                      go_roundg g
                      case measure => omega
                      case rel => exact ⟨j + 1, by omega, by go_num, HBC.out⟩
                · have tn : decide ((300 : Int) < (y.name.size : Int)) = true := by simp; omega
                  clear hn
                  go_wp2
                  go_ret
                  exact NO.out _ HBZ.out
              | zero =>
                have hge : ¬ ((j : Int) < (m.vars.length : Int)) := by omega
                go_wp2
                clear hge hj d3
                go_loopg [5] m.msgs.length (fun g i wr => ∃ j : Nat, j + g = m.msgs.length ∧ i = .int .i64 j ∧ Below W.heap.size W wr)
                case atStart => exact ⟨0, by omega, rfl, HB1.out⟩
                case round =>
                  obtain ⟨j, hj, rfl, hb⟩ := hrel
                  have HB1 := Lib.hid hb
                  have HB1' := Lib.hid (HB.out.trans (hb.mono HB.out.size))
                  obtain ⟨d1, d2, d3, d4, d5⟩ := HF.out wr hb
                  clear hb d1 d2 d3 d5
                  cases gk with
                  | succ g =>
                    have hlt : (j : Int) < (m.msgs.length : Int) := by omega
                    have hle : (m.msgs.length : Int) ≤ 40 := by have := H4.out; omega
                    obtain ⟨y, hy⟩ : ∃ y, m.msgs[j]? = some y := ⟨_, List.getElem?_eq_getElem (by omega)⟩
                    obtain ⟨b, o, rfl, hbb, hc⟩ := HA4.out (by omega)
                    obtain ⟨ks, hcl, hr, hR⟩ := hc j y hy
                    have HRK := Lib.hid (rangeAt_below hr HB1'.out hbb)
                    have HKL := Lib.hid hcl
                    have HVA := Lib.hid ((hR.under HB1'.out).more HB1'.out.size)
                    have HY := Lib.hid hy
                    clear hc hr hR hy hcl
                    go_upto_region 13 with (first | ((with_reducible refine wl_sload 61 _ rfl ?hw b (o + j * 8) ks _ rfl HRK.out Tryz.underlying61 rfl ?hi ?_); (case hw => first | exact wanted_none rfl | exact wanted_if rfl rfl rfl rfl); (case hi => rw [HKL.out]; kernel_rfl)) | ((with_reducible refine wl_sbox 61 _ _ rfl ?hw wr ?z13 ks ?hwld ?hz ?hx ?hy ?hi ?h1 ?_); (case hwld => rfl); (case hx => rfl); (case hy => rfl); (case hw => first | exact wanted_none rfl | exact wanted_if rfl rfl rfl rfl); (case hz => rw [HKL.out]; rfl); (case hi => rw [HKL.out]; kernel_rfl); (case h1 => exact HVA.out.one); intro Z hbx; have HX := Lib.hid hbx; clear hbx))
                    have HBZ := Lib.hid (HB1.out.trans (HX.out.below.mono HB1.out.size))
                    obtain ⟨⟨ct, ci, hks, hct, hci, tA, vA⟩, _, _⟩ := HVA.out
                    have dn : Z.cell? ⟨wr.heap.size, 0, none⟩ = some (.string y.name) := HX.out.cell 0 (by rw [hks]; rfl)
                    have HRS := Lib.hid (HX.out.sub (Below.refl _ _) [.string y.name, .int .i64 y.label] ct ci hks 2 rfl)
                    have HRV := Lib.hid (fun (u : World) (hu : Below Z.heap.size Z u) => HX.out.sub hu ([.string y.name, .int .i64 y.label] ++ ct) ci [] (by rw [hks]; simp) 5 (by simp [hct]))
                    have HTA := Lib.hid tA
                    have HVV := Lib.hid vA
                    have HCT := Lib.hid hct
                    have HCI := Lib.hid hci
                    clear hks hct hci tA vA
                    by_cases hn : y.name.size ≤ 300
                    · have tn : decide ((300 : Int) < (y.name.size : Int)) = false := by simp; omega
                      have HN := Lib.hid hn
                      clear hn
                      go_wp2_with (first | ((with_reducible refine wl_sload 45 _ rfl ?hw wr.heap.size 2 ct _ rfl HRS.out Tryz.underlying45 rfl ?hi ?_); (case hw => first | exact wanted_none rfl | exact wanted_if rfl rfl rfl rfl); (case hi => rw [HCT.out]; kernel_rfl)) | (go_at_call 22; fail))
                      refine (tsmall _ ct Z ((HTA.out.under HX.out.below).more HX.out.below.size)).mono ?_
                      rintro e z ⟨q, rfl, hb⟩
                      have HBA := Lib.hid (HBZ.out.trans (hb.mono HBZ.out.size))
                      have HZ2 := Lib.hid hb
                      clear hb
                      cases q with
                      | false =>
                        go_wp2
                        go_ret
                        exact NO.out _ (HBA.out)
                      | true =>
                        clear HRS
                        have HRS := Lib.hid (HRV.out z HZ2.out)
                        have HW2 := Lib.hid (HX.out.below.trans (HZ2.out.mono HX.out.below.size))
                        go_wp2_with (first | ((with_reducible refine wl_sload 45 _ rfl ?hw wr.heap.size 5 ci _ rfl HRS.out Tryz.underlying45 rfl ?hi ?_); (case hw => first | exact wanted_none rfl | exact wanted_if rfl rfl rfl rfl); (case hi => rw [HCI.out]; kernel_rfl)) | (go_at_call 22; fail))
                        refine (tsmall _ ci z ((HVV.out.under HW2.out).more HW2.out.size)).mono ?_
                        rintro e z ⟨q, rfl, hb⟩
                        have HBC := Lib.hid (HBA.out.trans (hb.mono HBA.out.size))
                        have HZ2 := Lib.hid hb
                        clear hb
                        cases q with
                        | false =>
                          go_wp2
                          go_ret
                          exact NO.out _ (HBC.out)
                        | true =>
                          go_wp2
                          go_roundg g
                          case measure => omega
                          case rel => exact ⟨j + 1, by omega, by go_num, HBC.out⟩
                    · have tn : decide ((300 : Int) < (y.name.size : Int)) = true := by simp; omega
                      clear hn
                      go_wp2
                      go_ret
                      exact NO.out _ HBZ.out
                  | zero =>
                    have hge : ¬ ((j : Int) < (m.msgs.length : Int)) := by omega
                    go_wp2
                    clear hge hj d4
                    go_loopg [7] m.nodes.length (fun g i wr => ∃ j : Nat, j + g = m.nodes.length ∧ i = .int .i64 j ∧ Below W.heap.size W wr ∧ ∀ (q : Nat) x, q < j → m.nodes[q]? = some x → x.next.length ≤ 40 ∧ x.conds.length ≤ 40)
                    case atStart => exact ⟨0, by omega, rfl, HB1.out, fun q x hq => by omega⟩
                    case round =>
                      obtain ⟨j, hj, rfl, hb, hall⟩ := hrel
                      have HB1 := Lib.hid hb
                      have HB1' := Lib.hid (HB.out.trans (hb.mono HB.out.size))
                      obtain ⟨d1, d2, d3, d4, d5⟩ := HF.out wr hb
                      clear hb d1 d2 d3 d4
                      have HALL := Lib.hid hall
                      clear hall
                      cases gk with
                      | succ g =>
                        have hlt : (j : Int) < (m.nodes.length : Int) := by omega
                        have hle : (m.nodes.length : Int) ≤ 100 := by have := H5.out; omega
                        obtain ⟨y, hy⟩ : ∃ y, m.nodes[j]? = some y := ⟨_, List.getElem?_eq_getElem (by omega)⟩
                        obtain ⟨b, o, rfl, hbb, hc⟩ := HA5.out (by omega)
                        obtain ⟨ks, hcl, hr, hR⟩ := hc j y hy
                        have HRK := Lib.hid (rangeAt_below hr HB1'.out hbb)
                        have HKL := Lib.hid hcl
                        have HVA := Lib.hid ((hR.under HB1'.out).more HB1'.out.size)
                        have HY := Lib.hid hy
                        clear hc hr hR hy hcl
                        go_upto_region 19 with (first | ((with_reducible refine wl_sload 42 _ rfl ?hw b (o + j * 29) ks _ rfl HRK.out Tryz.underlying42 rfl ?hi ?_); (case hw => first | exact wanted_none rfl | exact wanted_if rfl rfl rfl rfl); (case hi => rw [HKL.out]; kernel_rfl)) | ((with_reducible refine wl_sbox 42 _ _ rfl ?hw wr ?z19 ks ?hwld ?hz ?hx ?hy ?hi ?h1 ?_); (case hwld => rfl); (case hx => rfl); (case hy => rfl); (case hw => first | exact wanted_none rfl | exact wanted_if rfl rfl rfl rfl); (case hz => rw [HKL.out]; rfl); (case hi => rw [HKL.out]; kernel_rfl); (case h1 => exact HVA.out.one); intro Z hbx; have HX := Lib.hid hbx; clear hbx))
                        have HBZ := Lib.hid (HB1.out.trans (HX.out.below.mono HB1.out.size))
                        obtain ⟨⟨vn, vc, ce, cb, hks, hce, hcb, hnx, hcn, _, eA, bA⟩, _⟩ := HVA.out
                        obtain ⟨_, NA, nc, rfl, _⟩ := hnx
                        have HCN := Lib.hid hcn
                        obtain ⟨_, CA, cc, rfl, hca⟩ := hcn
                        have HCA := Lib.hid hca
                        have HEA := Lib.hid eA
                        have HBA := Lib.hid bA
                        have dn : Z.cell? ⟨wr.heap.size, 2, none⟩ = some (.slice NA y.next.length nc) := HX.out.cell 2 (by rw [hks]; rfl)
                        have HDC := Lib.hid (fun (u : World) (hu : Below Z.heap.size Z u) => (HX.out.cell' hu 3 (by rw [hks]; rfl) : u.cell? ⟨wr.heap.size, 3, none⟩ = some (.slice CA y.conds.length cc)))
                        have dc := HDC.out Z (Below.refl _ _)
                        have HRE := Lib.hid (fun (u : World) (hu : Below Z.heap.size Z u) => HX.out.sub hu [.int .i64 y.kind, .int .i64 y.label, .slice NA y.next.length nc, .slice CA y.conds.length cc] ce (cb ++ [.int .i64 y.var, .int .i64 y.msg, .int .i64 y.catch_, .int .i64 y.wait, .int .i64 y.from_]) (by rw [hks]; simp) 4 rfl)
                        have HRB := Lib.hid (fun (u : World) (hu : Below Z.heap.size Z u) => HX.out.sub hu ([.int .i64 y.kind, .int .i64 y.label, .slice NA y.next.length nc, .slice CA y.conds.length cc] ++ ce) cb [.int .i64 y.var, .int .i64 y.msg, .int .i64 y.catch_, .int .i64 y.wait, .int .i64 y.from_] (by rw [hks]) 14 (by simp [hce]))
                        have HCE := Lib.hid hce
                        have HCB := Lib.hid hcb
                        clear hks hce hcb eA bA hca
                        by_cases h1 : y.next.length ≤ 40
                        · have t1 : decide ((40 : Int) < (y.next.length : Int)) = false := by simp; omega
                          have HN1 := Lib.hid h1
                          clear h1
                          by_cases h2 : y.conds.length ≤ 40
                          · have t2 : decide ((40 : Int) < (y.conds.length : Int)) = false := by simp; omega
                            have HN2 := Lib.hid h2
                            clear h2
                            have HRS := Lib.hid (HRE.out Z (Below.refl _ _))
                            go_wp2_with (first | ((with_reducible refine wl_sload 40 _ rfl ?hw wr.heap.size 4 ce _ rfl HRS.out Tryz.underlying40 rfl ?hi ?_); (case hw => first | exact wanted_none rfl | exact wanted_if rfl rfl rfl rfl); (case hi => rw [HCE.out]; kernel_rfl)) | (go_at_call 24; fail))
                            refine (esmall _ ce Z ((HEA.out.under HX.out.below).more HX.out.below.size)).mono ?_
                            rintro e z ⟨q, rfl, hb⟩
                            have HBG := Lib.hid (HBZ.out.trans (hb.mono HBZ.out.size))
                            have HZ2 := Lib.hid hb
                            clear hb
                            cases q with
                            | false =>
                              go_wp2
                              go_ret
                              exact NO.out _ (HBG.out)
                            | true =>
                              clear HRS dc dn
                              have HRS := Lib.hid (HRB.out z HZ2.out)
                              have HW2 := Lib.hid (HX.out.below.trans (HZ2.out.mono HX.out.below.size))
                              have HQ1 := Lib.hid HZ2.out
                              clear HZ2
                              go_wp2_with (first | ((with_reducible refine wl_sload 40 _ rfl ?hw wr.heap.size 14 cb _ rfl HRS.out Tryz.underlying40 rfl ?hi ?_); (case hw => first | exact wanted_none rfl | exact wanted_if rfl rfl rfl rfl); (case hi => rw [HCB.out]; kernel_rfl)) | (go_at_call 24; fail))
                              refine (esmall _ cb z ((HBA.out.under HW2.out).more HW2.out.size)).mono ?_
                              rintro e z ⟨q, rfl, hb⟩
                              have HBH := Lib.hid (HBG.out.trans (hb.mono HBG.out.size))
                              have HZ2 := Lib.hid hb
                              clear hb
                              cases q with
                              | false =>
                                go_wp2
                                go_ret
                                exact NO.out _ (HBH.out)
                              | true =>
                                have HQ2 := Lib.hid (HQ1.out.trans (HZ2.out.mono HQ1.out.size))
                                clear HRS HZ2 HQ1 HW2 HRE HRB t1 t2
                                go_wp2
                                go_loopg [9] y.conds.length (fun g i u => ∃ t : Nat, t + g = y.conds.length ∧ i = .int .i64 t ∧ Below Z.heap.size Z u)
                                case atStart => exact ⟨0, by omega, rfl, HQ2.out⟩
                                case round =>
                                  obtain ⟨t, ht, rfl, hu⟩ := hrel
                                  have HU := Lib.hid hu
                                  have HU' := Lib.hid (HBZ.out.trans (hu.mono HBZ.out.size))
                                  have dc := HDC.out wr hu
                                  clear hu
                                  cases gk with
                                  | zero =>
                                    have hge : ¬ ((t : Int) < (y.conds.length : Int)) := by omega
                                    go_wp2
                                    go_roundg g
                                    case measure => omega
                                    case rel =>
                                      refine ⟨j + 1, by omega, by go_num, HU'.out, fun q x hq hx => ?_⟩
                                      by_cases e : q = j
                                      · subst e
                                        have : x = y := Option.some.inj (hx.symm.trans HY.out)
                                        subst this
                                        exact ⟨HN1.out, HN2.out⟩
                                      · exact HALL.out q x (by omega) hx
                                  | succ g2 =>
                                    have hlt2 : (t : Int) < (y.conds.length : Int) := by omega
                                    have hle2 : (y.conds.length : Int) ≤ 40 := by have := HN2.out; omega
                                    obtain ⟨x, hx⟩ : ∃ x, y.conds[t]? = some x := ⟨_, List.getElem?_eq_getElem (by omega)⟩
                                    obtain ⟨bc, oc, rfl, hbc, hcc⟩ := HCA.out (by omega)
                                    obtain ⟨es, hel, her, heR⟩ := hcc t x hx
                                    have hZU := HX.out.below.trans (HU.out.mono HX.out.below.size)
                                    have HRS := Lib.hid (rangeAt_below her hZU hbc)
                                    have HEL := Lib.hid hel
                                    have HEV := Lib.hid ((heR.under hZU).more hZU.size)
                                    clear hcc her heR hx hel hZU
                                    go_wp2_with (first | ((with_reducible refine wl_sload 40 _ rfl ?hw bc (oc + t * 10) es _ rfl HRS.out Tryz.underlying40 rfl ?hi ?_); (case hw => first | exact wanted_none rfl | exact wanted_if rfl rfl rfl rfl); (case hi => rw [HEL.out]; kernel_rfl)) | (go_at_call 24; fail))
                                    refine (esmall _ es _ HEV.out).mono ?_
                                    rintro e z2 ⟨q, rfl, hb⟩
                                    have HU2 := Lib.hid (HU.out.trans (hb.mono HU.out.size))
                                    clear hb
                                    cases q with
                                    | false =>
                                      go_wp2
                                      go_ret
                                      exact NO.out _ (HBZ.out.trans (HU2.out.mono HBZ.out.size))
                                    | true =>
                                      go_wp2
                                      go_roundg g2
                                      case measure => omega
                                      case rel => exact ⟨t + 1, by omega, by go_num, HU2.out⟩
                          · have t2 : decide ((40 : Int) < (y.conds.length : Int)) = true := by simp; omega
                            clear h2
                            go_wp2
                            go_ret
                            exact NO.out _ HBZ.out
                        · have t1 : decide ((40 : Int) < (y.next.length : Int)) = true := by simp; omega
                          clear h1
                          go_wp2
                          go_ret
                          exact NO.out _ HBZ.out
                      | zero =>
                        have hge : ¬ ((j : Int) < (m.nodes.length : Int)) := by omega
                        go_wp2
                        go_ret
                        exact ⟨true, rfl, HB1'.out, fun _ => ⟨H1.out, H2.out, H3.out, H4.out, H5.out, fun i x hx => HALL.out i x (by have := (List.getElem?_eq_some_iff.1 hx).1; omega) hx⟩⟩
          · have t5 : decide ((100 : Int) < m.nodes.length) = true := by simp; omega
            clear h1 h2 h3 h4 h5
            go_wp2
            go_ret
            exact NO.out _ (Below.refl _ _)
        · have t4 : decide ((40 : Int) < m.msgs.length) = true := by simp; omega
          clear h1 h2 h3 h4
          go_wp2
          go_ret
          exact NO.out _ (Below.refl _ _)
      · have t3 : decide ((40 : Int) < m.vars.length) = true := by simp; omega
        clear h1 h2 h3
        go_wp2
        go_ret
        exact NO.out _ (Below.refl _ _)
    · have t2 : decide ((200 : Int) < m.grants.length) = true := by simp; omega
      clear h1 h2
      go_wp2
      go_ret
      exact NO.out _ (Below.refl _ _)
  · have t1 : decide ((200 : Int) < m.order.length) = true := by simp; omega
    clear h1
    go_wp2
    go_ret
    exact NO.out _ (Below.refl _ _)
end Go.Proofs.YtlfefikhmdbbfaaGreat
