/- THE STATEMENT RegionDominates is proved: for every model and every root the Go function RegionDominates returns true, and its arguments read afterwards as before; without conditions. -/
import Derived.Test.YtedajbpjokmlaaaOrdModel
import Derived.Test.YtedajbpjokmlaaaNDom
import Derived.Test.YtedajbpjokmlaaaOpen
namespace Go.Proofs.Ytedajbpjokmlaaa
open Go.ChangeShapes Go.WideShapes Go.ChangeAt Go.RowKit Go
set_option linter.unusedVariables false

set_option maxHeartbeats 8000000 in
set_option maxRecDepth 100000 in
theorem regionDominates_walk (w : World) (cs : List Value) (m : ModelT) (hv : ModelAt w w.heap.size cs m) (a : Int) (_wa : (Lit.int .i64 a).wf = true) :
    Calls Try.prog 3 #[.agg ⟨cs⟩, .int .i64 a] w fun e w' => e = .returned (.bool true) ∧ Below w.heap.size w w' := by
  have HM := Lib.hid hv
  obtain ⟨c1, c2, c3, c4, v5, rfl, hg⟩ := hv.graph
  have hgg : GraphAt w w.heap.size v5 (gOf m) := hg
  have HSG := Lib.hid (fun (h : SmallM m) => small_g h)
  generalize gOf m = g at *
  obtain ⟨c0, hc0⟩ : ∃ c0, c0 = Value.int .i64 m.labels := ⟨_, rfl⟩
  rw [← hc0] at HM
  rw [← hc0]
  clear hg hc0
  have HG := Lib.hid hgg
  obtain ⟨hgl, A, c, rfl, hA⟩ := hgg
  clear hA hgl
  go_enter Try.func3, Try.ntmps3
  go_upto_region 1 with (fail)
  have HB1 := Lib.hid (box_below w (.cells ⟨[c0, c1, c2, c3, c4, .slice A g.length c]⟩ 27))
  have HS1 := Lib.hid (box_size w (.cells ⟨[c0, c1, c2, c3, c4, .slice A g.length c]⟩ 27))
  have HC1 := Lib.hid (cells_box w [c0, c1, c2, c3, c4, .slice A g.length c] 27 5 _ rfl)
  have HR1 := Lib.hid (range_box w [c0, c1, c2, c3, c4, .slice A g.length c] 27)
  generalize w.alloc (.cells ⟨[c0, c1, c2, c3, c4, .slice A g.length c]⟩ 27) = W1 at *
  go_wp2_with (fail)
  refine wp_region_ord [(0, false), (1, true), (2, true), (3, false), (4, true), (5, true), (6, true), (7, true), (9, true), (10, true), (8, false), (11, false), (12, false), (13, true), (14, true), (15, true)]
    (fun z => Below W1.heap.size W1 z) (by kernel_rfl) (by kernel_rfl) (by kernel_rfl) rfl (by intro c a d v w h; cases d <;> exact h) ?_
  have hs : Below W1.heap.size W1 W1.drew := (Below.refl _ W1).drew
  refine ord_to (some 5) 10 Try.func10 (by kernel_rfl) (by kernel_rfl) [] _ _ _ rfl rfl rfl (by first | exact wanted_none rfl | exact wanted_if rfl rfl rfl rfl) rfl ?_
  refine (awake15 _).mono ?_
  rintro e z1 ⟨rfl, hb1⟩
  have hs1 : Below W1.heap.size W1 z1 := hs.trans (hb1.mono hs.size)
  refine ⟨.bool true, rfl, hs1, ?_⟩
  go_frame
  refine ord_move (some 6) (.bool true) _ _ rfl rfl rfl (by first | exact wanted_none rfl | exact wanted_if rfl rfl rfl rfl) hs1 rfl ?_
  go_frame
  refine ord_load (some 7) (.agg ⟨[c0, c1, c2, c3, c4, .slice A g.length c]⟩) _ rfl rfl (by first | exact wanted_none rfl | exact wanted_if rfl rfl rfl rfl) hs1 (fun z hz => exec_mload _ _ rfl w.heap.size _ rfl rfl (rangeAt_below HR1.out hz HS1.out)) ?_
  go_frame
  refine ord_to (some 8) 11 Try.func11 (by kernel_rfl) (by kernel_rfl) [.agg ⟨[c0, c1, c2, c3, c4, .slice A g.length c]⟩] _ _ _ rfl rfl rfl (by first | exact wanted_none rfl | exact wanted_if rfl rfl rfl rfl) rfl ?_
  refine (msmall m _ z1 (HM.out.next (HB1.out.trans (hs1.mono HB1.out.size)))).mono ?_
  rintro e z2 ⟨sm, rfl, hb2, hsm⟩
  have hs2 : Below W1.heap.size W1 z2 := hs1.trans (hb2.mono hs1.size)
  refine ⟨.bool sm, rfl, hs2, ?_⟩
  go_frame
  cases sm with
  | false =>
    refine ord_load (some 9) (.bool true) _ rfl rfl (by first | exact wanted_none rfl | exact wanted_if rfl rfl rfl rfl) hs2 (fun z hz => by go_simp) ?_
    go_frame
    refine ord_move (some 10) (.bool true) _ _ rfl rfl rfl (by first | exact wanted_none rfl | exact wanted_if rfl rfl rfl rfl) hs2 rfl ?_
    go_frame
    refine ord_skipd (some 11) _ rfl rfl (by exact wanted_not rfl rfl rfl rfl (by decide)) hs2 ?_
    go_frame
    refine ord_skipd (some 12) _ rfl rfl (by exact wanted_not rfl rfl rfl rfl (by decide)) hs2 ?_
    go_frame
    refine ord_skipd (some 14) _ rfl rfl (by exact wanted_not rfl rfl rfl rfl (by decide)) hs2 ?_
    go_frame
    refine ord_skipd (some 15) _ rfl rfl (by exact wanted_not rfl rfl rfl rfl (by decide)) hs2 ?_
    go_frame
    refine ord_passd (some 13) _ rfl rfl (by exact wanted_not rfl rfl rfl rfl (by decide)) hs2 ?_
    go_frame
    refine ord_passd (some 16) _ rfl rfl (by exact wanted_not rfl rfl rfl rfl (by decide)) hs2 ?_
    go_frame
    refine ord_passd (some 17) _ rfl rfl (by exact wanted_not rfl rfl rfl rfl (by decide)) hs2 ?_
    go_frame
    refine ord_pick (some 18) (.bool true) _ _ _ _ true rfl rfl rfl rfl (by first | exact wanted_none rfl | exact wanted_if rfl rfl rfl rfl) hs2 rfl ?_
    go_frame
    refine ord_pick (some 19) (.bool true) _ _ _ _ true rfl rfl rfl rfl (by first | exact wanted_none rfl | exact wanted_if rfl rfl rfl rfl) hs2 rfl ?_
    go_frame
    refine ord_assign (some 4) (.bool true) _ _ rfl rfl rfl (by first | exact wanted_none rfl | exact wanted_if rfl rfl rfl rfl) hs2 rfl ?_
    go_frame
    refine ord_end ?_
    have HBF := Lib.hid (HB1.out.trans (hs2.mono HB1.out.size))
    clear hs hs1 hs2 hsm
    go_wp2
    go_ret
    exact ⟨rfl, HBF.out⟩
  | true =>
    refine ord_load (some 9) (.bool false) _ rfl rfl (by first | exact wanted_none rfl | exact wanted_if rfl rfl rfl rfl) hs2 (fun z hz => by go_simp) ?_
    go_frame
    refine ord_move (some 10) (.bool false) _ _ rfl rfl rfl (by first | exact wanted_none rfl | exact wanted_if rfl rfl rfl rfl) hs2 rfl ?_
    go_frame
    have hsg := HSG.out (hsm rfl)
    have HN : Hid (g.length ≤ 100) := Lib.hid hsg.1
    have HEN : Hid ((edgesOf g).length ≤ 4100) := Lib.hid hsg.2
    have HL1 : Hid ((edgesOf g).length ≤ 10000) := Lib.hid (by have := HEN.out; omega)
    have HL3 : Hid (g.length ≤ 5000) := Lib.hid (by have := HN.out; omega)
    clear hsg hsm
    refine ord_load (some 11) (.agg ⟨[c0, c1, c2, c3, c4, .slice A g.length c]⟩) _ rfl rfl (by first | exact wanted_none rfl | exact wanted_if rfl rfl rfl rfl) hs2 (fun z hz => exec_mload _ _ rfl w.heap.size _ rfl rfl (rangeAt_below HR1.out hz HS1.out)) ?_
    go_frame
    refine ord_move (some 12) (.int .i64 a) _ _ rfl rfl rfl (by first | exact wanted_none rfl | exact wanted_if rfl rfl rfl rfl) hs2 rfl ?_
    go_frame
    refine ord_load (some 14) (.agg ⟨[c0, c1, c2, c3, c4, .slice A g.length c]⟩) _ rfl rfl (by first | exact wanted_none rfl | exact wanted_if rfl rfl rfl rfl) hs2 (fun z hz => exec_mload _ _ rfl w.heap.size _ rfl rfl (rangeAt_below HR1.out hz HS1.out)) ?_
    go_frame
    refine ord_move (some 15) (.int .i64 a) _ _ rfl rfl rfl (by first | exact wanted_none rfl | exact wanted_if rfl rfl rfl rfl) hs2 rfl ?_
    go_frame
    refine ord_to (some 13) 13 Try.func13 (by kernel_rfl) (by kernel_rfl) [.agg ⟨[c0, c1, c2, c3, c4, .slice A g.length c]⟩, .int .i64 a] _ _ _ rfl rfl rfl (by first | exact wanted_none rfl | exact wanted_if rfl rfl rfl rfl) rfl ?_
    refine (dominators_any g a c0 c1 c2 c3 c4 (.slice A g.length c) z2 (HG.out.next (HB1.out.trans (hs2.mono HB1.out.size))) HL1.out HL3.out).mono ?_
    rintro e z3 ⟨sb, C, V, rfl, hst, hb3, _⟩
    have hs3 : Below W1.heap.size W1 z3 := hs2.trans (hb3.mono hs2.size)
    refine ⟨.slice (some ⟨sb, 0, none⟩) g.length g.length, rfl, hs3, ?_⟩
    go_frame
    have HR3 := Lib.hid (hst.rows fun i _ => by have := doms_len g a i; have := HN.out; omega)
    refine ord_to (some 16) 14 Try.func14 (by kernel_rfl) (by kernel_rfl) [.agg ⟨[c0, c1, c2, c3, c4, .slice A g.length c]⟩, .int .i64 a] _ _ _ rfl rfl rfl (by first | exact wanted_none rfl | exact wanted_if rfl rfl rfl rfl) rfl ?_
    refine (ndominators_any g a c0 c1 c2 c3 c4 (.slice A g.length c) z3 (HG.out.next (HB1.out.trans (hs3.mono HB1.out.size))) HL1.out HN.out).mono ?_
    rintro e z4 ⟨vd, rfl, hrows, hb4⟩
    have hs4 : Below W1.heap.size W1 z4 := hs3.trans (hb4.mono hs3.size)
    refine ⟨vd, rfl, hs4, ?_⟩
    go_frame
    have HR4 := Lib.hid (HR3.out.below hb4)
    refine ord_to (some 17) 12 Try.func12 (by kernel_rfl) (by kernel_rfl) [.slice (some ⟨sb, 0, none⟩) g.length g.length, vd] _ _ _ rfl rfl rfl (by first | exact wanted_none rfl | exact wanted_if rfl rfl rfl rfl) rfl ?_
    refine (same15_any (.slice (some ⟨sb, 0, none⟩) g.length g.length) vd g.length (domsOf g a) (domsOf g a) z4 HR4.out hrows (by have := HN.out; omega) (fun _ _ => rfl)).mono ?_
    rintro e z ⟨rfl, m5, rfl⟩
    have hs5 : Below W1.heap.size W1 (z4.drewN m5) := below_drewN hs4 m5
    refine ⟨.bool true, rfl, hs5, ?_⟩
    go_frame
    refine ord_pick (some 18) (.bool true) _ _ _ _ false rfl rfl rfl rfl (by first | exact wanted_none rfl | exact wanted_if rfl rfl rfl rfl) hs5 rfl ?_
    go_frame
    refine ord_pick (some 19) (.bool true) _ _ _ _ true rfl rfl rfl rfl (by first | exact wanted_none rfl | exact wanted_if rfl rfl rfl rfl) hs5 rfl ?_
    go_frame
    refine ord_assign (some 4) (.bool true) _ _ rfl rfl rfl (by first | exact wanted_none rfl | exact wanted_if rfl rfl rfl rfl) hs5 rfl ?_
    go_frame
    refine ord_end ?_
    have HBF := Lib.hid (HB1.out.trans (hs5.mono HB1.out.size))
    clear hs hs1 hs2 hs3 hs4 hs5 hst hrows
    go_wp2
    go_ret
    exact ⟨rfl, HBF.out⟩

set_option maxRecDepth 100000 in
/-- the row's step, argument by argument -/
theorem regionDominates_lifted (os : Os) (started : os.Started) (H : Type) (enc : TypeId × Value → H) :
    ReturnsInHanded {} Try.checked os 3 .any (Rows.regionDominatesSpec.pre6 enc Try.prog Try.f3 Rows.regionDominatesRow.domain false) (Rows.regionDominatesSpec.post enc Try.prog Try.f3 false true false false) := by
  refine returnsInHanded_of_change (C := Try.checked) own started (by kernel_rfl) Try.func3
    (ChangeSpec.witness6 (enc := enc) (C := Try.checked) false ⟨#[], #[.agg #[.int .i64 0, .slice none 0 0, .slice none 0 0, .slice none 0 0, .slice none 0 0, .slice none 0 0], .int .i64 0], []⟩ 8 (by kernel_rfl) (by kernel_rfl) (by kernel_rfl) (by kernel_rfl)) ?_
  intro W base args ds gs before hval0 hW hcnd _
  have hval : ∀ (j : Nat) t v, Try.f3.params[j]? = some t → args[j]? = some v → Value.okWide Try.prog W .any base t v := hval0
  have hW' := hW
  obtain ⟨p, q, hA0, hV, rfl, hfz, hnd⟩ := hW
  have hA : DataW.TrodAll enc Try.prog W 0 (fun _ => true) true Try.f3.params.toList args.toList ds p := hA0
  rw [Try.params3] at hA hval
  obtain ⟨v0, vs0, d0, ds0, p0, q0, hargs, rfl, rfl, h0, r0⟩ := trodAll_cons hA
  obtain ⟨v1, vs1, d1, ds1, p1, q1, rfl, rfl, rfl, h1, r1⟩ := trodAll_cons r0
  obtain ⟨rfl, rfl, rfl⟩ := trodAll_nil r1
  obtain rfl : args = #[v0, v1] := by cases args; simp_all
  obtain ⟨rfl, rfl⟩ := trodVars_none hV
  have k0 := h0
  have lt0 := lt_of_trod k0
  obtain ⟨cs0, m0, rfl, hm0⟩ := model_arg (hval 0 27 v0 rfl rfl) h0
  obtain ⟨a1, rfl, rfl, rfl, w1⟩ := open_int Try.underlying3 (hval 1 3 v1 rfl rfl) h1
  clear hA0 hval0
  refine (regionDominates_walk W cs0 m0 hm0 a1 w1).mono fun e W' ⟨he, bel⟩ => ?_
  subst he
  exact ⟨_, rfl, _, _, _, [], _, [], hW', trodAll_mk1 (shut_bool Try.underlying4 _), (trodAll_cons_mk (Below.trod laidOut (by kernel_rfl) (of_decide_eq_true (by kernel_rfl)) k0 bel lt0) (trodAll_cons_mk (shut_int Try.underlying3 w1) trodAll_mk0)), rfl, bel.frame _, fun h => by cases h⟩

theorem regionDominates_proved : Rows.RegionDominatesSaid :=
  OpenClaim.holds_of_wide 3 Try.f3 rfl rfl rfl rfl rfl rfl rfl ⟨rfl, rfl, rfl, rfl, rfl⟩ rfl rfl rfl rfl rfl (by kernel_rfl) Try.func3 (by kernel_rfl)
    (of_decide_eq_true (by kernel_rfl)) (by unfold Func.isWrapper; first | (rw [if_pos (by decide +kernel)]; kernel_rfl) | (rw [if_neg (by decide +kernel)]; exact ⟨rfl, rfl⟩))
    (fun os started H enc _ => regionDominates_lifted os started H enc)
#print axioms regionDominates_proved

end Go.Proofs.Ytedajbpjokmlaaa
