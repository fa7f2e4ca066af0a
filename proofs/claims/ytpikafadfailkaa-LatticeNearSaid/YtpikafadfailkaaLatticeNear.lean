/- THE STATEMENT LatticeNear is proved: for every number, every list of pairs and every label the Go function LatticeNear returns true, and its arguments read afterwards as before; without conditions. -/
import Derived.Test.YtpikafadfailkaaBoth1b
import Derived.Maps.RangeWalk
namespace Go.Proofs.Ytpikafadfailkaa
open Go.ChangeShapes Go.WideShapes Go.ChangeAt Go.RowKit P
set_option linter.unusedVariables false

theorem dnL_len (n : Nat) (L : Rel) (a : Int) : (dnL n L a).length ≤ 8 := by
  unfold dnL nearOf; split
  · exact listTo_le _ 8
  · simp
theorem upL_len (n : Nat) (L : Rel) (a : Int) : (upL n L a).length ≤ 8 := by
  unfold upL nearOf; split
  · exact listTo_le _ 8
  · simp

set_option maxHeartbeats 1000000 in
set_option maxRecDepth 100000 in
theorem latticeNear_walk (w : World) (n : Int) (_wn : (Lit.int .i64 n).wf = true) (A : Option Addr) (l c : Nat) (ps : List (Int × Int)) (hl : ps.length = l) (hp : Pairs w w.heap.size A ps) (a : Int) (_wa : (Lit.int .i64 a).wf = true) :
    Calls Try.prog 7 #[.int .i64 n, .slice A l c, .int .i64 a] w fun e w' => e = .returned (.bool true) ∧ Below w.heap.size w w' := by
  have CB := Lib.hid (both1_all n A l c ps w hl hp)
  have hz := rzero
  clear hl hp
  go_enter Try.func7, Try.ntmps7
  go_wp2_with fail
  refine CB.out.mono ?_
  rintro e w1 ⟨hb, (⟨N, L, rfl⟩ | ⟨_, _, k, b, rfl, rfl, hlat⟩)⟩
  · have HB1 := Lib.hid hb
    have HM := Lib.hid (Rm.new w1 0 (fun _ _ => false) 27)
    have HB2 := Lib.hid (below_setCells (hb.alloc hb.size (.cells (rv 0 fun _ _ => false) 27)) (b := w1.heap.size) hb.size (rl N L) 0)
    clear hb CB
    go_wp2_with (first | ((with_reducible show wpList _ _ _ _ _ _); refine wl_rstore _ _ rfl ?hw w1.heap.size N L rfl rfl ?hm ?_; (case hw => simp [Region.wanted]); (case hm => exact ⟨_, _, HM.out⟩)) | (go_at_call 16; fail))
    generalize World.setCells _ _ _ _ = W at *
    refine (awake1 _).mono ?_
    rintro e w2 ⟨rfl, hb⟩
    have HB3 := Lib.hid (HB2.out.trans (hb.mono HB2.out.size))
    clear hb
    go_wp2_with fail
    refine (awake1 _).mono ?_
    rintro e w3 ⟨rfl, hb⟩
    have HB4 := Lib.hid (HB3.out.trans (hb.mono HB3.out.size))
    clear hb
    go_wp2
    go_ret
    exact ⟨rfl, HB4.out⟩
  · have HL1 := Lib.hid hlat
    have HB1 := Lib.hid hb
    have hz1 : w.heap.size ≤ w1.heap.size := hb.size
    have HM := Lib.hid (Rm.new w1 0 (fun _ _ => false) 27)
    have HM2 := Lib.hid (HM.out.setCells k (ordOf k ps))
    have HB2 := Lib.hid (below_setCells (hb.alloc hb.size (.cells (rv 0 fun _ _ => false) 27)) (b := w1.heap.size) hb.size (rl k (ordOf k ps)) 0)
    have HL2 := Lib.hid ((hlat.alloc (.cells (rv 0 fun _ _ => false) 27)).below (below_setCells (Below.refl w1.heap.size _) (Nat.le_refl _) (rl k (ordOf k ps)) 0) hlat.lt)
    have hs2 : w1.heap.size < ((w1.alloc (.cells (rv 0 fun _ _ => false) 27)).setCells w1.heap.size 0 (rl k (ordOf k ps))).heap.size := by rw [size_setCells]; simp
    have h8 := hlat.le8
    have HD := Lib.hid hlat.lat.dom
    clear hb hlat CB
    go_wp2_with (first | ((with_reducible show wpList _ _ _ _ _ _); refine wl_rstore _ _ rfl ?hw w1.heap.size k (ordOf k ps) rfl rfl ?hm ?_; (case hw => simp [Region.wanted]); (case hm => exact ⟨_, _, HM.out⟩)) | (go_at_call 16; fail))
    clear HM
    generalize World.setCells _ _ _ _ = W at *
    generalize ordOf k ps = L at *
    refine (awake1 _).mono ?_
    rintro e w2 ⟨rfl, hb⟩
    have HB3 := Lib.hid (HB2.out.trans (hb.mono HB2.out.size))
    have HL3 := Lib.hid (HL2.out.here hb)
    have HM3 := Lib.hid (HM2.out.below hb hs2)
    have hs3 : w1.heap.size < w2.heap.size := by have := hb.size; omega
    clear hb HM2 HL2 hs2
    go_wp2_with fail
    refine wp_region_ord [(0, true), (1, true), (3, true), (4, true), (2, false), (5, false), (6, false), (7, true), (8, true), (9, true), (11, true), (12, true), (10, false), (13, false), (14, false), (15, true), (16, true)]
      (fun w' => Rm w' w1.heap.size k L ∧ LatR w' b k L ∧ w1.heap.size < w'.heap.size) (by kernel_rfl) (by kernel_rfl) (by kernel_rfl) rfl (by intro c a d v w h; cases d <;> exact h) ?_
    have hs : Rm w2.drew w1.heap.size k L ∧ LatR w2.drew b k L ∧ w1.heap.size < w2.drew.heap.size := ⟨HM3.out.drew, HL3.out.drew, hs3⟩
    clear hs3
    refine ord_move (some 24) (.pointer (some ⟨b, 0, none⟩)) _ _ rfl rfl rfl (by first | exact wanted_none rfl | exact wanted_if rfl rfl rfl rfl) hs rfl ?_
    go_frame
    refine ord_move (some 25) (.int .i64 a) _ _ rfl rfl rfl (by first | exact wanted_none rfl | exact wanted_if rfl rfl rfl rfl) hs rfl ?_
    go_frame
    refine ord_load (some 27) (.agg (rv k L)) _ rfl rfl (by first | exact wanted_none rfl | exact wanted_if rfl rfl rfl rfl) hs (fun w' hw' => exec_rload _ _ rfl _ _ _ rfl hw'.1) ?_
    go_frame
    refine ord_move (some 28) (.int .i64 a) _ _ rfl rfl rfl (by first | exact wanted_none rfl | exact wanted_if rfl rfl rfl rfl) hs rfl ?_
    go_frame
    refine ord_to (some 26) 34 Try.func34 (by kernel_rfl) (by kernel_rfl) [.pointer (some ⟨b, 0, none⟩), .int .i64 a] _ _ _ rfl rfl rfl (by first | exact wanted_none rfl | exact wanted_if rfl rfl rfl rfl) rfl ?_
    refine (below_r hs.2.1 a).mono ?_
    rintro e w3 ⟨v1, rfl, hown1, hb3⟩
    have hs3 : Rm w3 w1.heap.size k L ∧ LatR w3 b k L ∧ w1.heap.size < w3.heap.size := ⟨hs.1.below hb3 hs.2.2, hs.2.1.here hb3, Nat.lt_of_lt_of_le hs.2.2 hb3.size⟩
    refine ⟨v1, rfl, hs3, ?_⟩
    go_frame
    refine ord_to (some 29) 35 Try.func35 (by kernel_rfl) (by kernel_rfl) [.agg (rv k L), .int .i64 a, .bool false] _ _ _ rfl rfl rfl (by first | exact wanted_none rfl | exact wanted_if rfl rfl rfl rfl) rfl ?_
    refine (rnear_dn k L a w3 h8 HD.out).mono ?_
    rintro e w4 ⟨v2, rfl, hown2, hb4⟩
    have hs4 : Rm w4 w1.heap.size k L ∧ LatR w4 b k L ∧ w1.heap.size < w4.heap.size := ⟨hs3.1.below hb4 hs3.2.2, hs3.2.1.here hb4, Nat.lt_of_lt_of_le hs3.2.2 hb4.size⟩
    refine ⟨v2, rfl, hs4, ?_⟩
    go_frame
    have i1 : IntsAt w4 w4.heap.size v1 (dnL k L a) := ((IntsAt.of_own hown1 (by have := dnL_len k L a; omega)).below hb4).more hb4.size
    have i2 : IntsAt w4 w4.heap.size v2 (dnL k L a) := IntsAt.of_own hown2 (by have := dnL_len k L a; omega)
    refine ord_to (some 30) 33 Try.func33 (by kernel_rfl) (by kernel_rfl) [v1, v2] _ _ _ rfl rfl rfl (by first | exact wanted_none rfl | exact wanted_if rfl rfl rfl rfl) rfl ?_
    have sm := same_any v1 v2 _ _ _ w4 i1 i2
    rw [show (dnL k L a == dnL k L a) = true from beq_self_eq_true _] at sm
    refine sm.mono ?_
    rintro e w5 ⟨rfl, m5, rfl⟩
    have hs5 : Rm (w4.drewN m5) w1.heap.size k L ∧ LatR (w4.drewN m5) b k L ∧ w1.heap.size < (w4.drewN m5).heap.size := ⟨hs4.1.drewN m5, hs4.2.1.drewN m5, hs4.2.2⟩
    refine ⟨.bool true, rfl, hs5, ?_⟩
    go_frame
    refine ord_move (some 31) (.bool true) _ _ rfl rfl rfl (by first | exact wanted_none rfl | exact wanted_if rfl rfl rfl rfl) hs5 rfl ?_
    go_frame
    refine ord_move (some 32) (.pointer (some ⟨b, 0, none⟩)) _ _ rfl rfl rfl (by first | exact wanted_none rfl | exact wanted_if rfl rfl rfl rfl) hs5 rfl ?_
    go_frame
    refine ord_move (some 33) (.int .i64 a) _ _ rfl rfl rfl (by first | exact wanted_none rfl | exact wanted_if rfl rfl rfl rfl) hs5 rfl ?_
    go_frame
    refine ord_load (some 35) (.agg (rv k L)) _ rfl rfl (by first | exact wanted_none rfl | exact wanted_if rfl rfl rfl rfl) hs5 (fun w' hw' => exec_rload _ _ rfl _ _ _ rfl hw'.1) ?_
    go_frame
    refine ord_move (some 36) (.int .i64 a) _ _ rfl rfl rfl (by first | exact wanted_none rfl | exact wanted_if rfl rfl rfl rfl) hs5 rfl ?_
    go_frame
    refine ord_to (some 34) 36 Try.func36 (by kernel_rfl) (by kernel_rfl) [.pointer (some ⟨b, 0, none⟩), .int .i64 a] _ _ _ rfl rfl rfl (by first | exact wanted_none rfl | exact wanted_if rfl rfl rfl rfl) rfl ?_
    refine (above_r hs5.2.1 a).mono ?_
    rintro e w6 ⟨v3, rfl, hown3, hb6⟩
    have hs6 : Rm w6 w1.heap.size k L ∧ LatR w6 b k L ∧ w1.heap.size < w6.heap.size := ⟨hs5.1.below hb6 hs5.2.2, hs5.2.1.here hb6, Nat.lt_of_lt_of_le hs5.2.2 hb6.size⟩
    refine ⟨v3, rfl, hs6, ?_⟩
    go_frame
    refine ord_to (some 37) 35 Try.func35 (by kernel_rfl) (by kernel_rfl) [.agg (rv k L), .int .i64 a, .bool true] _ _ _ rfl rfl rfl (by first | exact wanted_none rfl | exact wanted_if rfl rfl rfl rfl) rfl ?_
    refine (rnear_up k L a w6 h8 HD.out).mono ?_
    rintro e w7 ⟨v4, rfl, hown4, hb7⟩
    have hs7 : Rm w7 w1.heap.size k L ∧ LatR w7 b k L ∧ w1.heap.size < w7.heap.size := ⟨hs6.1.below hb7 hs6.2.2, hs6.2.1.here hb7, Nat.lt_of_lt_of_le hs6.2.2 hb7.size⟩
    refine ⟨v4, rfl, hs7, ?_⟩
    go_frame
    have i3 : IntsAt w7 w7.heap.size v3 (upL k L a) := ((IntsAt.of_own hown3 (by have := upL_len k L a; omega)).below hb7).more hb7.size
    have i4 : IntsAt w7 w7.heap.size v4 (upL k L a) := IntsAt.of_own hown4 (by have := upL_len k L a; omega)
    refine ord_to (some 38) 33 Try.func33 (by kernel_rfl) (by kernel_rfl) [v3, v4] _ _ _ rfl rfl rfl (by first | exact wanted_none rfl | exact wanted_if rfl rfl rfl rfl) rfl ?_
    have sm := same_any v3 v4 _ _ _ w7 i3 i4
    rw [show (upL k L a == upL k L a) = true from beq_self_eq_true _] at sm
    refine sm.mono ?_
    rintro e w8 ⟨rfl, m8, rfl⟩
    have hs8 : Rm (w7.drewN m8) w1.heap.size k L ∧ LatR (w7.drewN m8) b k L ∧ w1.heap.size < (w7.drewN m8).heap.size := ⟨hs7.1.drewN m8, hs7.2.1.drewN m8, hs7.2.2⟩
    refine ⟨.bool true, rfl, hs8, ?_⟩
    go_frame
    refine ord_pick (some 39) (.bool true) _ _ _ _ true rfl rfl rfl rfl (by first | exact wanted_none rfl | exact wanted_if rfl rfl rfl rfl) hs8 rfl ?_
    go_frame
    refine ord_assign (some 6) (.bool true) _ _ rfl rfl rfl (by first | exact wanted_none rfl | exact wanted_if rfl rfl rfl rfl) hs8 rfl ?_
    go_frame
    refine ord_end ?_
    have HB8 : Hid (Below w.heap.size w (w7.drewN m8)) := by
      have z2 : w.heap.size ≤ w2.heap.size := HB3.out.size
      have z3 : w.heap.size ≤ w3.heap.size := Nat.le_trans z2 hb3.size
      have z4 : w.heap.size ≤ w4.heap.size := Nat.le_trans z3 hb4.size
      have z6 : w.heap.size ≤ w6.heap.size := Nat.le_trans z4 hb6.size
      exact Lib.hid (below_drewN (((below_drewN ((HB3.out.drew.trans (hb3.mono z2)).trans (hb4.mono z3)) m5).trans (hb6.mono z4)).trans (hb7.mono z6)) m8)
    clear hs hs3 hs4 hs5 hs6 hs7 hs8 hb3 hb4 hb6 hb7 i1 i2 i3 i4 hown1 hown2 hown3 hown4
    go_simp
    go_wp2
    go_ret
    exact ⟨rfl, HB8.out⟩

set_option maxRecDepth 100000 in
/-- the row's step, argument by argument -/
theorem latticeNear_lifted (os : Os) (started : os.Started) (H : Type) (enc : TypeId × Value → H) :
    ReturnsInHanded {} Try.checked os 7 .any (Rows.latticeNearSpec.pre6 enc Try.prog Try.f7 Rows.latticeNearRow.domain false) (Rows.latticeNearSpec.post enc Try.prog Try.f7 false true false false) := by
  refine returnsInHanded_of_change (C := Try.checked) own started (by kernel_rfl) Try.func7
    (ChangeSpec.witness6 (enc := enc) (C := Try.checked) false ⟨#[], #[.int .i64 0, .slice none 0 0, .int .i64 0], []⟩ 8 (by kernel_rfl) (by kernel_rfl) (by kernel_rfl) (by kernel_rfl)) ?_
  intro W base args ds gs before hval0 hW hcnd _
  have hval : ∀ (j : Nat) t v, Try.f7.params[j]? = some t → args[j]? = some v → Value.okWide Try.prog W .any base t v := hval0
  have hW' := hW
  obtain ⟨p, q, hA0, hV, rfl, hfz, hnd⟩ := hW
  have hA : DataW.TrodAll enc Try.prog W 0 (fun _ => true) true Try.f7.params.toList args.toList ds p := hA0
  rw [Try.params7] at hA hval
  obtain ⟨v0, vs0, d0, ds0, p0, q0, hargs, rfl, rfl, h0, r0⟩ := trodAll_cons hA
  obtain ⟨v1, vs1, d1, ds1, p1, q1, rfl, rfl, rfl, h1, r1⟩ := trodAll_cons r0
  obtain ⟨v2, vs2, d2, ds2, p2, q2, rfl, rfl, rfl, h2, r2⟩ := trodAll_cons r1
  obtain ⟨rfl, rfl, rfl⟩ := trodAll_nil r2
  obtain rfl : args = #[v0, v1, v2] := by cases args; simp_all
  obtain ⟨rfl, rfl⟩ := trodVars_none hV
  obtain ⟨a0, rfl, rfl, rfl, w0⟩ := open_int Try.underlying3 (hval 0 3 v0 rfl rfl) h0
  obtain ⟨a1, len1, cap1, rfl⟩ := okWide_slice Try.underlying22 (hval 1 22 v1 rfl rfl)
  have k1 := h1
  have lt1 := lt_of_trod k1
  obtain ⟨z1, l1, w1⟩ := open_pairs h1
  obtain ⟨a2, rfl, rfl, rfl, w2⟩ := open_int Try.underlying3 (hval 2 3 v2 rfl rfl) h2
  clear hA0 hval0
  refine (latticeNear_walk W a0 w0 a1 len1 cap1 z1 l1 w1 a2 w2).mono fun e W' ⟨he, bel⟩ => ?_
  subst he
  exact ⟨_, rfl, _, _, _, [], _, [], hW', trodAll_mk1 (shut_bool Try.underlying4 _), (trodAll_cons_mk (shut_int Try.underlying3 w0) (trodAll_cons_mk (Below.trod laidOut (by kernel_rfl) (of_decide_eq_true (by kernel_rfl)) k1 bel lt1) (trodAll_cons_mk (shut_int Try.underlying3 w2) trodAll_mk0))), rfl, bel.frame _, fun h => by cases h⟩

theorem latticeNear_proved : Rows.LatticeNearSaid :=
  OpenClaim.holds_of_wide 7 Try.f7 rfl rfl rfl rfl rfl rfl rfl ⟨rfl, rfl, rfl, rfl, rfl⟩ rfl rfl rfl rfl rfl (by kernel_rfl) Try.func7 (by kernel_rfl)
    (of_decide_eq_true (by kernel_rfl)) (by unfold Func.isWrapper; first | (rw [if_pos (by decide +kernel)]; kernel_rfl) | (rw [if_neg (by decide +kernel)]; exact ⟨rfl, rfl⟩))
    (fun os started H enc _ => latticeNear_lifted os started H enc)
#print axioms latticeNear_proved

end Go.Proofs.Ytpikafadfailkaa
