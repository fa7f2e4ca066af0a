/- THE STATEMENT LatticeLaws is proved: for every number, every list of pairs and every three labels the Go function LatticeLaws returns true, and its arguments read afterwards as before; without conditions. -/
import Derived.Test.YtpikafadfailkaaBoth1b
namespace Go.Proofs.Ytpikafadfailkaa
open Go.ChangeShapes Go.WideShapes Go.ChangeAt Go.RowKit P
set_option linter.unusedVariables false

theorem join_cl {w : World} {b n g : Nat} {L : Rel} (h : LatR w b n L) (x y : Int) (hc : w.cell? ⟨g, 0, none⟩ = some (.pointer (some ⟨b, 0, none⟩))) :
    Calls Try.prog 18 #[.int .i64 x, .int .i64 y, .pointer (some ⟨g, 0, none⟩)] w fun e w' => e = .returned (.int .i64 (jnI n L x y)) ∧ w = w' := by
  have HL := Lib.hid h
  clear h
  go_enter Try.func18, Try.ntmps18
  go_wp2_with (go_at_call 19; refine (join_r HL.out _ _).mono ?_; rintro e w' ⟨rfl, rfl⟩)
  go_ret
  exact ⟨rfl, rfl⟩
theorem meet_cl {w : World} {b n g : Nat} {L : Rel} (h : LatR w b n L) (x y : Int) (hc : w.cell? ⟨g, 0, none⟩ = some (.pointer (some ⟨b, 0, none⟩))) :
    Calls Try.prog 20 #[.int .i64 x, .int .i64 y, .pointer (some ⟨g, 0, none⟩)] w fun e w' => e = .returned (.int .i64 (mtI n L x y)) ∧ w = w' := by
  have HL := Lib.hid h
  clear h
  go_enter Try.func20, Try.ntmps20
  go_wp2_with (go_at_call 21; refine (meet_r HL.out _ _).mono ?_; rintro e w' ⟨rfl, rfl⟩)
  go_ret
  exact ⟨rfl, rfl⟩
theorem jnI_nat {n : Nat} {L : Rel} {x y : Nat} (hx : x < n) (hy : y < n) : jnI n L x y = jj n L x y := by
  unfold jnI; rw [isL_nat hx, isL_nat hy]; simp
theorem mtI_nat {n : Nat} {L : Rel} {x y : Nat} (hx : x < n) (hy : y < n) : mtI n L x y = mm n L x y := by
  unfold mtI; rw [isL_nat hx, isL_nat hy]; simp
theorem lqI_jj {n : Nat} {L : Rel} (h : Lat n L) {x y : Nat} (hx : x < n) (hy : y < n) : lqI n L x y = ((jj n L x y : Int) == (y : Int)) := by
  have : lqI n L x y = L x y := by unfold lqI; rw [isL_nat hx, isL_nat hy]; simp
  rw [this, h.leq_jj hx hy, Bool.eq_iff_iff]
  simp; omega

set_option maxHeartbeats 2000000 in
set_option maxRecDepth 100000 in
theorem latticeLaws_walk (w : World) (n : Int) (_wn : (Lit.int .i64 n).wf = true) (A : Option Addr) (l c0 : Nat) (ps : List (Int × Int)) (hl : ps.length = l) (hp : Pairs w w.heap.size A ps)
    (a : Int) (_wa : (Lit.int .i64 a).wf = true) (b : Int) (_wb : (Lit.int .i64 b).wf = true) (c : Int) (_wc : (Lit.int .i64 c).wf = true) :
    Calls Try.prog 3 #[.int .i64 n, .slice A l c0, .int .i64 a, .int .i64 b, .int .i64 c] w fun e w' => e = .returned (.bool true) ∧ Below w.heap.size w w' := by
  have CB := Lib.hid (both1_all n A l c0 ps w hl hp)
  have hz := rzero
  clear hl hp
  go_enter Try.func3, Try.ntmps3
  go_wp2_with fail
  refine CB.out.mono ?_
  rintro e w1 ⟨hb, (⟨N, L, rfl⟩ | ⟨_, _, k, g, rfl, rfl, hlat⟩)⟩
  · have hm := Rm.new (w1.alloc (.cells #[.pointer none] 23)) 0 (fun _ _ => false) 27
    rw [World.size_alloc] at hm
    have HM := Lib.hid hm
    have HM2 := Lib.hid (hm.setCells N L)
    have hb0 := hb.size
    have HB2 := Lib.hid (below_setCells ((hb.alloc hb0 (.cells #[.pointer none] 23)).alloc (by simp; omega) (.cells (rv 0 fun _ _ => false) 27)) (b := w1.heap.size + 1) (by omega) (rl N L) 0)
    clear hb CB hm
    go_wp2_with (first | ((with_reducible show wpList _ _ _ _ _ _); refine wl_rstore _ _ rfl ?hw (w1.heap.size + 1) N L rfl rfl ?hm ?_; (case hw => simp [Region.wanted]); (case hm => exact ⟨_, _, HM.out⟩)) | (go_at_call 16; fail))
    generalize World.setCells _ _ _ _ = W at *
    refine (awake1 _).mono ?_
    rintro e w2 ⟨rfl, hb⟩
    have HB3 := Lib.hid (HB2.out.trans (hb.mono HB2.out.size))
    clear hb
    go_wp2_with fail
    refine (awake1 _).mono ?_
    rintro e wz ⟨rfl, hb⟩
    have HBZ := Lib.hid (HB3.out.trans (hb.mono HB3.out.size))
    clear hb
    go_wp2
    go_ret
    exact ⟨rfl, HBZ.out⟩
  · have hm := Rm.new (w1.alloc (.cells #[.pointer (some ⟨g, 0, none⟩)] 23)) 0 (fun _ _ => false) 27
    rw [World.size_alloc] at hm
    have HM := Lib.hid hm
    have HM2 := Lib.hid (hm.setCells k (ordOf k ps))
    have hb0 := hb.size
    have HB2 := Lib.hid (below_setCells ((hb.alloc hb0 (.cells #[.pointer (some ⟨g, 0, none⟩)] 23)).alloc (by simp; omega) (.cells (rv 0 fun _ _ => false) 27)) (b := w1.heap.size + 1) (by omega) (rl k (ordOf k ps)) 0)
    have HL2 := Lib.hid (((hlat.alloc (.cells #[.pointer (some ⟨g, 0, none⟩)] 23)).alloc (.cells (rv 0 fun _ _ => false) 27)).below (below_setCells (Below.refl (w1.heap.size + 1) _) (b := w1.heap.size + 1) (by omega) (rl k (ordOf k ps)) 0) (by have := hlat.lt; omega))
    have hs2 : w1.heap.size + 1 < (((w1.alloc (.cells #[.pointer (some ⟨g, 0, none⟩)] 23)).alloc (.cells (rv 0 fun _ _ => false) 27)).setCells (w1.heap.size + 1) 0 (rl k (ordOf k ps))).heap.size := by rw [size_setCells]; simp
    have hc2 : (((w1.alloc (.cells #[.pointer (some ⟨g, 0, none⟩)] 23)).alloc (.cells (rv 0 fun _ _ => false) 27)).setCells (w1.heap.size + 1) 0 (rl k (ordOf k ps))).cell? ⟨w1.heap.size, 0, none⟩ = some (.pointer (some ⟨g, 0, none⟩)) := by
      have h1 := (below_setCells (Below.refl (w1.heap.size + 1) ((w1.alloc (.cells #[.pointer (some ⟨g, 0, none⟩)] 23)).alloc (.cells (rv 0 fun _ _ => false) 27))) (b := w1.heap.size + 1) (by omega) (rl k (ordOf k ps)) 0).cell (p := ⟨w1.heap.size, 0, none⟩) (by simp)
      rw [h1, World.cell?_alloc_lt _ _ _ (by simp), cell_new]; rfl
    have h8 := hlat.le8
    have HLA := Lib.hid hlat.lat
    clear hb hlat CB hm
    go_wp2_with (first | ((with_reducible show wpList _ _ _ _ _ _); refine wl_rstore _ _ rfl ?hw (w1.heap.size + 1) k (ordOf k ps) rfl rfl ?hm ?_; (case hw => simp [Region.wanted]); (case hm => exact ⟨_, _, HM.out⟩)) | (go_at_call 16; fail))
    clear HM
    generalize World.setCells _ _ _ _ = W at *
    generalize ordOf k ps = L at *
    refine (awake1 _).mono ?_
    rintro e w2 ⟨rfl, hb⟩
    have HB3 := Lib.hid (HB2.out.trans (hb.mono HB2.out.size))
    have HL3 := Lib.hid (HL2.out.here hb)
    have HM3 := Lib.hid (HM2.out.below hb hs2)
    have hs3 : w1.heap.size + 1 < w2.heap.size := Nat.lt_of_lt_of_le hs2 hb.size
    have hc3 := (hb.cell (p := ⟨w1.heap.size, 0, none⟩) (show w1.heap.size < _ by omega)).trans hc2
    clear hb HM2 HL2 hs2 hc2 HB2
    cases ha : isL k a with
    | false =>
      have HA := Lib.hid ha
      clear ha
      go_wp2_with ((with_reducible show wpList _ _ _ _ _ _); refine wl_rload _ rfl ?hw (w1.heap.size + 1) k L rfl ?hm ?_; (case hw => first | exact wanted_none rfl | exact wanted_if rfl rfl rfl rfl); (case hm => exact HM3.out))
      refine (ris_any _ _ _ _).mono ?_
      rintro e w4 ⟨rfl, hb⟩
      rw [HA.out]
      have HB4 := Lib.hid (HB3.out.trans (hb.mono HB3.out.size))
      have HM4 := Lib.hid (HM3.out.below hb hs3)
      have hs4 := Nat.lt_of_lt_of_le hs3 hb.size
      have HL4 := Lib.hid (HL3.out.here hb)
      have hc4 := (hb.cell (p := ⟨w1.heap.size, 0, none⟩) (show w1.heap.size < _ by omega)).trans hc3
      clear hb hc3 hs3 HM3 HL3
      go_wp2_with fail
      refine (awake1 _).mono ?_
      rintro e wz ⟨rfl, hb⟩
      have HBZ := Lib.hid (HB4.out.trans (hb.mono HB4.out.size))
      clear hb
      go_wp2
      go_ret
      exact ⟨rfl, HBZ.out⟩
    | true =>
      have HA := Lib.hid ha
      cases hbb : isL k b with
      | false =>
        have HBB := Lib.hid hbb
        clear ha hbb
        go_wp2_with ((with_reducible show wpList _ _ _ _ _ _); refine wl_rload _ rfl ?hw (w1.heap.size + 1) k L rfl ?hm ?_; (case hw => first | exact wanted_none rfl | exact wanted_if rfl rfl rfl rfl); (case hm => exact HM3.out))
        refine (ris_any _ _ _ _).mono ?_
        rintro e w4 ⟨rfl, hb⟩
        rw [HA.out]
        have HB4 := Lib.hid (HB3.out.trans (hb.mono HB3.out.size))
        have HM4 := Lib.hid (HM3.out.below hb hs3)
        have hs4 := Nat.lt_of_lt_of_le hs3 hb.size
        have HL4 := Lib.hid (HL3.out.here hb)
        have hc4 := (hb.cell (p := ⟨w1.heap.size, 0, none⟩) (show w1.heap.size < _ by omega)).trans hc3
        clear hb hc3 hs3 HM3 HL3
        go_wp2_with ((with_reducible show wpList _ _ _ _ _ _); refine wl_rload _ rfl ?hw (w1.heap.size + 1) k L rfl ?hm ?_; (case hw => first | exact wanted_none rfl | exact wanted_if rfl rfl rfl rfl); (case hm => exact HM4.out))
        refine (ris_any _ _ _ _).mono ?_
        rintro e w5 ⟨rfl, hb⟩
        rw [HBB.out]
        have HB5 := Lib.hid (HB4.out.trans (hb.mono HB4.out.size))
        have HM5 := Lib.hid (HM4.out.below hb hs4)
        have hs5 := Nat.lt_of_lt_of_le hs4 hb.size
        have HL5 := Lib.hid (HL4.out.here hb)
        have hc5 := (hb.cell (p := ⟨w1.heap.size, 0, none⟩) (show w1.heap.size < _ by omega)).trans hc4
        clear hb hc4 hs4 HM4 HL4
        go_wp2_with fail
        refine (awake1 _).mono ?_
        rintro e wz ⟨rfl, hb⟩
        have HBZ := Lib.hid (HB5.out.trans (hb.mono HB5.out.size))
        clear hb
        go_wp2
        go_ret
        exact ⟨rfl, HBZ.out⟩
      | true =>
        have HBB := Lib.hid hbb
        cases hcc : isL k c with
        | false =>
          have HCC := Lib.hid hcc
          clear ha hbb hcc
          go_wp2_with ((with_reducible show wpList _ _ _ _ _ _); refine wl_rload _ rfl ?hw (w1.heap.size + 1) k L rfl ?hm ?_; (case hw => first | exact wanted_none rfl | exact wanted_if rfl rfl rfl rfl); (case hm => exact HM3.out))
          refine (ris_any _ _ _ _).mono ?_
          rintro e w4 ⟨rfl, hb⟩
          rw [HA.out]
          have HB4 := Lib.hid (HB3.out.trans (hb.mono HB3.out.size))
          have HM4 := Lib.hid (HM3.out.below hb hs3)
          have hs4 := Nat.lt_of_lt_of_le hs3 hb.size
          have HL4 := Lib.hid (HL3.out.here hb)
          have hc4 := (hb.cell (p := ⟨w1.heap.size, 0, none⟩) (show w1.heap.size < _ by omega)).trans hc3
          clear hb hc3 hs3 HM3 HL3
          go_wp2_with ((with_reducible show wpList _ _ _ _ _ _); refine wl_rload _ rfl ?hw (w1.heap.size + 1) k L rfl ?hm ?_; (case hw => first | exact wanted_none rfl | exact wanted_if rfl rfl rfl rfl); (case hm => exact HM4.out))
          refine (ris_any _ _ _ _).mono ?_
          rintro e w5 ⟨rfl, hb⟩
          rw [HBB.out]
          have HB5 := Lib.hid (HB4.out.trans (hb.mono HB4.out.size))
          have HM5 := Lib.hid (HM4.out.below hb hs4)
          have hs5 := Nat.lt_of_lt_of_le hs4 hb.size
          have HL5 := Lib.hid (HL4.out.here hb)
          have hc5 := (hb.cell (p := ⟨w1.heap.size, 0, none⟩) (show w1.heap.size < _ by omega)).trans hc4
          clear hb hc4 hs4 HM4 HL4
          go_wp2_with ((with_reducible show wpList _ _ _ _ _ _); refine wl_rload _ rfl ?hw (w1.heap.size + 1) k L rfl ?hm ?_; (case hw => first | exact wanted_none rfl | exact wanted_if rfl rfl rfl rfl); (case hm => exact HM5.out))
          refine (ris_any _ _ _ _).mono ?_
          rintro e w6 ⟨rfl, hb⟩
          rw [HCC.out]
          have HB6 := Lib.hid (HB5.out.trans (hb.mono HB5.out.size))
          have HM6 := Lib.hid (HM5.out.below hb hs5)
          have hs6 := Nat.lt_of_lt_of_le hs5 hb.size
          have HL6 := Lib.hid (HL5.out.here hb)
          have hc6 := (hb.cell (p := ⟨w1.heap.size, 0, none⟩) (show w1.heap.size < _ by omega)).trans hc5
          clear hb hc5 hs5 HM5 HL5
          go_wp2_with fail
          refine (awake1 _).mono ?_
          rintro e wz ⟨rfl, hb⟩
          have HBZ := Lib.hid (HB6.out.trans (hb.mono HB6.out.size))
          clear hb
          go_wp2
          go_ret
          exact ⟨rfl, HBZ.out⟩
        | true =>
          have HCC := Lib.hid hcc
          obtain ⟨x, rfl, hx⟩ := isL_true ha
          obtain ⟨y, rfl, hy⟩ := isL_true hbb
          obtain ⟨z, rfl, hzz⟩ := isL_true hcc
          clear ha hbb hcc
          go_wp2_with ((with_reducible show wpList _ _ _ _ _ _); refine wl_rload _ rfl ?hw (w1.heap.size + 1) k L rfl ?hm ?_; (case hw => first | exact wanted_none rfl | exact wanted_if rfl rfl rfl rfl); (case hm => exact HM3.out))
          refine (ris_any _ _ _ _).mono ?_
          rintro e w4 ⟨rfl, hb⟩
          rw [HA.out]
          have HB4 := Lib.hid (HB3.out.trans (hb.mono HB3.out.size))
          have HM4 := Lib.hid (HM3.out.below hb hs3)
          have hs4 := Nat.lt_of_lt_of_le hs3 hb.size
          have HL4 := Lib.hid (HL3.out.here hb)
          have hc4 := (hb.cell (p := ⟨w1.heap.size, 0, none⟩) (show w1.heap.size < _ by omega)).trans hc3
          clear hb hc3 hs3 HM3 HL3
          go_wp2_with ((with_reducible show wpList _ _ _ _ _ _); refine wl_rload _ rfl ?hw (w1.heap.size + 1) k L rfl ?hm ?_; (case hw => first | exact wanted_none rfl | exact wanted_if rfl rfl rfl rfl); (case hm => exact HM4.out))
          refine (ris_any _ _ _ _).mono ?_
          rintro e w5 ⟨rfl, hb⟩
          rw [HBB.out]
          have HB5 := Lib.hid (HB4.out.trans (hb.mono HB4.out.size))
          have HM5 := Lib.hid (HM4.out.below hb hs4)
          have hs5 := Nat.lt_of_lt_of_le hs4 hb.size
          have HL5 := Lib.hid (HL4.out.here hb)
          have hc5 := (hb.cell (p := ⟨w1.heap.size, 0, none⟩) (show w1.heap.size < _ by omega)).trans hc4
          clear hb hc4 hs4 HM4 HL4
          go_wp2_with ((with_reducible show wpList _ _ _ _ _ _); refine wl_rload _ rfl ?hw (w1.heap.size + 1) k L rfl ?hm ?_; (case hw => first | exact wanted_none rfl | exact wanted_if rfl rfl rfl rfl); (case hm => exact HM5.out))
          refine (ris_any _ _ _ _).mono ?_
          rintro e w6 ⟨rfl, hb⟩
          rw [HCC.out]
          have HB6 := Lib.hid (HB5.out.trans (hb.mono HB5.out.size))
          have HM6 := Lib.hid (HM5.out.below hb hs5)
          have hs6 := Nat.lt_of_lt_of_le hs5 hb.size
          have HL6 := Lib.hid (HL5.out.here hb)
          have hc6 := (hb.cell (p := ⟨w1.heap.size, 0, none⟩) (show w1.heap.size < _ by omega)).trans hc5
          clear hb hc5 hs5 HM5 HL5
          have p1 := HLA.out.jj_lt hx hy
          have p2 := HLA.out.jj_lt hy hzz
          have p3 := HLA.out.mm_lt hx hy
          have p4 := HLA.out.mm_lt hy hzz
          have e1 := jnI_nat (L := L) hx hy
          have e2 : jnI k L y x = jj k L x y := by rw [jnI_nat hy hx, jj_comm]
          have e3 := mtI_nat (L := L) hx hy
          have e4 : mtI k L y x = mm k L x y := by rw [mtI_nat hy hx, mm_comm]
          have e5 := jnI_nat (L := L) hy hzz
          have e6 : jnI k L x (jj k L y z : Nat) = jj k L (jj k L x y) z := by rw [jnI_nat hx p2, HLA.out.jj_assoc hx hy hzz]
          have e7 := jnI_nat (L := L) p1 hzz
          have e8 := mtI_nat (L := L) hy hzz
          have e9 : mtI k L x (mm k L y z : Nat) = mm k L (mm k L x y) z := by rw [mtI_nat hx p4, HLA.out.mm_assoc hx hy hzz]
          have e10 := mtI_nat (L := L) p3 hzz
          have e11 : jnI k L x x = x := by rw [jnI_nat hx hx, HLA.out.jj_self hx]
          have e12 : mtI k L x x = x := by rw [mtI_nat hx hx, HLA.out.mm_self hx]
          have e13 : jnI k L x (mm k L x y : Nat) = x := by rw [jnI_nat hx p3, HLA.out.jj_absorb hx hy]
          have e14 : mtI k L x (jj k L x y : Nat) = x := by rw [mtI_nat hx p1, HLA.out.mm_absorb hx hy]
          have e15 := lqI_jj HLA.out hx hy
          generalize jj k L (jj k L x y) z = t1 at *
          generalize mm k L (mm k L x y) z = t2 at *
          generalize jj k L x y = t3 at *
          generalize mm k L x y = t4 at *
          generalize jj k L y z = t5 at *
          generalize mm k L y z = t6 at *
          clear p1 p2 p3 p4 hx hy hzz
          go_wp2_with (first | (go_at_call 18; refine (join_cl HL6.out _ _ hc6).mono ?_; rintro e w' ⟨rfl, rfl⟩) | (go_at_call 20; refine (meet_cl HL6.out _ _ hc6).mono ?_; rintro e w' ⟨rfl, rfl⟩) | (go_at_call 22; refine (leq_r HL6.out _ _).mono ?_; rintro e w' ⟨rfl, rfl⟩))
          go_ret
          exact ⟨rfl, HB6.out⟩

set_option maxRecDepth 100000 in
/-- the row's step, argument by argument -/
theorem latticeLaws_lifted (os : Os) (started : os.Started) (H : Type) (enc : TypeId × Value → H) :
    ReturnsInHanded {} Try.checked os 3 .any (Rows.latticeLawsSpec.pre6 enc Try.prog Try.f3 Rows.latticeLawsRow.domain false) (Rows.latticeLawsSpec.post enc Try.prog Try.f3 false true false false) := by
  refine returnsInHanded_of_change (C := Try.checked) own started (by kernel_rfl) Try.func3
    (ChangeSpec.witness6 (enc := enc) (C := Try.checked) false ⟨#[], #[.int .i64 0, .slice none 0 0, .int .i64 0, .int .i64 0, .int .i64 0], []⟩ 8 (by kernel_rfl) (by kernel_rfl) (by kernel_rfl) (by kernel_rfl)) ?_
  intro W base args ds gs before hval0 hW hcnd _
  have hval : ∀ (j : Nat) t v, Try.f3.params[j]? = some t → args[j]? = some v → Value.okWide Try.prog W .any base t v := hval0
  have hW' := hW
  obtain ⟨p, q, hA0, hV, rfl, hfz, hnd⟩ := hW
  have hA : DataW.TrodAll enc Try.prog W 0 (fun _ => true) true Try.f3.params.toList args.toList ds p := hA0
  rw [Try.params3] at hA hval
  obtain ⟨v0, vs0, d0, ds0, p0, q0, hargs, rfl, rfl, h0, r0⟩ := trodAll_cons hA
  obtain ⟨v1, vs1, d1, ds1, p1, q1, rfl, rfl, rfl, h1, r1⟩ := trodAll_cons r0
  obtain ⟨v2, vs2, d2, ds2, p2, q2, rfl, rfl, rfl, h2, r2⟩ := trodAll_cons r1
  obtain ⟨v3, vs3, d3, ds3, p3, q3, rfl, rfl, rfl, h3, r3⟩ := trodAll_cons r2
  obtain ⟨v4, vs4, d4, ds4, p4, q4, rfl, rfl, rfl, h4, r4⟩ := trodAll_cons r3
  obtain ⟨rfl, rfl, rfl⟩ := trodAll_nil r4
  obtain rfl : args = #[v0, v1, v2, v3, v4] := by cases args; simp_all
  obtain ⟨rfl, rfl⟩ := trodVars_none hV
  obtain ⟨a0, rfl, rfl, rfl, w0⟩ := open_int Try.underlying3 (hval 0 3 v0 rfl rfl) h0
  obtain ⟨a1, len1, cap1, rfl⟩ := okWide_slice Try.underlying22 (hval 1 22 v1 rfl rfl)
  have k1 := h1
  have lt1 := lt_of_trod k1
  obtain ⟨z1, l1, w1⟩ := open_pairs h1
  obtain ⟨a2, rfl, rfl, rfl, w2⟩ := open_int Try.underlying3 (hval 2 3 v2 rfl rfl) h2
  obtain ⟨a3, rfl, rfl, rfl, w3⟩ := open_int Try.underlying3 (hval 3 3 v3 rfl rfl) h3
  obtain ⟨a4, rfl, rfl, rfl, w4⟩ := open_int Try.underlying3 (hval 4 3 v4 rfl rfl) h4
  clear hA0 hval0
  refine (latticeLaws_walk W a0 w0 a1 len1 cap1 z1 l1 w1 a2 w2 a3 w3 a4 w4).mono fun e W' ⟨he, bel⟩ => ?_
  subst he
  exact ⟨_, rfl, _, _, _, [], _, [], hW', trodAll_mk1 (shut_bool Try.underlying4 _), (trodAll_cons_mk (shut_int Try.underlying3 w0) (trodAll_cons_mk (Below.trod laidOut (by kernel_rfl) (of_decide_eq_true (by kernel_rfl)) k1 bel lt1) (trodAll_cons_mk (shut_int Try.underlying3 w2) (trodAll_cons_mk (shut_int Try.underlying3 w3) (trodAll_cons_mk (shut_int Try.underlying3 w4) trodAll_mk0))))), rfl, bel.frame _, fun h => by cases h⟩

theorem latticeLaws_proved : Rows.LatticeLawsSaid :=
  OpenClaim.holds_of_wide 3 Try.f3 rfl rfl rfl rfl rfl rfl rfl ⟨rfl, rfl, rfl, rfl, rfl⟩ rfl rfl rfl rfl rfl (by kernel_rfl) Try.func3 (by kernel_rfl)
    (of_decide_eq_true (by kernel_rfl)) (by unfold Func.isWrapper; first | (rw [if_pos (by decide +kernel)]; kernel_rfl) | (rw [if_neg (by decide +kernel)]; exact ⟨rfl, rfl⟩))
    (fun os started H enc _ => latticeLaws_lifted os started H enc)
#print axioms latticeLaws_proved

end Go.Proofs.Ytpikafadfailkaa
