/- THE STATEMENT LatticeMakes is proved: for every number, every list of pairs and every two labels the Go function LatticeMakes returns true, and its arguments read afterwards as before; without conditions. -/
import Derived.Test.YtpikafadfailkaaBoth1b
import Derived.Test.YtpikafadfailkaaQuiet
import Derived.Maps.RangeWalk
namespace Go.Proofs.Ytpikafadfailkaa
open Go.ChangeShapes Go.WideShapes Go.ChangeAt Go.RowKit P
set_option linter.unusedVariables false

theorem lqI_nat' {n : Nat} {L : Rel} {x y : Nat} (hx : x < n) (hy : y < n) : lqI n L x y = L x y := by
  unfold lqI; rw [isL_nat hx, isL_nat hy]; simp
theorem jnI_nat' {n : Nat} {L : Rel} {x y : Nat} (hx : x < n) (hy : y < n) : jnI n L x y = jj n L x y := by
  unfold jnI; rw [isL_nat hx, isL_nat hy]; simp
theorem mtI_nat' {n : Nat} {L : Rel} {x y : Nat} (hx : x < n) (hy : y < n) : mtI n L x y = mm n L x y := by
  unfold mtI; rw [isL_nat hx, isL_nat hy]; simp

/-- append of a slice of pairs onto an empty one: Make's argument -/
theorem pairs_src_at {w w1 : World} {A : Option Addr} {l : Nat} {ps : List (Int × Int)} (hl : ps.length = l) (hp : Pairs w w.heap.size A ps) (hb : Below w.heap.size w w1) :
    0 < l → ∃ ad, A = some ad ∧ ∀ (j : Nat) u, (pcells ps)[j]? = some u → w1.cell? (ad.add j) = some u := by
  intro h0
  exact (hp.below hb).src (by omega)

set_option maxHeartbeats 2000000 in
set_option maxRecDepth 100000 in
theorem latticeMakes_walk (w : World) (n : Int) (_wn : (Lit.int .i64 n).wf = true) (A : Option Addr) (l c : Nat) (ps : List (Int × Int)) (hl : ps.length = l) (hp : Pairs w w.heap.size A ps)
    (a : Int) (_wa : (Lit.int .i64 a).wf = true) (b : Int) (_wb : (Lit.int .i64 b).wf = true) :
    Calls Try.prog 6 #[.int .i64 n, .slice A l c, .int .i64 a, .int .i64 b] w fun e w' => e = .returned (.bool true) ∧ Below w.heap.size w w' := by
  have HP := Lib.hid hp
  have HL := Lib.hid hl
  have hl2 := hp.1
  rw [hl] at hl2
  clear hl hp
  by_cases h2 : 200 < l
  · have t1 : decide ((200 : Int) < l) = true := by simp; omega
    go_enter Try.func6, Try.ntmps6
    go_wp2_with fail
    refine (awake1 _).mono ?_
    rintro e w2 ⟨rfl, hb⟩
    have HB2 := Lib.hid hb
    clear hb
    go_wp2_with fail
    refine (awake1 _).mono ?_
    rintro e wz ⟨rfl, hb⟩
    have HBZ := Lib.hid (HB2.out.trans (hb.mono HB2.out.size))
    clear hb
    go_wp2
    go_ret
    exact ⟨rfl, HBZ.out⟩
  · have t1 : decide ((200 : Int) < l) = false := by simp; omega
    have hz := rzero
    obtain ⟨i0, hi, hz0, hz1, hz2⟩ := info_parts info_pair
    have HI := Lib.hid hi
    have HZ0 := Lib.hid hz0
    have HZ1 := Lib.hid hz1
    have HZ2 := Lib.hid hz2
    clear hi hz0 hz1 hz2
    go_enter Try.func6, Try.ntmps6
    go_wp2_with fail
    refine (awake1 _).mono ?_
    rintro e w2 ⟨rfl, hb⟩
    have HB2 := Lib.hid hb
    have hs2 := hb.size
    have HW1 := Lib.hid (ownsRow_empty w2 39 2 w.heap.size hs2)
    have HB3 := Lib.hid (hb.alloc hs2 (.cells #[] 39))
    have HSRC := Lib.hid (pairs_src_at HL.out HP.out HB3.out)
    clear hb
    go_wp2_with (at_builtin; refine wl_append rfl _ _ 22 rfl w.heap.size 39 i0 (.agg #[.int .i64 0, .int .i64 0]) 2 16 Try.underlying22 HI.out HZ0.out HZ1.out HZ2.out rfl (by decide) _ 0 [] rfl HW1.out A l c (pcells ps) rfl ?c1 HSRC.out (pcells_one ps) ?c3 ?c4 ?c5 ?_)
    case c1 => rw [pcells_len, HL.out]
    case c3 => unfold maxLen; omega
    case c4 => omega
    case c5 => simp; omega
    intro v' w3 hown hg
    have hb3 : Below w.heap.size w w3 := HB3.out.grown hg (by simp; omega) (fun j hj => (HW1.out.lt j hj).1)
    obtain ⟨A', c', rfl, hps⟩ := Pairs.of_own (ps := ps) HL.out hown HP.out.ok (by rw [HL.out]; omega)
    have HB4 := Lib.hid hb3
    have hs3 := hb3.size
    clear hown hg hb3
    by_cases h0 : makeE n ps = 0
    · obtain ⟨k, rfl⟩ : ∃ k : Nat, n = k := by
        rcases makeE_cases n ps with ⟨_, h⟩ | ⟨k, rfl, _⟩
        · rw [h] at h0; cases h0
        · exact ⟨k, rfl⟩
      have CM := Lib.hid (make_ok k A' l c' ps w3 HL.out hps h0)
      have H0 := Lib.hid h0
      clear hps h0
      go_wp2_with fail
      refine CM.out.mono ?_
      rintro e w4 ⟨rfl, hlat, hb⟩
      have HB5 := Lib.hid (HB4.out.trans (hb.mono hs3))
      have CR0 := rmake_any k A l c ps w4 HL.out ((HP.out.below HB5.out).more HB5.out.size)
      unfold RMakePost at CR0
      rw [H0.out, show rmkN k ps = k by unfold rmkN; rw [H0.out]; simp, show rmkL k ps = ordOf k ps by unfold rmkL; rw [H0.out]; simp] at CR0
      have CR := Lib.hid CR0
      clear CR0
      have HL5 := Lib.hid hlat
      have hs4 := HB5.out.size
      clear hlat hb
      go_wp2_with fail
      refine CR.out.mono ?_
      rintro e w5 ⟨rfl, hb⟩
      have HB6 := Lib.hid (HB5.out.trans (hb.mono hs4))
      have HL6 := Lib.hid (HL5.out.here hb)
      have HM := Lib.hid (Rm.new w5 0 (fun _ _ => false) 27)
      have HM2 := Lib.hid (HM.out.setCells k (ordOf k ps))
      have hs5 := HB6.out.size
      have HB7 := Lib.hid (below_setCells (HB6.out.alloc hs5 (.cells (rv 0 fun _ _ => false) 27)) (b := w5.heap.size) hs5 (rl k (ordOf k ps)) 0)
      have HL7 := Lib.hid ((HL6.out.alloc (.cells (rv 0 fun _ _ => false) 27)).below (below_setCells (Below.refl w5.heap.size _) (Nat.le_refl _) (rl k (ordOf k ps)) 0) HL6.out.lt)
      have hs7 : w5.heap.size < ((w5.alloc (.cells (rv 0 fun _ _ => false) 27)).setCells w5.heap.size 0 (rl k (ordOf k ps))).heap.size := by rw [size_setCells]; simp
      have h8 := HL7.out.le8
      have HLA := Lib.hid HL7.out.lat
      clear hb
      go_upto_region 9 with ((with_reducible show wpList _ _ _ _ _ _); refine wl_rstore _ _ rfl ?hw w5.heap.size k (ordOf k ps) rfl rfl ?hm ?_; (case hw => simp [Region.wanted]); (case hm => exact ⟨_, _, HM.out⟩))
      clear HM
      generalize World.setCells _ _ _ _ = W at *
      generalize ordOf k ps = L at *
      clear HL5 HL6 HB6 HB5 HB4 HB3 HB2 HSRC HW1 CM CR
      have HM7 := HM2
      clear HM2
      cases ha : isL k a with
      | false =>
        have HA := Lib.hid ha
        have q1 : jnI k L a b = 0 := by unfold jnI; rw [ha]; rfl
        have q2 : mtI k L a b = 0 := by unfold mtI; rw [ha]; rfl
        have q3 : tabE k a b = 3 := by unfold tabE; rw [ha]; rfl
        have q4 : lqI k L a b = false := by unfold lqI; rw [ha]; rfl
        clear ha
        go_wp2_with (first | ((with_reducible show wpList _ _ _ _ _ _); refine wl_rload _ rfl ?hw w5.heap.size k L rfl ?hm ?_; (case hw => first | exact wanted_none rfl | exact wanted_if rfl rfl rfl rfl); (case hm => exact HM7.out)) | (go_at_call 19; refine (join_r HL7.out _ _).mono ?_; rintro e w' ⟨rfl, rfl⟩) | (go_at_call 21; refine (meet_r HL7.out _ _).mono ?_; rintro e w' ⟨rfl, rfl⟩))
        refine (ris_any _ _ _ _).mono ?_
        rintro e w8 ⟨rfl, hb⟩
        rw [HA.out]
        have HB8 := Lib.hid (HB7.out.trans (hb.mono HB7.out.size))
        have HM8 := Lib.hid (HM7.out.below hb hs7)
        have hs8 := Nat.lt_of_lt_of_le hs7 hb.size
        have HL8 := Lib.hid (HL7.out.here hb)
        clear hb
        go_wp2_with (go_at_call 22; refine (leq_r HL8.out _ _).mono ?_; rintro e w' ⟨rfl, rfl⟩)
        go_ret
        exact ⟨rfl, HB8.out⟩
      | true =>
        have HA := Lib.hid ha
        cases hbb : isL k b with
        | false =>
          have HBB := Lib.hid hbb
          have q1 : jnI k L a b = 0 := by unfold jnI; rw [ha, hbb]; rfl
          have q2 : mtI k L a b = 0 := by unfold mtI; rw [ha, hbb]; rfl
          have q3 : tabE k a b = 3 := by unfold tabE; rw [ha, hbb]; rfl
          have q4 : lqI k L a b = false := by unfold lqI; rw [ha, hbb]; rfl
          clear ha hbb
          go_wp2_with (first | ((with_reducible show wpList _ _ _ _ _ _); refine wl_rload _ rfl ?hw w5.heap.size k L rfl ?hm ?_; (case hw => first | exact wanted_none rfl | exact wanted_if rfl rfl rfl rfl); (case hm => exact HM7.out)) | (go_at_call 19; refine (join_r HL7.out _ _).mono ?_; rintro e w' ⟨rfl, rfl⟩) | (go_at_call 21; refine (meet_r HL7.out _ _).mono ?_; rintro e w' ⟨rfl, rfl⟩))
          refine (ris_any _ _ _ _).mono ?_
          rintro e w8 ⟨rfl, hb⟩
          rw [HA.out]
          have HB8 := Lib.hid (HB7.out.trans (hb.mono HB7.out.size))
          have HM8 := Lib.hid (HM7.out.below hb hs7)
          have hs8 := Nat.lt_of_lt_of_le hs7 hb.size
          have HL8 := Lib.hid (HL7.out.here hb)
          clear hb
          go_wp2_with (first | ((with_reducible show wpList _ _ _ _ _ _); refine wl_rload _ rfl ?hw w5.heap.size k L rfl ?hm ?_; (case hw => first | exact wanted_none rfl | exact wanted_if rfl rfl rfl rfl); (case hm => exact HM8.out)))
          refine (ris_any _ _ _ _).mono ?_
          rintro e w9 ⟨rfl, hb⟩
          rw [HBB.out]
          have HB9 := Lib.hid (HB8.out.trans (hb.mono HB8.out.size))
          have HM9 := Lib.hid (HM8.out.below hb hs8)
          have hs9 := Nat.lt_of_lt_of_le hs8 hb.size
          have HL9 := Lib.hid (HL8.out.here hb)
          clear hb
          go_wp2_with (go_at_call 22; refine (leq_r HL9.out _ _).mono ?_; rintro e w' ⟨rfl, rfl⟩)
          go_ret
          exact ⟨rfl, HB9.out⟩
        | true =>
          have HBB := Lib.hid hbb
          have q3 : tabE k a b = 0 := by unfold tabE; rw [ha, hbb]; rfl
          obtain ⟨x, rfl, hx⟩ := isL_true ha
          obtain ⟨y, rfl, hy⟩ := isL_true hbb
          have q1 := jnI_nat' (L := L) hx hy
          have q2 := mtI_nat' (L := L) hx hy
          clear ha hbb
          go_wp2_with (first | ((with_reducible show wpList _ _ _ _ _ _); refine wl_rload _ rfl ?hw w5.heap.size k L rfl ?hm ?_; (case hw => first | exact wanted_none rfl | exact wanted_if rfl rfl rfl rfl); (case hm => exact HM7.out)) | (go_at_call 19; refine (join_r HL7.out _ _).mono ?_; rintro e w' ⟨rfl, rfl⟩) | (go_at_call 21; refine (meet_r HL7.out _ _).mono ?_; rintro e w' ⟨rfl, rfl⟩))
          refine (ris_any _ _ _ _).mono ?_
          rintro e w8 ⟨rfl, hb⟩
          rw [HA.out]
          have HB8 := Lib.hid (HB7.out.trans (hb.mono HB7.out.size))
          have HM8 := Lib.hid (HM7.out.below hb hs7)
          have hs8 := Nat.lt_of_lt_of_le hs7 hb.size
          have HL8 := Lib.hid (HL7.out.here hb)
          clear hb
          go_wp2_with (first | ((with_reducible show wpList _ _ _ _ _ _); refine wl_rload _ rfl ?hw w5.heap.size k L rfl ?hm ?_; (case hw => first | exact wanted_none rfl | exact wanted_if rfl rfl rfl rfl); (case hm => exact HM8.out)))
          refine (ris_any _ _ _ _).mono ?_
          rintro e w9 ⟨rfl, hb⟩
          rw [HBB.out]
          have HB9 := Lib.hid (HB8.out.trans (hb.mono HB8.out.size))
          have HM9 := Lib.hid (HM8.out.below hb hs8)
          have hs9 := Nat.lt_of_lt_of_le hs8 hb.size
          have HL9 := Lib.hid (HL8.out.here hb)
          clear hb
          have q4 := (HLA.out.jj_spec hx hy).1
          have q5 := (HLA.out.mm_spec hx hy).1
          have C1 := Lib.hid (fun u => rjoin_any k L x y u h8 (by omega) (by omega))
          have C2 := Lib.hid (fun u => rmeet_any k L x y u h8 (by omega) (by omega))
          have C3 := Lib.hid (fun u => rleq_any k L x y u h8)
          have C4 := Lib.hid (fun u => rbottom_any k L u h8 HLA.out)
          have C5 := Lib.hid (fun u => rtop_any k L u h8 HLA.out)
          rw [q4] at C1
          rw [q5] at C2
          clear q4 q5 HM8 HL8 HB8
          go_wp2_with fail
          refine wp_region_wb (by kernel_rfl) (by kernel_rfl) ?_
          repeat
            first
            | (go_big_quiet_want; refine quiet_rload _ _ rfl rfl w5.heap.size k L rfl ?hm ?_; (case hm => (rintro u ⟨z, rfl⟩; exact HM9.out.wb hs9 z)); go_frame; go_big_quiet_on)
            | go_big_quiet_step ((first | (go_at_call 27; exact q_wb (C1.out _)) | (go_at_call 28; exact q_wb (C2.out _)) | (go_at_call 29; exact q_wb (C3.out _)) | (go_at_call 31; exact q_wb (C4.out _)) | (go_at_call 32; exact q_wb (C5.out _)) | (go_at_call 22; exact q_wb_same (leq_r (HL9.out.wb _) _ _)) | (go_at_call 30; exact q_wb_same (size_r (HL9.out.wb _))) | (go_at_call 23; exact q_wb_drew (bottom_r (HL9.out.wb _))) | (go_at_call 24; exact q_wb_drew (top_r (HL9.out.wb _)))))
          refine wpQuiet_nil ?_
          rintro u ⟨z, rfl⟩
          have HBZ := Lib.hid (HB9.out.trans (z.h.mono HB9.out.size))
          go_wp2
          go_ret
          exact ⟨rfl, HBZ.out⟩
    · have CM := Lib.hid (make_no n A' l c' ps (makeE n ps) w3 HL.out hps rfl h0)
      have H0 := Lib.hid h0
      clear hps h0
      go_wp2_with fail
      refine CM.out.mono ?_
      rintro e w4 ⟨rfl, hb⟩
      have HB5 := Lib.hid (HB4.out.trans (hb.mono hs3))
      have CR := Lib.hid (rmake_any n A l c ps w4 HL.out ((HP.out.below HB5.out).more HB5.out.size))
      have hs4 := HB5.out.size
      clear hb
      go_wp2_with fail
      refine CR.out.mono ?_
      rintro e w5 ⟨rfl, hb⟩
      have HB6 := Lib.hid (HB5.out.trans (hb.mono hs4))
      have HM := Lib.hid (Rm.new w5 0 (fun _ _ => false) 27)
      have hs5 := HB6.out.size
      have HB7 := Lib.hid (below_setCells (HB6.out.alloc hs5 (.cells (rv 0 fun _ _ => false) 27)) (b := w5.heap.size) hs5 (rl (rmkN n ps) (rmkL n ps)) 0)
      have hne : (makeE n ps != 0) = true := by simpa using H0.out
      clear hb
      go_wp2_with ((with_reducible show wpList _ _ _ _ _ _); refine wl_rstore _ _ rfl ?hw w5.heap.size (rmkN n ps) (rmkL n ps) rfl rfl ?hm ?_; (case hw => simp [Region.wanted]); (case hm => exact ⟨_, _, HM.out⟩))
      go_ret
      exact ⟨rfl, HB7.out⟩

set_option maxRecDepth 100000 in
/-- the row's step, argument by argument -/
theorem latticeMakes_lifted (os : Os) (started : os.Started) (H : Type) (enc : TypeId × Value → H) :
    ReturnsInHanded {} Try.checked os 6 .any (Rows.latticeMakesSpec.pre6 enc Try.prog Try.f6 Rows.latticeMakesRow.domain false) (Rows.latticeMakesSpec.post enc Try.prog Try.f6 false true false false) := by
  refine returnsInHanded_of_change (C := Try.checked) own started (by kernel_rfl) Try.func6
    (ChangeSpec.witness6 (enc := enc) (C := Try.checked) false ⟨#[], #[.int .i64 0, .slice none 0 0, .int .i64 0, .int .i64 0], []⟩ 8 (by kernel_rfl) (by kernel_rfl) (by kernel_rfl) (by kernel_rfl)) ?_
  intro W base args ds gs before hval0 hW hcnd _
  have hval : ∀ (j : Nat) t v, Try.f6.params[j]? = some t → args[j]? = some v → Value.okWide Try.prog W .any base t v := hval0
  have hW' := hW
  obtain ⟨p, q, hA0, hV, rfl, hfz, hnd⟩ := hW
  have hA : DataW.TrodAll enc Try.prog W 0 (fun _ => true) true Try.f6.params.toList args.toList ds p := hA0
  rw [Try.params6] at hA hval
  obtain ⟨v0, vs0, d0, ds0, p0, q0, hargs, rfl, rfl, h0, r0⟩ := trodAll_cons hA
  obtain ⟨v1, vs1, d1, ds1, p1, q1, rfl, rfl, rfl, h1, r1⟩ := trodAll_cons r0
  obtain ⟨v2, vs2, d2, ds2, p2, q2, rfl, rfl, rfl, h2, r2⟩ := trodAll_cons r1
  obtain ⟨v3, vs3, d3, ds3, p3, q3, rfl, rfl, rfl, h3, r3⟩ := trodAll_cons r2
  obtain ⟨rfl, rfl, rfl⟩ := trodAll_nil r3
  obtain rfl : args = #[v0, v1, v2, v3] := by cases args; simp_all
  obtain ⟨rfl, rfl⟩ := trodVars_none hV
  obtain ⟨a0, rfl, rfl, rfl, w0⟩ := open_int Try.underlying3 (hval 0 3 v0 rfl rfl) h0
  obtain ⟨a1, len1, cap1, rfl⟩ := okWide_slice Try.underlying22 (hval 1 22 v1 rfl rfl)
  have k1 := h1
  have lt1 := lt_of_trod k1
  obtain ⟨z1, l1, w1⟩ := open_pairs h1
  obtain ⟨a2, rfl, rfl, rfl, w2⟩ := open_int Try.underlying3 (hval 2 3 v2 rfl rfl) h2
  obtain ⟨a3, rfl, rfl, rfl, w3⟩ := open_int Try.underlying3 (hval 3 3 v3 rfl rfl) h3
  clear hA0 hval0
  refine (latticeMakes_walk W a0 w0 a1 len1 cap1 z1 l1 w1 a2 w2 a3 w3).mono fun e W' ⟨he, bel⟩ => ?_
  subst he
  exact ⟨_, rfl, _, _, _, [], _, [], hW', trodAll_mk1 (shut_bool Try.underlying4 _), (trodAll_cons_mk (shut_int Try.underlying3 w0) (trodAll_cons_mk (Below.trod laidOut (by kernel_rfl) (of_decide_eq_true (by kernel_rfl)) k1 bel lt1) (trodAll_cons_mk (shut_int Try.underlying3 w2) (trodAll_cons_mk (shut_int Try.underlying3 w3) trodAll_mk0)))), rfl, bel.frame _, fun h => by cases h⟩

theorem latticeMakes_proved : Rows.LatticeMakesSaid :=
  OpenClaim.holds_of_wide 6 Try.f6 rfl rfl rfl rfl rfl rfl rfl ⟨rfl, rfl, rfl, rfl, rfl⟩ rfl rfl rfl rfl rfl (by kernel_rfl) Try.func6 (by kernel_rfl)
    (of_decide_eq_true (by kernel_rfl)) (by unfold Func.isWrapper; first | (rw [if_pos (by decide +kernel)]; kernel_rfl) | (rw [if_neg (by decide +kernel)]; exact ⟨rfl, rfl⟩))
    (fun os started H enc _ => latticeMakes_lifted os started H enc)
#print axioms latticeMakes_proved

end Go.Proofs.Ytpikafadfailkaa
