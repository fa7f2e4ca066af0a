/- THE STATEMENT LabelRaises is proved: for every number, every two lists of pairs and every list of labels the Go function LabelRaises returns true, and its arguments read afterwards as before; without conditions. -/
import Derived.Test.YtpikafadfailkaaFrame
import Derived.Test.YtpikafadfailkaaAwake2
import Derived.Test.YtpikafadfailkaaBoth2
import Derived.Test.YtpikafadfailkaaLabelPlain
import Derived.Test.YtpikafadfailkaaLabel7
import Derived.Test.YtpikafadfailkaaLabelKit
namespace Go.Proofs.Ytpikafadfailkaa
open Go.ChangeShapes Go.WideShapes Go.ChangeAt Go.RowKit P
set_option linter.unusedVariables false

set_option maxHeartbeats 2000000 in
set_option maxRecDepth 100000 in
theorem labelRaises_walk (w : World) (n : Int) (_wn : (Lit.int .i64 n).wf = true) (A : Option Addr) (l c : Nat) (ps : List (Int × Int)) (hl : ps.length = l) (hp : Pairs w w.heap.size A ps)
    (A2 : Option Addr) (l2 c2 : Nat) (es : List (Int × Int)) (hl2 : es.length = l2) (hp2 : Pairs w w.heap.size A2 es) (v : Value) (ls : List Int) (hi : IntsAt w w.heap.size v ls) :
    Calls Try.prog 10 #[.int .i64 n, .slice A l c, .slice A2 l2 c2, v] w fun e w' => e = .returned (.bool true) ∧ Below w.heap.size w w' := by
  subst hl2
  have CB := Lib.hid (both2_all n A l c ps w hl hp)
  have HI := Lib.hid hi
  have HE := Lib.hid hp2
  obtain ⟨hlen, LA, lc, rfl, _⟩ := hi
  have hz := rzero
  clear hl hp hp2
  go_enter Try.func10, Try.ntmps10
  go_wp2_with fail
  refine CB.out.mono ?_
  rintro e w1 ⟨hb, (⟨N, L, rfl⟩ | ⟨_, _, k, b, rfl, rfl, hlat⟩)⟩
  · have HB1 := Lib.hid hb
    have HM := Lib.hid (Rm.new w1 0 (fun _ _ => false) 27)
    have HB2 := Lib.hid (below_setCells (hb.alloc hb.size (.cells (rv 0 fun _ _ => false) 27)) (b := w1.heap.size) hb.size (rl N L) 0)
    clear hb CB
    go_wp2_with (first | ((with_reducible show wpList _ _ _ _ _ _); refine wl_rstore _ _ rfl ?hw w1.heap.size N L rfl rfl ?hm ?_; (case hw => simp [Region.wanted]); (case hm => exact ⟨_, _, HM.out⟩)) | (go_at_call 38; fail))
    generalize World.setCells _ _ _ _ = W at *
    refine (awake2 _).mono ?_
    rintro e w2 ⟨rfl, hb⟩
    have HB3 := Lib.hid (HB2.out.trans (hb.mono HB2.out.size))
    clear hb
    go_wp2_with fail
    refine (awake2 _).mono ?_
    rintro e w3 ⟨rfl, hb⟩
    have HB4 := Lib.hid (HB3.out.trans (hb.mono HB3.out.size))
    clear hb
    go_wp2
    go_ret
    exact ⟨rfl, HB4.out⟩
  · have HL1 := Lib.hid hlat
    have HB1 := Lib.hid hb
    have hz1 : w.heap.size ≤ w1.heap.size := hb.size
    have HM := Lib.hid (Rm.new w1 0 (fun _ _ => false) 27)
    have HB2 := Lib.hid (below_setCells (hb.alloc hb.size (.cells (rv 0 fun _ _ => false) 27)) (b := w1.heap.size) hb.size (rl k (ordOf k ps)) 0)
    have HL2 := Lib.hid ((hlat.alloc (.cells (rv 0 fun _ _ => false) 27)).below (below_setCells (Below.refl w1.heap.size _) (Nat.le_refl _) (rl k (ordOf k ps)) 0) hlat.lt)
    have HM2 := Lib.hid (HM.out.setCells k (ordOf k ps))
    have hs2 : w1.heap.size < ((w1.alloc (.cells (rv 0 fun _ _ => false) 27)).setCells w1.heap.size 0 (rl k (ordOf k ps))).heap.size := by rw [size_setCells]; simp
    have HLA := Lib.hid hlat.lat
    have h8 := hlat.le8
    clear hb hlat CB
    go_wp2_with (first | ((with_reducible show wpList _ _ _ _ _ _); refine wl_rstore _ _ rfl ?hw w1.heap.size k (ordOf k ps) rfl rfl ?hm ?_; (case hw => simp [Region.wanted]); (case hm => exact ⟨_, _, HM.out⟩)) | (go_at_call 38; fail))
    clear HM
    generalize World.setCells _ _ _ _ = W at *
    generalize ordOf k ps = L at *
    refine (awake2 _).mono ?_
    rintro e w2 ⟨rfl, hb⟩
    have HB3 := Lib.hid (HB2.out.trans (hb.mono HB2.out.size))
    have HL3 := Lib.hid (HL2.out.here hb)
    have HI3 := Lib.hid ((HI.out.below HB3.out).more HB3.out.size)
    have HE3 := Lib.hid ((HE.out.below HB3.out).more HB3.out.size)
    have HM3 := Lib.hid (HM2.out.below hb hs2)
    have hs3 : w1.heap.size < w2.heap.size := by have := hb.size; omega
    clear hb HL2 HL1 HB1 HB2 HM2 hs2
    by_cases h3 : 100 < es.length
    · have t3 : decide ((100 : Int) < es.length) = true := by simp; omega
      clear h3
      go_wp2_with fail
      refine (awake2 _).mono ?_
      rintro e w3 ⟨rfl, hb⟩
      have HB4 := Lib.hid (HB3.out.trans (hb.mono HB3.out.size))
      clear hb
      go_wp2
      go_ret
      exact ⟨rfl, HB4.out⟩
    · have t3 : decide ((100 : Int) < es.length) = false := by simp; omega
      have H3 := Lib.hid h3
      clear h3
      by_cases h4 : 40 < ls.length
      · have t4 : decide ((40 : Int) < ls.length) = true := by simp; omega
        clear h4
        go_wp2_with fail
        refine (awake2 _).mono ?_
        rintro e w3 ⟨rfl, hb⟩
        have HB4 := Lib.hid (HB3.out.trans (hb.mono HB3.out.size))
        clear hb
        go_wp2
        go_ret
        exact ⟨rfl, HB4.out⟩
      · have t4 : decide ((40 : Int) < ls.length) = false := by simp; omega
        have H4 := Lib.hid h4
        clear h4
        obtain ⟨i0, hi, hz0, hz1, hz2⟩ := info_parts info_pair
        have HI0 := Lib.hid hi
        have HZ0 := Lib.hid hz0
        have HZ1 := Lib.hid hz1
        have HZ2 := Lib.hid hz2
        clear hi hz0 hz1 hz2
        have HW1 := Lib.hid (ownsRow_empty w2 39 2 w2.heap.size (Nat.le_refl _))
        have HBA := Lib.hid ((Below.refl w2.heap.size w2).alloc (Nat.le_refl _) (.cells #[] 39))
        have HSRC := Lib.hid (fun h0 => (HE3.out.below HBA.out).src h0)
        go_wp2_with (at_builtin; refine wl_append rfl _ _ 22 rfl w2.heap.size 39 i0 (.agg #[.int .i64 0, .int .i64 0]) 2 16 Try.underlying22 HI0.out HZ0.out HZ1.out HZ2.out rfl (by decide) _ 0 [] rfl HW1.out A2 es.length c2 (pcells es) rfl (pcells_len es) HSRC.out (pcells_one es) ?c3 ?c4 ?c5 ?_)
        case c3 => have := H3.out; unfold maxLen; omega
        case c4 => have := H3.out; omega
        case c5 => simp
        intro v1 w3 hown hg
        have hb3 : Below w2.heap.size w2 w3 := HBA.out.grown hg (by simp) (fun j hj => (HW1.out.lt j hj).1)
        obtain ⟨A3, c3, rfl, hp3⟩ := Pairs.of_own (ps := es) rfl (by simpa using hown) HE3.out.ok HE3.out.1
        have HP3 := Lib.hid hp3
        have HB4 := Lib.hid (HB3.out.trans (hb3.mono HB3.out.size))
        have HL4 := Lib.hid (HL3.out.here hb3)
        have HM4 := Lib.hid (HM3.out.below hb3 hs3)
        have HI4 := Lib.hid ((HI3.out.below hb3).more hb3.size)
        have HE4 := Lib.hid ((HE3.out.below hb3).more hb3.size)
        have hs4 : w1.heap.size < w3.heap.size := Nat.lt_of_lt_of_le hs3 hb3.size
        clear hown hg hb3 HW1 HBA HSRC HB3 HL3 HM3 HI3 HE3 hs3 hp3 HI0 HZ0 HZ1 HZ2
        obtain ⟨i1, hi, hz0, hz1, hz2⟩ := info_parts info_int
        have HI0 := Lib.hid hi
        have HZ0 := Lib.hid hz0
        have HZ1 := Lib.hid hz1
        have HZ2 := Lib.hid hz2
        have HW1 := Lib.hid (ownsRow_empty w3 3 1 w3.heap.size (Nat.le_refl _))
        have HBA := Lib.hid ((Below.refl w3.heap.size w3).alloc (Nat.le_refl _) (.cells #[] 3))
        have HSRC := Lib.hid (fun h0 => (HI4.out.below HBA.out).src h0)
        clear hi hz0 hz1 hz2
        go_wp2_with (at_builtin; refine wl_append rfl _ _ 50 rfl w3.heap.size 3 i1 (.int .i64 0) 1 8 Try.underlying50 HI0.out HZ0.out HZ1.out HZ2.out rfl (by decide) _ 0 [] rfl HW1.out LA ls.length lc (ints ls) rfl (ints_len ls) HSRC.out (ints_one ls) ?c3 ?c4 ?c5 ?_)
        case c3 => have := H4.out; unfold maxLen; omega
        case c4 => have := H4.out; omega
        case c5 => simp
        intro v2 w4 hown hg
        have hb3 : Below w3.heap.size w3 w4 := HBA.out.grown hg (by simp) (fun j hj => (HW1.out.lt j hj).1)
        have HV1 : Hid (IntsAt w4 w4.heap.size v2 ls) := Lib.hid (IntsAt.of_own (show OwnInts w4 w3.heap.size v2 ls from by simpa [OwnInts] using hown) hlen)
        have HB5 := Lib.hid (HB4.out.trans (hb3.mono HB4.out.size))
        have HL5 := Lib.hid (HL4.out.here hb3)
        have HM5 := Lib.hid (HM4.out.below hb3 hs4)
        have HI5 := Lib.hid ((HI4.out.below hb3).more hb3.size)
        have HE5 := Lib.hid ((HE4.out.below hb3).more hb3.size)
        have HP5 := Lib.hid ((HP3.out.below hb3).more hb3.size)
        have hs5 : w1.heap.size < w4.heap.size := Nat.lt_of_lt_of_le hs4 hb3.size
        clear hown hg hb3 HW1 HBA HSRC HB4 HL4 HM4 HI4 HE4 HP3 hs4
        go_wp2_with fail
        refine (raise_r b k L v2 v2 es ls A3 c3 w4 HL5.out HP5.out HV1.out (by have := H4.out; omega)).mono ?_
        rintro e w5 ⟨hb6, hcase⟩
        have HB6 := Lib.hid (HB5.out.trans (hb6.mono HB5.out.size))
        have HM6 := Lib.hid (HM5.out.below hb6 hs5)
        have HI6 := Lib.hid ((HI5.out.below hb6).more hb6.size)
        have HE6 := Lib.hid ((HE5.out.below hb6).more hb6.size)
        have hs6 : w1.heap.size < w5.heap.size := Nat.lt_of_lt_of_le hs5 hb6.size
        have CR := Lib.hid (fun (u : World) (hb : Below w5.heap.size w5 u) => rraise_any k L es ls A2 c2 (.slice LA ls.length lc) u h8 HLA.out ((HE6.out.below hb).more hb.size) ((HI6.out.below hb).more hb.size) (by have := H4.out; omega))
        clear HB5 HL5 HM5 HI5 HE5 HP5 hs5 HV1
        rcases hcase with ⟨hno, rfl⟩ | ⟨hyes, v6, rfl, hv6⟩
        · have HNO := Lib.hid hno
          clear hno hb6
          go_wp2_with (first | ((with_reducible show wpList _ _ _ _ _ _); refine wl_rload _ rfl ?hw w1.heap.size k L rfl ?hm ?_; (case hw => first | exact wanted_none rfl | exact wanted_if rfl rfl rfl rfl); (case hm => exact HM6.out)) | (go_at_call 47; fail))
          refine (CR.out _ (Below.refl _ _)).mono ?_
          rintro e w6 ⟨hb7, (⟨_, rfl⟩ | ⟨h7, _⟩)⟩
          · have HB7 := Lib.hid (HB6.out.trans (hb7.mono HB6.out.size))
            clear hb7
            go_wp2
            go_ret
            exact ⟨rfl, HB7.out⟩
          · exact absurd (HNO.out.symm.trans h7) (by simp)
        · have HYES := Lib.hid hyes
          have HV6 := Lib.hid hv6
          clear hyes hv6 hb6
          go_wp2_with (first | ((with_reducible show wpList _ _ _ _ _ _); refine wl_rload _ rfl ?hw w1.heap.size k L rfl ?hm ?_; (case hw => first | exact wanted_none rfl | exact wanted_if rfl rfl rfl rfl); (case hm => exact HM6.out)) | (go_at_call 47; fail))
          refine (CR.out _ (Below.refl _ _)).mono ?_
          rintro e w6 ⟨hb7, (⟨h7, _⟩ | ⟨_, v7, rfl, hv7⟩)⟩
          · exact absurd (HYES.out.symm.trans h7) (by simp)
          · have HB7 := Lib.hid (HB6.out.trans (hb7.mono HB6.out.size))
            have HV8 := Lib.hid ((HV6.out.below hb7).more hb7.size)
            have HV7 := Lib.hid hv7
            clear hb7 hv7
            have sm := same_any v6 v7 _ _ _ w6 HV8.out HV7.out
            rw [beq_self_eq_true] at sm
            have SM := Lib.hid sm
            clear sm
            go_wp2_with (go_at_call 33; refine SM.out.mono ?_; rintro e w' ⟨rfl, m, rfl⟩; have HB8 := Lib.hid (below_drewN HB7.out m))
            go_ret
            exact ⟨rfl, HB8.out⟩
set_option maxRecDepth 100000 in
/-- the row's step, argument by argument -/
theorem labelRaises_lifted (os : Os) (started : os.Started) (H : Type) (enc : TypeId × Value → H) :
    ReturnsInHanded {} Try.checked os 10 .any (Rows.labelRaisesSpec.pre6 enc Try.prog Try.f10 Rows.labelRaisesRow.domain false) (Rows.labelRaisesSpec.post enc Try.prog Try.f10 false true false false) := by
  refine returnsInHanded_of_change (C := Try.checked) own started (by kernel_rfl) Try.func10
    (ChangeSpec.witness6 (enc := enc) (C := Try.checked) false ⟨#[], #[.int .i64 0, .slice none 0 0, .slice none 0 0, .slice none 0 0], []⟩ 8 (by kernel_rfl) (by kernel_rfl) (by kernel_rfl) (by kernel_rfl)) ?_
  intro W base args ds gs before hval0 hW hcnd _
  have hval : ∀ (j : Nat) t v, Try.f10.params[j]? = some t → args[j]? = some v → Value.okWide Try.prog W .any base t v := hval0
  have hW' := hW
  obtain ⟨p, q, hA0, hV, rfl, hfz, hnd⟩ := hW
  have hA : DataW.TrodAll enc Try.prog W 0 (fun _ => true) true Try.f10.params.toList args.toList ds p := hA0
  rw [Try.params10] at hA hval
  obtain ⟨v0, vs0, d0, ds0, p0, q0, hargs, rfl, rfl, h0, r0⟩ := trodAll_cons hA
  obtain ⟨v1, vs1, d1, ds1, p1, q1, rfl, rfl, rfl, h1, r1⟩ := trodAll_cons r0
  obtain ⟨v2, vs2, d2, ds2, p2, q2, rfl, rfl, rfl, h2, r2⟩ := trodAll_cons r1
  obtain ⟨v3, vs3, d3, ds3, p3, q3, rfl, rfl, rfl, h3, r3⟩ := trodAll_cons r2
  obtain ⟨rfl, rfl, rfl⟩ := trodAll_nil r3
  obtain rfl : args = #[v0, v1, v2, v3] := by cases args; simp_all
  obtain ⟨rfl, rfl⟩ := trodVars_none hV
  obtain ⟨a0, rfl, rfl, rfl, w0⟩ := open_int Try.underlying3 (hval 0 3 v0 rfl rfl) h0
  obtain ⟨a1, len1, cap1, rfl⟩ := okWide_slice Try.underlying22 (hval 1 22 v1 rfl rfl)
  have k1 := h1
  have lt1 := lt_of_trod k1
  obtain ⟨z1, l1, w1⟩ := open_pairs h1
  obtain ⟨a2, len2, cap2, rfl⟩ := okWide_slice Try.underlying22 (hval 2 22 v2 rfl rfl)
  have k2 := h2
  have lt2 := lt_of_trod k2
  obtain ⟨z2, l2, w2⟩ := open_pairs h2
  obtain ⟨a3, len3, cap3, rfl⟩ := okWide_slice Try.underlying50 (hval 3 50 v3 rfl rfl)
  have k3 := h3
  have lt3 := lt_of_trod k3
  obtain ⟨z3, l3, w3⟩ := open_nums h3
  clear hA0 hval0
  refine (labelRaises_walk W a0 w0 a1 len1 cap1 z1 l1 w1 a2 len2 cap2 z2 l2 w2 _ z3 w3).mono fun e W' ⟨he, bel⟩ => ?_
  subst he
  exact ⟨_, rfl, _, _, _, [], _, [], hW', trodAll_mk1 (shut_bool Try.underlying4 _), (trodAll_cons_mk (shut_int Try.underlying3 w0) (trodAll_cons_mk (Below.trod laidOut (by kernel_rfl) (of_decide_eq_true (by kernel_rfl)) k1 bel lt1) (trodAll_cons_mk (Below.trod laidOut (by kernel_rfl) (of_decide_eq_true (by kernel_rfl)) k2 bel lt2) (trodAll_cons_mk (Below.trod laidOut (by kernel_rfl) (of_decide_eq_true (by kernel_rfl)) k3 bel lt3) trodAll_mk0)))), rfl, bel.frame _, fun h => by cases h⟩

theorem labelRaises_proved : Rows.LabelRaisesSaid :=
  OpenClaim.holds_of_wide 10 Try.f10 rfl rfl rfl rfl rfl rfl rfl ⟨rfl, rfl, rfl, rfl, rfl⟩ rfl rfl rfl rfl rfl (by kernel_rfl) Try.func10 (by kernel_rfl)
    (of_decide_eq_true (by kernel_rfl)) (by unfold Func.isWrapper; first | (rw [if_pos (by decide +kernel)]; kernel_rfl) | (rw [if_neg (by decide +kernel)]; exact ⟨rfl, rfl⟩))
    (fun os started H enc _ => labelRaises_lifted os started H enc)
#print axioms labelRaises_proved

end Go.Proofs.Ytpikafadfailkaa
