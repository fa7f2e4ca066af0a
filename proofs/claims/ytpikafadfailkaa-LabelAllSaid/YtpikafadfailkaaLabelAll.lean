/- THE STATEMENT LabelAll is proved: for every number, every list of pairs, every list of labels and every label the Go function LabelAll returns true, and its arguments read afterwards as before; without conditions. -/
import Derived.Test.YtpikafadfailkaaFrame
import Derived.Test.YtpikafadfailkaaAwake2
import Derived.Test.YtpikafadfailkaaBoth2
import Derived.Test.YtpikafadfailkaaLabelPlain
namespace Go.Proofs.Ytpikafadfailkaa
open Go.ChangeShapes Go.WideShapes Go.ChangeAt Go.RowKit P
set_option linter.unusedVariables false

set_option maxHeartbeats 2000000 in
set_option maxRecDepth 100000 in
theorem labelAll_walk (w : World) (n : Int) (_wn : (Lit.int .i64 n).wf = true) (A : Option Addr) (l c : Nat) (ps : List (Int × Int)) (hl : ps.length = l) (hp : Pairs w w.heap.size A ps)
    (v : Value) (ls : List Int) (hi : IntsAt w w.heap.size v ls) (a : Int) (_wa : (Lit.int .i64 a).wf = true) :
    Calls Try.prog 13 #[.int .i64 n, .slice A l c, v, .int .i64 a] w fun e w' => e = .returned (.bool true) ∧ Below w.heap.size w w' := by
  have CB := Lib.hid (both2_all n A l c ps w hl hp)
  have HI := Lib.hid hi
  obtain ⟨hlen, LA, lc, rfl, _⟩ := hi
  have hz := rzero
  clear hl hp
  go_enter Try.func13, Try.ntmps13
  go_wp2_with fail
  refine CB.out.mono ?_
  rintro e w1 ⟨hb, (⟨N, L, rfl⟩ | ⟨_, _, k, b, rfl, rfl, hlat⟩)⟩
  · have HB1 := Lib.hid hb
    have HM := Lib.hid (Rm.new w1 0 (fun _ _ => false) 27)
    have HB2 := Lib.hid (below_setCells (hb.alloc hb.size (.cells (rv 0 fun _ _ => false) 27)) (b := w1.heap.size) hb.size (rl N L) 0)
    clear hb CB
    go_wp2_with (first | ((with_reducible show wpList _ _ _ _ _ _); refine wl_rstore _ _ rfl ?hw w1.heap.size N L rfl rfl ?hm ?_; (case hw => simp [Region.wanted]); (case hm => exact ⟨_, _, HM.out⟩)) | (go_at_call 38; fail))
    generalize World.setCells _ _ _ _ = W at *
    refine (awake2 _).mono ?_
    rintro e w2 ⟨rfl, hb⟩
    have HB3 := Lib.hid (HB2.out.trans (hb.mono HB2.out.size))
    clear hb
    go_wp2_with fail
    refine (awake2 _).mono ?_
    rintro e w3 ⟨rfl, hb⟩
    have HB4 := Lib.hid (HB3.out.trans (hb.mono HB3.out.size))
    clear hb
    go_wp2
    go_ret
    exact ⟨rfl, HB4.out⟩
  · have HL1 := Lib.hid hlat
    have HB1 := Lib.hid hb
    have hz1 : w.heap.size ≤ w1.heap.size := hb.size
    have HM := Lib.hid (Rm.new w1 0 (fun _ _ => false) 27)
    have HB2 := Lib.hid (below_setCells (hb.alloc hb.size (.cells (rv 0 fun _ _ => false) 27)) (b := w1.heap.size) hb.size (rl k (ordOf k ps)) 0)
    have HL2 := Lib.hid ((hlat.alloc (.cells (rv 0 fun _ _ => false) 27)).below (below_setCells (Below.refl w1.heap.size _) (Nat.le_refl _) (rl k (ordOf k ps)) 0) hlat.lt)
    have HLA := Lib.hid hlat.lat
    clear hb hlat CB
    go_wp2_with (first | ((with_reducible show wpList _ _ _ _ _ _); refine wl_rstore _ _ rfl ?hw w1.heap.size k (ordOf k ps) rfl rfl ?hm ?_; (case hw => simp [Region.wanted]); (case hm => exact ⟨_, _, HM.out⟩)) | (go_at_call 38; fail))
    clear HM
    generalize World.setCells _ _ _ _ = W at *
    generalize ordOf k ps = L at *
    refine (awake2 _).mono ?_
    rintro e w2 ⟨rfl, hb⟩
    have HB3 := Lib.hid (HB2.out.trans (hb.mono HB2.out.size))
    have HL3 := Lib.hid (HL2.out.here hb)
    have HI3 := Lib.hid ((HI.out.below HB3.out).more HB3.out.size)
    clear hb HL2 HL1 HB1 HB2
    by_cases h3 : 300 < ls.length
    · have t3 : decide ((300 : Int) < ls.length) = true := by simp; omega
      clear h3
      go_wp2_with fail
      refine (awake2 _).mono ?_
      rintro e w3 ⟨rfl, hb⟩
      have HB4 := Lib.hid (HB3.out.trans (hb.mono HB3.out.size))
      clear hb
      go_wp2
      go_ret
      exact ⟨rfl, HB4.out⟩
    · have t3 : decide ((300 : Int) < ls.length) = false := by simp; omega
      have q1 := lqI_self HLA.out a
      cases ha : isL k a with
      | false =>
        rw [ha] at q1
        go_wp2_with (go_at_call 22; refine (leq_r HL3.out _ _).mono ?_; rintro e w' ⟨rfl, rfl⟩)
        refine (awake2 _).mono ?_
        rintro e w3 ⟨rfl, hb⟩
        have HB4 := Lib.hid (HB3.out.trans (hb.mono HB3.out.size))
        clear hb
        go_wp2
        go_ret
        exact ⟨rfl, HB4.out⟩
      | true =>
        rw [ha] at q1
        obtain ⟨y, rfl, hy⟩ := isL_true ha
        clear ha
        have CJ := Lib.hid (joinAll_r b k L _ ls w2.heap.size w2 HL3.out HI3.out)
        have H3 := Lib.hid h3
        clear h3
        go_wp2_with (go_at_call 22; refine (leq_r HL3.out _ _).mono ?_; rintro e w' ⟨rfl, rfl⟩)
        refine CJ.out.mono ?_
        rintro e w3 ⟨rfl, m, rfl⟩
        have HB4 := Lib.hid (below_drewN HB3.out m)
        have HL4 := Lib.hid (HL3.out.drewN m)
        have HI4 := Lib.hid (HI3.out.drewN m)
        cases hall : allL k ls with
        | false =>
          rw [foldV_no hall]
          clear hall CJ
          go_wp2
          go_ret
          exact ⟨rfl, HB4.out⟩
        | true =>
          rw [foldV_yes hall]
          have hf := foldJ_lt HLA.out ls (bot k L) HLA.out.bot_lt hall
          have q2 := lqI_nat (L := L) hf hy
          have HAS := Lib.hid (all_seen HLA.out hy hall)
          have hsz : (w2.drewN m).heap.size = w2.heap.size := rfl
          have HI5 : Hid (IntsAt (w2.drewN m) (w2.drewN m).heap.size (.slice LA ls.length lc) ls) := Lib.hid HI4.out
          have CV := Lib.hid (visible_r b k L y _ ls _ HL4.out HI5.out (by have := H3.out; omega))
          clear hall CJ hf hsz
          generalize w2.drewN m = w4 at *
          generalize foldJ k L (bot k L) ls = x at *
          cases hxy : L x y with
          | true =>
            rw [hxy] at q2
            have hvl := HAS.out.2 hxy
            clear hxy
            go_wp2_with (go_at_call 22; refine (leq_r HL4.out _ _).mono ?_; rintro e w' ⟨rfl, rfl⟩)
            refine CV.out.mono ?_
            rintro e w5 ⟨vv, rfl, hown, hb⟩
            have HB5 := Lib.hid (HB4.out.trans (hb.mono HB4.out.size))
            obtain ⟨_, VA, vc, rfl, _⟩ := IntsAt.of_own hown (by rw [hvl]; omega)
            rw [hvl]
            clear hown hb hvl
            go_wp2
            go_ret
            exact ⟨rfl, HB5.out⟩
          | false =>
            rw [hxy] at q2
            have hvl : ¬ ((visL k L ls y).length = ls.length) := fun h => by rw [HAS.out.1 h] at hxy; cases hxy
            have hvle := visL_len k L ls y
            have HVL := Lib.hid hvl
            clear hxy hvl
            go_wp2_with (go_at_call 22; refine (leq_r HL4.out _ _).mono ?_; rintro e w' ⟨rfl, rfl⟩)
            refine CV.out.mono ?_
            rintro e w5 ⟨vv, rfl, hown, hb⟩
            have HB5 := Lib.hid (HB4.out.trans (hb.mono HB4.out.size))
            obtain ⟨_, VA, vc, rfl, _⟩ := IntsAt.of_own hown (by omega)
            have hne : ((visL k L ls y).length : Int) ≠ (ls.length : Int) := by have := HVL.out; omega
            clear hown hb
            generalize (visL k L ls y).length = vl at *
            have hne2 : ((vl : Int) == (ls.length : Int)) = false := by simpa using hne
            go_wp2
            go_ret
            exact ⟨rfl, HB5.out⟩

set_option maxRecDepth 100000 in
/-- the row's step, argument by argument -/
theorem labelAll_lifted (os : Os) (started : os.Started) (H : Type) (enc : TypeId × Value → H) :
    ReturnsInHanded {} Try.checked os 13 .any (Rows.labelAllSpec.pre6 enc Try.prog Try.f13 Rows.labelAllRow.domain false) (Rows.labelAllSpec.post enc Try.prog Try.f13 false true false false) := by
  refine returnsInHanded_of_change (C := Try.checked) own started (by kernel_rfl) Try.func13
    (ChangeSpec.witness6 (enc := enc) (C := Try.checked) false ⟨#[], #[.int .i64 0, .slice none 0 0, .slice none 0 0, .int .i64 0], []⟩ 8 (by kernel_rfl) (by kernel_rfl) (by kernel_rfl) (by kernel_rfl)) ?_
  intro W base args ds gs before hval0 hW hcnd _
  have hval : ∀ (j : Nat) t v, Try.f13.params[j]? = some t → args[j]? = some v → Value.okWide Try.prog W .any base t v := hval0
  have hW' := hW
  obtain ⟨p, q, hA0, hV, rfl, hfz, hnd⟩ := hW
  have hA : DataW.TrodAll enc Try.prog W 0 (fun _ => true) true Try.f13.params.toList args.toList ds p := hA0
  rw [Try.params13] at hA hval
  obtain ⟨v0, vs0, d0, ds0, p0, q0, hargs, rfl, rfl, h0, r0⟩ := trodAll_cons hA
  obtain ⟨v1, vs1, d1, ds1, p1, q1, rfl, rfl, rfl, h1, r1⟩ := trodAll_cons r0
  obtain ⟨v2, vs2, d2, ds2, p2, q2, rfl, rfl, rfl, h2, r2⟩ := trodAll_cons r1
  obtain ⟨v3, vs3, d3, ds3, p3, q3, rfl, rfl, rfl, h3, r3⟩ := trodAll_cons r2
  obtain ⟨rfl, rfl, rfl⟩ := trodAll_nil r3
  obtain rfl : args = #[v0, v1, v2, v3] := by cases args; simp_all
  obtain ⟨rfl, rfl⟩ := trodVars_none hV
  obtain ⟨a0, rfl, rfl, rfl, w0⟩ := open_int Try.underlying3 (hval 0 3 v0 rfl rfl) h0
  obtain ⟨a1, len1, cap1, rfl⟩ := okWide_slice Try.underlying22 (hval 1 22 v1 rfl rfl)
  have k1 := h1
  have lt1 := lt_of_trod k1
  obtain ⟨z1, l1, w1⟩ := open_pairs h1
  obtain ⟨a2, len2, cap2, rfl⟩ := okWide_slice Try.underlying50 (hval 2 50 v2 rfl rfl)
  have k2 := h2
  have lt2 := lt_of_trod k2
  obtain ⟨z2, l2, w2⟩ := open_nums h2
  obtain ⟨a3, rfl, rfl, rfl, w3⟩ := open_int Try.underlying3 (hval 3 3 v3 rfl rfl) h3
  clear hA0 hval0
  refine (labelAll_walk W a0 w0 a1 len1 cap1 z1 l1 w1 _ z2 w2 a3 w3).mono fun e W' ⟨he, bel⟩ => ?_
  subst he
  exact ⟨_, rfl, _, _, _, [], _, [], hW', trodAll_mk1 (shut_bool Try.underlying4 _), (trodAll_cons_mk (shut_int Try.underlying3 w0) (trodAll_cons_mk (Below.trod laidOut (by kernel_rfl) (of_decide_eq_true (by kernel_rfl)) k1 bel lt1) (trodAll_cons_mk (Below.trod laidOut (by kernel_rfl) (of_decide_eq_true (by kernel_rfl)) k2 bel lt2) (trodAll_cons_mk (shut_int Try.underlying3 w3) trodAll_mk0)))), rfl, bel.frame _, fun h => by cases h⟩

theorem labelAll_proved : Rows.LabelAllSaid :=
  OpenClaim.holds_of_wide 13 Try.f13 rfl rfl rfl rfl rfl rfl rfl ⟨rfl, rfl, rfl, rfl, rfl⟩ rfl rfl rfl rfl rfl (by kernel_rfl) Try.func13 (by kernel_rfl)
    (of_decide_eq_true (by kernel_rfl)) (by unfold Func.isWrapper; first | (rw [if_pos (by decide +kernel)]; kernel_rfl) | (rw [if_neg (by decide +kernel)]; exact ⟨rfl, rfl⟩))
    (fun os started H enc _ => labelAll_lifted os started H enc)
#print axioms labelAll_proved

end Go.Proofs.Ytpikafadfailkaa
