/- THE STATEMENT LabelSees is proved: for every number, every list of pairs, every list of labels and every two labels the Go function LabelSees returns true, and its arguments read afterwards as before; without conditions. -/
import Derived.Test.YtpikafadfailkaaFrame
import Derived.Test.YtpikafadfailkaaAwake2
import Derived.Test.YtpikafadfailkaaBoth2
import Derived.Test.YtpikafadfailkaaSeesPlain
namespace Go.Proofs.Ytpikafadfailkaa
open Go.ChangeShapes Go.WideShapes Go.ChangeAt Go.RowKit P
set_option linter.unusedVariables false

theorem dnL_le8 (n : Nat) (L : Rel) (a : Int) : (dnL n L a).length ≤ 8 := by
  unfold dnL nearOf; split
  · exact listTo_le _ 8
  · simp

set_option maxHeartbeats 2000000 in
set_option maxRecDepth 100000 in
theorem labelSees_walk (w : World) (n : Int) (_wn : (Lit.int .i64 n).wf = true) (A : Option Addr) (l c : Nat) (ps : List (Int × Int)) (hl : ps.length = l) (hp : Pairs w w.heap.size A ps)
    (v : Value) (ls : List Int) (hi : IntsAt w w.heap.size v ls) (a : Int) (_wa : (Lit.int .i64 a).wf = true) (a2 : Int) (_wa2 : (Lit.int .i64 a2).wf = true) :
    Calls Try.prog 14 #[.int .i64 n, .slice A l c, v, .int .i64 a, .int .i64 a2] w fun e w' => e = .returned (.bool true) ∧ Below w.heap.size w w' := by
  have CB := Lib.hid (both2_all n A l c ps w hl hp)
  have HI := Lib.hid hi
  obtain ⟨hlen, LA, lc, rfl, _⟩ := hi
  have hz := rzero
  clear hl hp
  go_enter Try.func14, Try.ntmps14
  go_wp2_with fail
  refine CB.out.mono ?_
  rintro e w1 ⟨hb, (⟨N, L, rfl⟩ | ⟨_, _, k, b, rfl, rfl, hlat⟩)⟩
  · have HB1 := Lib.hid hb
    have HM := Lib.hid (Rm.new w1 0 (fun _ _ => false) 27)
    have HB2 := Lib.hid (below_setCells (hb.alloc hb.size (.cells (rv 0 fun _ _ => false) 27)) (b := w1.heap.size) hb.size (rl N L) 0)
    clear hb CB
    go_wp2_with (first | ((with_reducible show wpList _ _ _ _ _ _); refine wl_rstore _ _ rfl ?hw w1.heap.size N L rfl rfl ?hm ?_; (case hw => simp [Region.wanted]); (case hm => exact ⟨_, _, HM.out⟩)) | (go_at_call 38; fail))
    generalize World.setCells _ _ _ _ = W at *
    refine (awake2 _).mono ?_
    rintro e w2 ⟨rfl, hb⟩
    have HB3 := Lib.hid (HB2.out.trans (hb.mono HB2.out.size))
    clear hb
    go_wp2_with fail
    refine (awake2 _).mono ?_
    rintro e w3 ⟨rfl, hb⟩
    have HB4 := Lib.hid (HB3.out.trans (hb.mono HB3.out.size))
    clear hb
    go_wp2
    go_ret
    exact ⟨rfl, HB4.out⟩
  · have HL1 := Lib.hid hlat
    have HB1 := Lib.hid hb
    have hz1 : w.heap.size ≤ w1.heap.size := hb.size
    have HM := Lib.hid (Rm.new w1 0 (fun _ _ => false) 27)
    have HB2 := Lib.hid (below_setCells (hb.alloc hb.size (.cells (rv 0 fun _ _ => false) 27)) (b := w1.heap.size) hb.size (rl k (ordOf k ps)) 0)
    have HL2 := Lib.hid ((hlat.alloc (.cells (rv 0 fun _ _ => false) 27)).below (below_setCells (Below.refl w1.heap.size _) (Nat.le_refl _) (rl k (ordOf k ps)) 0) hlat.lt)
    have HLA := Lib.hid hlat.lat
    clear hb hlat CB
    go_wp2_with (first | ((with_reducible show wpList _ _ _ _ _ _); refine wl_rstore _ _ rfl ?hw w1.heap.size k (ordOf k ps) rfl rfl ?hm ?_; (case hw => simp [Region.wanted]); (case hm => exact ⟨_, _, HM.out⟩)) | (go_at_call 38; fail))
    clear HM
    generalize World.setCells _ _ _ _ = W at *
    generalize ordOf k ps = L at *
    refine (awake2 _).mono ?_
    rintro e w2 ⟨rfl, hb⟩
    have HB3 := Lib.hid (HB2.out.trans (hb.mono HB2.out.size))
    have HL3 := Lib.hid (HL2.out.here hb)
    have HI3 := Lib.hid ((HI.out.below HB3.out).more HB3.out.size)
    clear hb HL2 HL1 HB1 HB2
    by_cases h3 : 300 < ls.length
    · have t3 : decide ((300 : Int) < ls.length) = true := by simp; omega
      clear h3
      go_wp2_with fail
      refine (awake2 _).mono ?_
      rintro e w3 ⟨rfl, hb⟩
      have HB4 := Lib.hid (HB3.out.trans (hb.mono HB3.out.size))
      clear hb
      go_wp2
      go_ret
      exact ⟨rfl, HB4.out⟩
    · have t3 : decide ((300 : Int) < ls.length) = false := by simp; omega
      cases hab : lqI k L a a2 with
      | false =>
        go_wp2_with (go_at_call 22; refine (leq_r HL3.out _ _).mono ?_; rintro e w' ⟨rfl, rfl⟩)
        refine (awake2 _).mono ?_
        rintro e w3 ⟨rfl, hb⟩
        have HB4 := Lib.hid (HB3.out.trans (hb.mono HB3.out.size))
        clear hb
        go_wp2
        go_ret
        exact ⟨rfl, HB4.out⟩
      | true =>
        have HTH := Lib.hid (thin_vis HLA.out ls hab)
        have H3 := Lib.hid h3
        have HAB := Lib.hid hab
        clear h3
        go_wp2_with (go_at_call 22; refine (leq_r HL3.out _ _).mono ?_; rintro e w' ⟨rfl, rfl⟩)
        clear hab
        refine (visible_r b k L a _ ls _ HL3.out HI3.out (by have := H3.out; omega)).mono ?_
        rintro e w4 ⟨v1, rfl, hown, hb⟩
        have HB4 := Lib.hid (HB3.out.trans (hb.mono HB3.out.size))
        have HL4 := Lib.hid (HL3.out.here hb)
        have HI4 := Lib.hid ((HI3.out.below hb).more hb.size)
        have HV1 := Lib.hid (IntsAt.of_own hown (by have := visL_len k L ls a; omega))
        clear hown hb HB3 HL3 HI3
        go_wp2_with fail
        refine (visible_r b k L a2 _ ls _ HL4.out HI4.out (by have := H3.out; omega)).mono ?_
        rintro e w5 ⟨v2, rfl, hown, hb⟩
        have HB5 := Lib.hid (HB4.out.trans (hb.mono HB4.out.size))
        have HL5 := Lib.hid (HL4.out.here hb)
        obtain ⟨hn1, A1, c1, rfl, hc1⟩ := (HV1.out.below hb).more hb.size
        obtain ⟨hn2, A2, c2, rfl, hc2⟩ := IntsAt.of_own hown (by have := visL_len k L ls a2; omega)
        have HC1 := Lib.hid hc1
        have HC2 := Lib.hid hc2
        clear hown hb hc1 hc2 HV1 HB4 HL4 HI4
        generalize visL k L ls a = lo at *
        generalize visL k L ls a2 = up at *
        go_wp2
        go_loopg [16, 55] lo.length (fun g kk i wr => ∃ j K : Nat, j + g = lo.length ∧ i = .int .i64 j ∧ kk = .int .i64 K ∧ Ahead lo up j K ∧ K ≤ up.length ∧ w5 = wr)
        case atStart => exact ⟨0, 0, by omega, rfl, rfl, fun t j' x _ _ _ => Nat.zero_le t, by omega, rfl⟩
        case round =>
          obtain ⟨j, K, hj, rfl, rfl, hah, hKl, rfl⟩ := hrel
          have HAH := Lib.hid hah
          clear hah
          cases gk with
          | zero =>
            have hge : ¬ ((j : Int) < (lo.length : Int)) := by omega
            go_wp2_with fail
            refine (below_r HL5.out a).mono ?_
            rintro e w6 ⟨v3, rfl, hown, hb⟩
            have HB6 := Lib.hid (HB5.out.trans (hb.mono HB5.out.size))
            have HL6 := Lib.hid (HL5.out.here hb)
            have hd8 := dnL_le8 k L a
            obtain ⟨_, A3, c3, rfl, _⟩ := IntsAt.of_own hown (by omega)
            clear hown hb
            go_wp2_with fail
            refine (high_r b k L a w6 HL6.out).mono ?_
            rintro e w7 ⟨v4, rfl, hown, hb⟩
            have HB7 := Lib.hid (HB6.out.trans (hb.mono HB6.out.size))
            have HL7 := Lib.hid (HL6.out.here hb)
            have hh8 := highL_len k L a
            have hk8 := HL6.out.le8
            obtain ⟨_, A4, c4, rfl, _⟩ := IntsAt.of_own hown (by omega)
            have HN := Lib.hid (near_high HLA.out.dom hk8 a)
            clear hown hb
            generalize (dnL k L a).length = x at *
            generalize (highL k L a).length = y at *
            have hsum : (x : Int) + y = k := by have := HN.out; omega
            have hsz := HN.out
            go_wp2_with (go_at_call 30; refine (size_r HL7.out).mono ?_; rintro e w' ⟨rfl, rfl⟩)
            go_ret
            exact ⟨rfl, HB7.out⟩
          | succ g =>
            have hlt : (j : Int) < (lo.length : Int) := by omega
            obtain ⟨x, hx⟩ : ∃ x, lo[j]? = some x := ⟨_, List.getElem?_eq_getElem (by omega)⟩
            obtain ⟨b1, o1, rfl, _, hcc⟩ := HC1.out (by omega)
            have d := hcc j x hx
            obtain ⟨t, ht, hKt, htl⟩ := HTH.out.place HAH.out hx
            have HX := Lib.hid hx
            have HT := Lib.hid ht
            obtain ⟨b2, o2, rfl, _, hcu⟩ := HC2.out (by omega)
            have HCU := Lib.hid hcu
            clear hcc hx ht hcu
            go_wp2
            go_loopg [16] (up.length - K) (fun g kk wr => ∃ K : Nat, K + g = up.length ∧ kk = .int .i64 K ∧ K ≤ t ∧ w5 = wr)
            case atStart => exact ⟨K, by omega, rfl, hKt, rfl⟩
            case round =>
              obtain ⟨K', hK, rfl, hKt', rfl⟩ := hrel
              obtain ⟨y, hy⟩ : ∃ y, up[K']? = some y := ⟨_, List.getElem?_eq_getElem (by omega)⟩
              have du := HCU.out K' y hy
              have hKlt : (K' : Int) < (up.length : Int) := by omega
              have HC := Lib.hid (HTH.out.at HT.out hy hKt')
              clear hy
              rcases HC.out with ⟨hyx, hK1⟩ | hyx
              · cases gk with
                | zero => omega
                | succ g2 =>
                  go_wp2
                  go_roundg g2
                  case measure => omega
                  case rel => exact ⟨K' + 1, by omega, by go_num, hK1, rfl⟩
              · subst hyx
                have hne : ((K' : Int) == (up.length : Int)) = false := by simp; omega
                go_wp2
                go_roundg g
                case measure => omega
                case rel => exact ⟨j + 1, K', by omega, by go_num, rfl, HTH.out.next HX.out HT.out hKt', by omega, rfl⟩

set_option maxRecDepth 100000 in
/-- the row's step, argument by argument -/
theorem labelSees_lifted (os : Os) (started : os.Started) (H : Type) (enc : TypeId × Value → H) :
    ReturnsInHanded {} Try.checked os 14 .any (Rows.labelSeesSpec.pre6 enc Try.prog Try.f14 Rows.labelSeesRow.domain false) (Rows.labelSeesSpec.post enc Try.prog Try.f14 false true false false) := by
  refine returnsInHanded_of_change (C := Try.checked) own started (by kernel_rfl) Try.func14
    (ChangeSpec.witness6 (enc := enc) (C := Try.checked) false ⟨#[], #[.int .i64 0, .slice none 0 0, .slice none 0 0, .int .i64 0, .int .i64 0], []⟩ 8 (by kernel_rfl) (by kernel_rfl) (by kernel_rfl) (by kernel_rfl)) ?_
  intro W base args ds gs before hval0 hW hcnd _
  have hval : ∀ (j : Nat) t v, Try.f14.params[j]? = some t → args[j]? = some v → Value.okWide Try.prog W .any base t v := hval0
  have hW' := hW
  obtain ⟨p, q, hA0, hV, rfl, hfz, hnd⟩ := hW
  have hA : DataW.TrodAll enc Try.prog W 0 (fun _ => true) true Try.f14.params.toList args.toList ds p := hA0
  rw [Try.params14] at hA hval
  obtain ⟨v0, vs0, d0, ds0, p0, q0, hargs, rfl, rfl, h0, r0⟩ := trodAll_cons hA
  obtain ⟨v1, vs1, d1, ds1, p1, q1, rfl, rfl, rfl, h1, r1⟩ := trodAll_cons r0
  obtain ⟨v2, vs2, d2, ds2, p2, q2, rfl, rfl, rfl, h2, r2⟩ := trodAll_cons r1
  obtain ⟨v3, vs3, d3, ds3, p3, q3, rfl, rfl, rfl, h3, r3⟩ := trodAll_cons r2
  obtain ⟨v4, vs4, d4, ds4, p4, q4, rfl, rfl, rfl, h4, r4⟩ := trodAll_cons r3
  obtain ⟨rfl, rfl, rfl⟩ := trodAll_nil r4
  obtain rfl : args = #[v0, v1, v2, v3, v4] := by cases args; simp_all
  obtain ⟨rfl, rfl⟩ := trodVars_none hV
  obtain ⟨a0, rfl, rfl, rfl, w0⟩ := open_int Try.underlying3 (hval 0 3 v0 rfl rfl) h0
  obtain ⟨a1, len1, cap1, rfl⟩ := okWide_slice Try.underlying22 (hval 1 22 v1 rfl rfl)
  have k1 := h1
  have lt1 := lt_of_trod k1
  obtain ⟨z1, l1, w1⟩ := open_pairs h1
  obtain ⟨a2, len2, cap2, rfl⟩ := okWide_slice Try.underlying50 (hval 2 50 v2 rfl rfl)
  have k2 := h2
  have lt2 := lt_of_trod k2
  obtain ⟨z2, l2, w2⟩ := open_nums h2
  obtain ⟨a3, rfl, rfl, rfl, w3⟩ := open_int Try.underlying3 (hval 3 3 v3 rfl rfl) h3
  obtain ⟨a4, rfl, rfl, rfl, w4⟩ := open_int Try.underlying3 (hval 4 3 v4 rfl rfl) h4
  clear hA0 hval0
  refine (labelSees_walk W a0 w0 a1 len1 cap1 z1 l1 w1 _ z2 w2 a3 w3 a4 w4).mono fun e W' ⟨he, bel⟩ => ?_
  subst he
  exact ⟨_, rfl, _, _, _, [], _, [], hW', trodAll_mk1 (shut_bool Try.underlying4 _), (trodAll_cons_mk (shut_int Try.underlying3 w0) (trodAll_cons_mk (Below.trod laidOut (by kernel_rfl) (of_decide_eq_true (by kernel_rfl)) k1 bel lt1) (trodAll_cons_mk (Below.trod laidOut (by kernel_rfl) (of_decide_eq_true (by kernel_rfl)) k2 bel lt2) (trodAll_cons_mk (shut_int Try.underlying3 w3) (trodAll_cons_mk (shut_int Try.underlying3 w4) trodAll_mk0))))), rfl, bel.frame _, fun h => by cases h⟩

theorem labelSees_proved : Rows.LabelSeesSaid :=
  OpenClaim.holds_of_wide 14 Try.f14 rfl rfl rfl rfl rfl rfl rfl ⟨rfl, rfl, rfl, rfl, rfl⟩ rfl rfl rfl rfl rfl (by kernel_rfl) Try.func14 (by kernel_rfl)
    (of_decide_eq_true (by kernel_rfl)) (by unfold Func.isWrapper; first | (rw [if_pos (by decide +kernel)]; kernel_rfl) | (rw [if_neg (by decide +kernel)]; exact ⟨rfl, rfl⟩))
    (fun os started H enc _ => labelSees_lifted os started H enc)
#print axioms labelSees_proved

end Go.Proofs.Ytpikafadfailkaa
