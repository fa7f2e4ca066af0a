/- Parts of a proof: LatTab. -/
import Derived.StillTailTactics
import Derived.Deep.LoopGhost
import Derived.WalkMore
import Derived.Deep.Cut
import Derived.Deep.DeepCutAuto
import Derived.Outline
import Derived.Test.YtppmkehdhpgdcaaGreatPackP5
namespace Go.Proofs.YtppmkehdhpgdcaaGreat
open Go.RowKit P
theorem leastFrom_first (S : Nat → Bool) (R : Rel) (k : Nat) : ∀ c, leastFrom S R k c = firstFrom (good S R) k c := by
  induction k with
  | zero => intro c; rfl
  | succ k ih => intro c; rw [leastFrom, firstFrom, ih]
theorem good_iff (S : Nat → Bool) (R : Rel) (c : Nat) : good S R c = true ↔ S c = true ∧ ∀ i, i < 8 → S i = true → R c i = true := by
  unfold good
  rw [Bool.and_eq_true, beq_iff_eq]
  refine and_congr_right fun _ => ⟨fun h i hi hs => ?_, fun h => mask_ext fun i hi => ?_⟩
  · have := mask_inj h i hi
    rw [hs] at this; simpa using this
  · cases hs : S i with
    | false => simp
    | true => simp [h i hi hs]
theorem leastOf_jn {n : Nat} {L : Rel} (h8 : n ≤ 8) (hd : Dom n L) (a b : Nat) : P.leastOf (fun c => L a c && L b c) L = jn n L a b := by
  unfold P.leastOf jn
  rw [leastFrom_first]
  show firstN 8 _ = _
  rw [firstN_more h8 fun i hi _ => by show (L a i && L b i && _) = false; rw [dom_out2 hd hi]; rfl]
  refine firstN_congr fun c _ => ?_
  rw [Bool.eq_iff_iff, good_iff, isLub_iff]
  simp only [Bool.and_eq_true]
  exact ⟨fun ⟨⟨h1, h2⟩, h3⟩ => ⟨h1, h2, fun d hd' k1 k2 => h3 d (by omega) ⟨k1, k2⟩⟩, fun ⟨h1, h2, h3⟩ => ⟨⟨h1, h2⟩, fun d _ k => h3 d (hd _ _ k.1).2 k.1 k.2⟩⟩
theorem opp_dom {n : Nat} {L : Rel} (hd : Dom n L) : Dom n (opp L) := fun a b k => ⟨(hd b a k).2, (hd b a k).1⟩
theorem leastOf_mt {n : Nat} {L : Rel} (h8 : n ≤ 8) (hd : Dom n L) (a b : Nat) : P.leastOf (fun c => opp L a c && opp L b c) (opp L) = mt n L a b :=
  leastOf_jn h8 (opp_dom hd) a b
theorem jn_range (n : Nat) (L : Rel) (a b : Nat) (h8 : n ≤ 8) : -1 ≤ jn n L a b ∧ jn n L a b ≤ 7 := by
  unfold jn
  rcases firstN_cases n (isLub n L a b) with ⟨h, _⟩ | ⟨d, h1, h, _⟩ <;> omega
def part (n : Nat) (T : Nat → Nat → Int) (x y : Nat) : Nat → Nat → Int := fun a b => if a < n ∧ b < n ∧ (a < x ∨ (a = x ∧ b < y)) then T a b else 0
def tab (n : Nat) (T : Nat → Nat → Int) : Nat → Nat → Int := fun a b => if a < n ∧ b < n then T a b else 0
theorem part_start (n : Nat) (T : Nat → Nat → Int) (a b : Nat) : part n T 0 0 a b = 0 := by unfold part; rw [if_neg (by omega)]
theorem part_step (n : Nat) (T : Nat → Nat → Int) (x y : Nat) (hx : x < n) (hy : y < n) (a b : Nat) : upd2 (part n T x y) x y (T x y) a b = part n T x (y + 1) a b := by
  unfold upd2 part
  by_cases e : a = x ∧ b = y
  · obtain ⟨rfl, rfl⟩ := e; rw [if_pos ⟨rfl, rfl⟩, if_pos (by omega)]
  · rw [if_neg e]
    by_cases e2 : a < n ∧ b < n ∧ (a < x ∨ (a = x ∧ b < y))
    · rw [if_pos e2, if_pos (by omega)]
    · rw [if_neg e2, if_neg (by omega)]
theorem part_next (n : Nat) (T : Nat → Nat → Int) (x : Nat) (a b : Nat) : part n T x n a b = part n T (x + 1) 0 a b := by
  unfold part
  by_cases e2 : a < n ∧ b < n ∧ (a < x ∨ (a = x ∧ b < n))
  · rw [if_pos e2, if_pos (by omega)]
  · rw [if_neg e2, if_neg (by omega)]
theorem part_end (n : Nat) (T : Nat → Nat → Int) (a b : Nat) : part n T n 0 a b = tab n T a b := by
  unfold part tab
  by_cases e2 : a < n ∧ b < n
  · rw [if_pos (by omega), if_pos e2]
  · rw [if_neg (by omega), if_neg e2]
theorem part_at (n : Nat) (T : Nat → Nat → Int) {x y : Nat} (hx : x < n) (hy : y < n) : part n T x (y + 1) x y = T x y := by
  unfold part; rw [if_pos (by omega)]
def TabPost (w : World) (b n : Nat) (L : Rel) (e : Ending) (w' : World) : Prop :=
  e = .returned (.bool (isLat n L)) ∧ w.grownBy w' (some b) ∧ (isLat n L = true → Lm w' b n L (opp L) (tab n (jn n L)) (tab n (mt n L)))
theorem isLat_no {n : Nat} {L : Rel} {x y : Nat} (hx : x < n) (hy : y < n) (h : badAt n L x y = true) : isLat n L = false := by
  cases e : isLat n L with
  | false => rfl
  | true => have := allN_iff.1 (allN_iff.1 e x hx) y hy; rw [h] at this; cases this
theorem isLat_yes {n : Nat} {L : Rel} (h : ∀ x y, x < n → y < n → badAt n L x y = false) : isLat n L = true :=
  allN_iff.2 fun x hx => allN_iff.2 fun y hy => by rw [h x y hx hy]; rfl
set_option maxHeartbeats 4000000 in
set_option maxRecDepth 100000 in
theorem tables_any (b n : Nat) (L : Rel) (w : World) (h8 : n ≤ 8) (hd : Dom n L)
    (hm : Lm w b n L (opp L) (fun _ _ => 0) (fun _ _ => 0)) :
    Calls Tryz.prog 44 #[.pointer (some ⟨b, 0, none⟩)] w (TabPost w b n L) := by
  have hn0 := hm.cn
  have HM := Lib.hid (hm.congr (fun _ _ _ _ => rfl) (fun _ _ _ _ => rfl) (fun i j _ _ => (part_start n (jn n L) i j).symm) (fun i j _ _ => (part_start n (mt n L) i j).symm))
  have HD := Lib.hid hd
  clear hm hd
  go_enter Tryz.func44, Tryz.ntmps44
  go_wp2
  go_step3
  go_wp2
  go_step3
  go_wp2
  clear hn0
  go_loopg [3, 11] n (fun g ok i wr => ∃ x : Nat, x + g = n ∧ ok = .bool true ∧ i = .int .i64 x ∧ (∀ a c, a < x → c < n → badAt n L a c = false) ∧
    Lm wr b n L (opp L) (part n (jn n L) x 0) (part n (mt n L) x 0) ∧ w.grownBy wr (some b))
  case atStart => exact ⟨0, by omega, rfl, rfl, fun a c ha _ => absurd ha (by omega), HM.out, only_refl _ _⟩
  case round =>
    obtain ⟨x, hx, rfl, rfl, hbad, hm, hg⟩ := hrel
    have hn1 := hm.cn
    have HB1 := Lib.hid hbad
    have HM1 := Lib.hid hm
    have HG1 := Lib.hid hg
    clear hbad hm hg
    cases gk with
    | zero =>
      have hxn : ¬ ((x : Int) < (n : Int)) := by omega
      obtain rfl : x = n := by omega
      have HY := Lib.hid (isLat_yes (n := x) HB1.out)
      go_wp2
      first | rw [Exit.noGoto_ret] | skip
      go_ret
      exact ⟨ret_bool HY.out.symm, HG1.out, fun _ => HM1.out.congr (fun _ _ _ _ => rfl) (fun _ _ _ _ => rfl) (fun i j _ _ => part_end _ _ i j) (fun i j _ _ => part_end _ _ i j)⟩
    | succ g =>
      have hxn : (x : Int) < (n : Int) := by omega
      go_wp2
      clear hn1
      obtain ⟨wo, hwo⟩ : ∃ wo : World, wo = wr := ⟨_, rfl⟩
      subst hwo
      go_loopg [3, 18] n (fun g ok i wr => ∃ y : Nat, y + g = n ∧ ok = .bool true ∧ i = .int .i64 y ∧ (∀ c, c < y → badAt n L x c = false) ∧
        Lm wr b n L (opp L) (part n (jn n L) x y) (part n (mt n L) x y) ∧ w.grownBy wr (some b))
      case atStart => exact ⟨0, by omega, rfl, rfl, fun c hc => absurd hc (by omega), HM1.out, HG1.out⟩
      case round =>
        obtain ⟨y, hy, rfl, rfl, hbad, hm, hg⟩ := hrel
        have hn1 := hm.cn
        have HB2 := Lib.hid hbad
        have HM2 := Lib.hid hm
        have HG2 := Lib.hid hg
        clear hbad
        cases gk with
        | zero =>
          have hyn : ¬ ((y : Int) < (n : Int)) := by omega
          clear hm hg
          obtain rfl : y = n := by omega
          go_wp2
          go_roundg g
          case measure => omega
          case rel =>
            refine ⟨x + 1, by omega, rfl, by go_num, fun a c ha hc => ?_, HM2.out.congr (fun _ _ _ _ => rfl) (fun _ _ _ _ => rfl) (fun i j _ _ => part_next _ _ _ i j) (fun i j _ _ => part_next _ _ _ i j), HG2.out⟩
            by_cases e : a = x
            · subst e; exact HB2.out c hc
            · exact HB1.out a c (by omega) hc
        | succ g2 =>
          have hyn : (y : Int) < (n : Int) := by omega
          have hx8 : (x : Int) < 8 := by omega
          have hy8 : (y : Int) < 8 := by omega
          have ux := hm.cu x (by omega)
          have uy := hm.cu y (by omega)
          have dx := hm.cd x (by omega)
          have dy := hm.cd y (by omega)
          have fj := hm.fz (17 + x * 8 + y) (by omega)
          have fm := hm.fz (81 + x * 8 + y) (by omega)
          have oj := hm.cj x y (by omega) (by omega)
          have om := hm.cm x y (by omega) (by omega)
          have cL := least_any b 1 (fun c => L x c && L y c) L wr.drew (fun i hi => hm.cu i hi)
          rw [← and_u8, leastOf_jn h8 HD.out] at cL
          have CL := Lib.hid (cL.mono fun e w' ⟨h1, h2⟩ => (⟨h1, h2.symm⟩ : _ ∧ w' = wr.drew))
          have HM3 := Lib.hid (((hm.setJ (show x < 8 by omega) (show y < 8 by omega) (jn n L x y)).congr (fun _ _ _ _ => rfl) (fun _ _ _ _ => rfl) (fun i j _ _ => part_step n (jn n L) x y (by omega) (by omega) i j) (fun _ _ _ _ => rfl)).drew)
          have HG3 := Lib.hid (only_drew (only_set (o := 17 + x * 8 + y) hg (.int .i8 (jn n L x y))))
          clear cL hm hg
          go_wp2
          refine wp_region_still_tail 24 (by kernel_rfl) (by kernel_rfl) ?_
          simp only [List.take_succ_cons, List.take_zero, List.drop_succ_cons, List.drop_zero]
          change wpStill _ _ wr.drew (fun a' => wpList _ _ _ _ _ wr.drew) _ _
          repeat still_step
          still_call CL.out
          repeat still_step
          refine wpStill_nil ?_
          clear CL
          go_wp2
          clear ux uy dx dy fj fm oj om hn1
          generalize hW1 : (wr.setCell ⟨b, 17 + x * 8 + y, none⟩ (.int .i8 (jn n L x y))).drew = W1 at *
          clear hW1
          have hm := HM3.out
          have hg := HG3.out
          have hn1 := hm.cn
          have dx := hm.cd x (by omega)
          have dy := hm.cd y (by omega)
          have fm := hm.fz (81 + x * 8 + y) (by omega)
          have om := hm.cm x y (by omega) (by omega)
          have cL := least_any b 9 (fun c => opp L x c && opp L y c) (opp L) W1.drew (fun i hi => hm.cd i hi)
          rw [← and_u8, leastOf_mt h8 HD.out] at cL
          have CL := Lib.hid (cL.mono fun e w' ⟨h1, h2⟩ => (⟨h1, h2.symm⟩ : _ ∧ w' = W1.drew))
          have HM4 := Lib.hid (((hm.setM (show x < 8 by omega) (show y < 8 by omega) (mt n L x y)).congr (fun _ _ _ _ => rfl) (fun _ _ _ _ => rfl) (fun _ _ _ _ => rfl) (fun i j _ _ => part_step n (mt n L) x y (by omega) (by omega) i j)).drew)
          have HG4 := Lib.hid (only_drew (only_set (o := 81 + x * 8 + y) hg (.int .i8 (mt n L x y))))
          clear cL hm hg
          refine wp_region_still_tail 24 (by kernel_rfl) (by kernel_rfl) ?_
          simp only [List.take_succ_cons, List.take_zero, List.drop_succ_cons, List.drop_zero]
          change wpStill _ _ W1.drew (fun a' => wpList _ _ _ _ _ W1.drew) _ _
          repeat still_step
          still_call CL.out
          repeat still_step
          refine wpStill_nil ?_
          clear CL
          go_upto_region 10 with (fail)
          clear dx dy fm om hn1
          generalize hW2 : (W1.setCell ⟨b, 81 + x * 8 + y, none⟩ (.int .i8 (mt n L x y))).drew = W2 at *
          clear hW2
          have hm := HM4.out
          have ux := hm.cu x (by omega)
          have uy := hm.cu y (by omega)
          have cj := hm.cj x y (by omega) (by omega)
          have cm := hm.cm x y (by omega) (by omega)
          rw [part_at n (jn n L) (by omega) (by omega)] at cj
          rw [part_at n (mt n L) (by omega) (by omega)] at cm
          have bxy := bit_u8 (L x) y (by omega)
          have byx := bit_u8 (L y) x (by omega)
          obtain ⟨j1, j2⟩ := jn_range n L x y h8
          obtain ⟨m1, m2⟩ := jn_range n (opp L) x y h8
          have hbadxy : badAt n L x y = ((x != y && L x y && L y x) || decide (jn n L x y < 0) || decide (mt n L x y < 0)) := rfl
          have HBX := Lib.hid hbadxy
          change -1 ≤ mt n L x y at m1
          change mt n L x y ≤ 7 at m2
          clear hm hbadxy
          generalize jn n L x y = jv at *
          generalize mt n L x y = mv at *
          generalize L x y = p at *
          generalize L y x = q at *
          obtain ⟨tw, htw⟩ : ∃ tw, (x != y && p && q) = tw := ⟨_, rfl⟩
          have HTW := Lib.hid htw
          rw [htw] at HBX
          clear htw
          go_cut [6] (fun v wz => v = .bool tw ∧ wz = W2)
          case first =>
            clear cj cm
            by_cases e : x = y
            · have e1 : ((x : Int) != (y : Int)) = false := by simp [e]
              have ht : tw = false := by have := HTW.out; simp [e] at this; exact this
              have HT := Lib.hid ht
              clear ht e ux uy bxy byx
              go_wp2
              go_meet
              case rel => exact ⟨by rw [HT.out], rfl⟩
            · have e1 : ((x : Int) != (y : Int)) = true := by simp; omega
              have e3 : (x != y) = true := by simpa using e
              have ht : tw = (p && q) := by have := HTW.out; rw [e3] at this; simpa using this.symm
              clear e3
              have HT := Lib.hid ht
              clear ht
              cases p with
              | false =>
                go_wp2
                go_meet
                case rel => exact ⟨by rw [HT.out]; rfl, rfl⟩
              | true =>
                go_wp2
                go_meet
                case rel => exact ⟨by rw [HT.out]; rfl, rfl⟩
          case rest =>
            obtain ⟨rfl, rfl⟩ := hcut
            clear ux uy bxy byx
            cases tw with
            | true =>
              have HN := Lib.hid (isLat_no (show x < n by omega) (show y < n by omega) HBX.out)
              clear cj cm
              go_wp2
              first | rw [Exit.noGoto_ret] | skip
              go_ret
              exact ⟨ret_bool HN.out.symm, HG4.out, fun h => absurd (HN.out.symm.trans h) (by simp)⟩
            | false =>
              by_cases hj : jv < 0
              · have HN := Lib.hid (isLat_no (show x < n by omega) (show y < n by omega) (HBX.out.trans (by simp [hj])))
                have hj2 : decide (0 ≤ jv) = false := by simp; omega
                go_wp2
                first | rw [Exit.noGoto_ret] | skip
                go_ret
                exact ⟨ret_bool HN.out.symm, HG4.out, fun h => absurd (HN.out.symm.trans h) (by simp)⟩
              · have hj2 : decide (0 ≤ jv) = true := by simp; omega
                by_cases hk : mv < 0
                · have HN := Lib.hid (isLat_no (show x < n by omega) (show y < n by omega) (HBX.out.trans (by simp [hk])))
                  have hk2 : decide (0 ≤ mv) = false := by simp; omega
                  go_wp2
                  first | rw [Exit.noGoto_ret] | skip
                  go_ret
                  exact ⟨ret_bool HN.out.symm, HG4.out, fun h => absurd (HN.out.symm.trans h) (by simp)⟩
                · have HN := Lib.hid (HBX.out.trans (show (false || decide (jv < 0) || decide (mv < 0)) = false by simp; omega))
                  have hk2 : decide (0 ≤ mv) = true := by simp; omega
                  go_wp2
                  go_roundg g2
                  case measure => omega
                  case rel =>
                    refine ⟨y + 1, by omega, rfl, by go_num, fun c hc => ?_, HM4.out, HG4.out⟩
                    by_cases e : c = y
                    · subst e; exact HN.out
                    · exact HB2.out c (by omega)
end Go.Proofs.YtppmkehdhpgdcaaGreat
