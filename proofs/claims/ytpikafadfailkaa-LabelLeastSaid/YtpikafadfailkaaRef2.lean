/- The reference's Meet; Leq. -/
import Derived.Test.YtpikafadfailkaaRef
namespace Go.Proofs.Ytpikafadfailkaa
open Go.RowKit P

set_option maxHeartbeats 4000000 in
set_option maxRecDepth 100000 in
theorem rmeet_any (n : Nat) (L : Rel) (a b : Nat) (w : World) (h8 : n ≤ 8) (ha : a < 8) (hb : b < 8) :
    Calls Try.prog 28 #[.agg (rv n L), .int .i64 a, .int .i64 b] w fun e w' => e = .returned (.int .i64 (mt n L a b)) ∧ Below w.heap.size w w' := by
  have HM := Lib.hid (Rm.new w n L 27)
  have HB := Lib.hid ((Below.refl w.heap.size w).alloc (Nat.le_refl _) (.cells (rv n L) 27))
  go_enter Try.func28, Try.ntmps28
  go_wp2
  generalize w.alloc (.cells (rv n L) 27) = W at *
  go_loopg [7] n (fun g i wr => ∃ x : Nat, x + g = n ∧ i = .int .i64 x ∧ wr = W ∧ ∀ c, c < x → isLub n (opp L) a b c = false)
  case atStart => exact ⟨0, by omega, rfl, rfl, fun c hc => absurd hc (by omega)⟩
  case round =>
    obtain ⟨x, hx, rfl, rfl, hno⟩ := hrel
    have HN := Lib.hid hno
    have hn := HM.out.cn
    clear hno
    cases gk with
    | zero =>
      have hge : ¬ ((x : Int) < (n : Int)) := by omega
      go_wp2
      go_ret
      refine ⟨ret_int (k := .i64) ?_, HB.out⟩
      exact (firstN_miss fun c hc => HN.out c (by omega)).symm
    | succ g =>
      have hlt : (x : Int) < (n : Int) := by omega
      have hx8 : (x : Int) < 8 := by omega
      have ha8 : (a : Int) < 8 := by omega
      have hb8 : (b : Int) < 8 := by omega
      have cax := HM.out.cl x a (by omega) ha
      have cbx := HM.out.cl x b (by omega) hb
      cases hax : L x a with
      | false =>
        rw [hax] at cax
        have HNO : Hid (isLub n (opp L) a b x = false) := by unfold isLub opp; rw [hax]; rfl
        clear hax
        go_wp2
        go_roundg g
        case measure => omega
        case rel =>
          refine ⟨x + 1, by omega, by go_num, rfl, fun c hc => ?_⟩
          by_cases e : c = x
          · subst e; exact HNO.out
          · exact HN.out c (by omega)
      | true =>
        rw [hax] at cax
        cases hbx : L x b with
        | false =>
          rw [hbx] at cbx
          have HNO : Hid (isLub n (opp L) a b x = false) := by unfold isLub opp; rw [hax, hbx]; rfl
          clear hax hbx
          go_wp2
          go_roundg g
          case measure => omega
          case rel =>
            refine ⟨x + 1, by omega, by go_num, rfl, fun c hc => ?_⟩
            by_cases e : c = x
            · subst e; exact HNO.out
            · exact HN.out c (by omega)
        | true =>
          rw [hbx] at cbx
          have HLU : Hid (isLub n (opp L) a b x = allN n (fun d => !(L d a && L d b && !L d x))) := by unfold isLub opp; rw [hax, hbx]; rfl
          clear hax hbx
          go_wp2
          obtain ⟨V, hV⟩ : ∃ V : World, V = wr := ⟨_, rfl⟩
          subst hV
          go_loopg [8, 9] n (fun g l i wr => ∃ y : Nat, y + g = n ∧ i = .int .i64 y ∧ wr = V ∧ l = .bool (allN y (fun d => !(L d a && L d b && !L d x))))
          case atStart => exact ⟨0, by omega, rfl, rfl, rfl⟩
          case round =>
            obtain ⟨y, hy, rfl, rfl, rfl⟩ := hrel
            have hn := HM.out.cn
            cases gk with
            | zero =>
              have hge : ¬ ((y : Int) < (n : Int)) := by omega
              obtain rfl : y = n := by omega
              cases hall : allN y (fun d => !(L d a && L d b && !L d x)) with
              | false =>
                have HNO := Lib.hid (HLU.out.trans hall)
                clear hall
                go_wp2
                go_roundg g
                case measure => omega
                case rel =>
                  refine ⟨x + 1, by omega, by go_num, rfl, fun c hc => ?_⟩
                  by_cases e : c = x
                  · subst e; exact HNO.out
                  · exact HN.out c (by omega)
              | true =>
                have HYES := Lib.hid (HLU.out.trans hall)
                clear hall
                go_wp2
                go_ret
                exact ⟨ret_int (k := .i64) (firstN_hit (by omega) HYES.out HN.out).symm, HB.out⟩
            | succ g2 =>
              have hlt2 : (y : Int) < (n : Int) := by omega
              have hy8 : (y : Int) < 8 := by omega
              have cay := HM.out.cl y a (by omega) ha
              have cby := HM.out.cl y b (by omega) hb
              have cxy := HM.out.cl y x (by omega) (by omega)
              have HS := Lib.hid (allN_succ y (fun d => !(L d a && L d b && !L d x)))
              generalize L y a = p at *
              generalize L y b = q at *
              generalize L y x = r at *
              generalize allN y (fun d => !(L d a && L d b && !L d x)) = l at *
              clear cax cbx
              cases p with
              | false =>
                go_wp2
                go_roundg g2
                case measure => omega
                case rel => exact ⟨y + 1, by omega, by go_num, rfl, by rw [HS.out]; simp⟩
              | true =>
                cases q with
                | false =>
                  go_wp2
                  go_roundg g2
                  case measure => omega
                  case rel => exact ⟨y + 1, by omega, by go_num, rfl, by rw [HS.out]; simp⟩
                | true =>
                  cases r with
                  | false =>
                    go_wp2
                    go_roundg g2
                    case measure => omega
                    case rel => exact ⟨y + 1, by omega, by go_num, rfl, by rw [HS.out]; simp⟩
                  | true =>
                    go_wp2
                    go_roundg g2
                    case measure => omega
                    case rel => exact ⟨y + 1, by omega, by go_num, rfl, by rw [HS.out]; simp⟩

theorem wl_rload {ops : Array Oper} {rest : List Oper} {o : Oper} {a : Act} {w : World} {Q : Exit → Act → World → Prop} (x : Operand) (ho : o.op = .load 27 x)
    (hw : Region.wanted o (yielded ops a.tmps) = true) (b n : Nat) (L : Rel) (hx : a.eval x = .pointer (some ⟨b, 0, none⟩)) (hm : Rm w b n L)
    (h : wpList Try.prog ops Q rest (a.put o.dst (.agg (rv n L))) w) : wpList Try.prog ops Q (o :: rest) a w :=
  wpList_step fun K hK => by
    rw [if_pos hw]
    exact wp_load_mid 27 x ho b 0 hx (rl n L) _ hm.range Try.underlying27 rfl (by rw [rl_len]; kernel_rfl) (hK _ _ h)

set_option maxHeartbeats 1000000 in
theorem rleq_any (n : Nat) (L : Rel) (a b : Int) (w : World) (h8 : n ≤ 8) :
    Calls Try.prog 29 #[.agg (rv n L), .int .i64 a, .int .i64 b] w fun e w' => e = .returned (.bool (lqI n L a b)) ∧ Below w.heap.size w w' := by
  have HM := Lib.hid (Rm.new w n L 27)
  have HB := Lib.hid ((Below.refl w.heap.size w).alloc (Nat.le_refl _) (.cells (rv n L) 27))
  have HS : w.heap.size < (w.alloc (.cells (rv n L) 27)).heap.size := by simp
  cases ha : isL n a with
  | false =>
    have HE : Hid (lqI n L a b = false) := by unfold lqI; rw [ha]; rfl
    have HA := Lib.hid ha
    clear ha
    go_enter Try.func29, Try.ntmps29
    go_wp2_with (first | (go_at_call 17; refine (ris_any _ _ _ _).mono ?_; rintro e w1 ⟨rfl, hb⟩; rw [HA.out]; have HB1 := Lib.hid hb; clear hb) | (refine wl_rload _ rfl (by simp [Region.wanted]) w.heap.size n L rfl HM.out ?_))
    go_ret
    exact ⟨ret_bool HE.out.symm, HB.out.trans (HB1.out.mono (by omega))⟩
  | true =>
    have HA := Lib.hid ha
    cases hb : isL n b with
    | false =>
      have HE : Hid (lqI n L a b = false) := by unfold lqI; rw [ha, hb]; rfl
      have HBF := Lib.hid hb
      clear ha hb
      go_enter Try.func29, Try.ntmps29
      go_wp2_with (first | (refine wl_rload _ rfl (by simp [Region.wanted]) w.heap.size n L rfl HM.out ?_) | (go_at_call 17; refine (ris_any _ _ _ _).mono ?_; rintro e w1 ⟨rfl, hb⟩; rw [HA.out]; have HB1 := Lib.hid hb; have HM1 := Lib.hid (HM.out.below hb HS); clear hb HA) | (refine wl_rload _ rfl (by go_simp) w.heap.size n L rfl HM1.out ?_) | (go_at_call 17; refine (ris_any _ _ _ _).mono ?_; rintro e w2 ⟨rfl, hb⟩; rw [HBF.out]; have HB2 := Lib.hid hb; clear hb))
      go_ret
      exact ⟨ret_bool HE.out.symm, (HB.out.trans (HB1.out.mono (by omega))).trans (HB2.out.mono (by have := HB1.out.size; omega))⟩
    | true =>
      have HBF := Lib.hid hb
      obtain ⟨x, rfl, hx⟩ := isL_true ha
      obtain ⟨y, rfl, hy⟩ := isL_true hb
      have hE : lqI n L x y = L x y := by unfold lqI; rw [ha, hb]; simp
      have HE := Lib.hid hE
      clear hE
      clear ha hb
      have hx8 : (x : Int) < 8 := by omega
      have hy8 : (y : Int) < 8 := by omega
      go_enter Try.func29, Try.ntmps29
      go_wp2_with (first | (refine wl_rload _ rfl (by simp [Region.wanted]) w.heap.size n L rfl HM.out ?_) | (go_at_call 17; refine (ris_any _ _ _ _).mono ?_; rintro e w1 ⟨rfl, hb⟩; rw [HA.out]; have HB1 := Lib.hid hb; have HM1 := Lib.hid (HM.out.below hb HS); clear hb HA) | (refine wl_rload _ rfl (by go_simp) w.heap.size n L rfl HM1.out ?_) | (go_at_call 17; refine (ris_any _ _ _ _).mono ?_; rintro e w2 ⟨rfl, hb⟩; rw [HBF.out]; have HB2 := Lib.hid hb; have cl := (HM1.out.below hb (by have := HB1.out.size; omega)).cl x y (by omega) (by omega); clear hb))
      go_ret
      exact ⟨ret_bool HE.out.symm, (HB.out.trans (HB1.out.mono (by omega))).trans (HB2.out.mono (by have := HB1.out.size; omega))⟩

end Go.Proofs.Ytpikafadfailkaa
