/- close: the order is closed, and turned round. -/
import Derived.Test.YtpikafadfailkaaLatMem
namespace Go.Proofs.Ytpikafadfailkaa
open Go.RowKit P

theorem dom_out {n : Nat} {R : Rel} (h : Dom n R) {x y : Nat} (hx : n ≤ x) : R x y = false := by
  cases e : R x y with
  | false => rfl
  | true => have := (h x y e).1; omega
theorem dom_out2 {n : Nat} {R : Rel} (h : Dom n R) {x y : Nat} (hy : n ≤ y) : R x y = false := by
  cases e : R x y with
  | false => rfl
  | true => have := (h x y e).2; omega
theorem viaTo_end {R : Rel} {n : Nat} (k : Nat) (hz : Dom n R) (i j : Nat) : viaTo R k n i j = via R k i j := by
  unfold viaTo
  by_cases h : i < n
  · rw [if_pos h]
  · rw [if_neg h]; simp [via, dom_out hz (show n ≤ i by omega)]

/-- the rows down, so far: of the a's below x all, of x itself those below y -/
def dn (R : Rel) (x y : Nat) : Rel := fun i a => (decide (a < x) || (decide (a = x) && decide (i < y))) && R a i

theorem dn_start (R : Rel) (i a : Nat) : dn R 0 0 i a = false := by simp [dn]
theorem dn_yes (R : Rel) (x y i a : Nat) (h : R x y = true) : upd (dn R x y) y (fun a => dn R x y y a || a == x) i a = dn R x (y + 1) i a := by
  unfold upd dn
  by_cases e : i = y
  · subst e
    by_cases e2 : a = x
    · subst e2; simp [h]
    · simp [e2]
  · by_cases e2 : a = x
    · subst e2
      have : (i < y + 1) = (i < y) := by simp; omega
      simp [e, this]
    · simp [e, e2]
theorem dn_no (R : Rel) (x y i a : Nat) (h : R x y = false) : dn R x y i a = dn R x (y + 1) i a := by
  unfold dn
  by_cases e2 : a = x
  · subst e2
    by_cases e : i = y
    · subst e; simp [h]
    · have : (i < y + 1) = (i < y) := by simp; omega
      simp [this]
  · simp [e2]
theorem dn_next {R : Rel} {n : Nat} (x i a : Nat) (hz : Dom n R) : dn R x n i a = dn R (x + 1) 0 i a := by
  unfold dn
  by_cases e2 : a = x
  · subst e2
    by_cases e : i < n
    · simp [e]
    · simp [e, dom_out2 hz (show n ≤ i by omega)]
  · have : (a < x + 1) = (a < x) := by simp; omega
    simp [e2, this]
theorem dn_end {R : Rel} {n : Nat} (i a : Nat) (hz : Dom n R) : dn R n 0 i a = R a i := by
  unfold dn
  by_cases e : a < n
  · simp [e]
  · simp [e, dom_out hz (show n ≤ a by omega)]

theorem pow_mod (x : Nat) (h : x < 8) : ((2 : Int) ^ x % 256) = 2 ^ x := by
  match x, h with
  | 0, _ | 1, _ | 2, _ | 3, _ | 4, _ | 5, _ | 6, _ | 7, _ => rfl

set_option maxHeartbeats 4000000 in
theorem close_any (b n : Nat) (R : Rel) (J M : Nat → Nat → Int) (w : World) (h8 : n ≤ 8) (hz : Dom n R)
    (hm : Lm w b n R (fun _ _ => false) J M) :
    Calls Try.prog 51 #[.pointer (some ⟨b, 0, none⟩)] w fun e w' => e = .returned (.tuple #[]) ∧ Lm w' b n (clo R n) (fun i a => clo R n a i) J M ∧ w.grownBy w' (some b) := by
  have hn0 := hm.cn
  have HM := Lib.hid hm
  have HZ := Lib.hid (fun k => clo_dom hz k)
  clear hm hz
  go_enter Try.func51, Try.ntmps51
  go_wp2
  clear hn0
  go_loopw [10] (fun i wr => ∃ k : Nat, k ≤ n ∧ i = .int .i64 k ∧ Lm wr b n (clo R k) (fun _ _ => false) J M ∧ w.grownBy wr (some b))
    (fun i _ => n - (intOf i).toNat)
  case atStart => exact ⟨0, by omega, rfl, HM.out, only_refl _ _⟩
  case round =>
    obtain ⟨k, hk, rfl, hm, hg⟩ := hrel
    have hn1 := hm.cn
    have HM1 := Lib.hid hm
    have HG1 := Lib.hid hg
    clear hm hg
    by_cases hlt : k < n
    · go_wp2
      clear hn1
      obtain ⟨wo, hwo⟩ : ∃ wo : World, wo = wr := ⟨_, rfl⟩
      subst hwo
      go_loopw [17] (fun i wr => ∃ a : Nat, a ≤ n ∧ i = .int .i64 a ∧ Lm wr b n (viaTo (clo R k) k a) (fun _ _ => false) J M ∧ w.grownBy wr (some b))
        (fun i _ => n - (intOf i).toNat)
      case atStart => exact ⟨0, by omega, rfl, by rw [viaTo_zero]; exact HM1.out, HG1.out⟩
      case round =>
        obtain ⟨a, ha, rfl, hm, hg⟩ := hrel
        have hn1 := hm.cn
        have HM2 := Lib.hid hm
        have HG2 := Lib.hid hg
        by_cases hla : a < n
        · have ca := hm.cu a (by omega)
          rw [viaTo_here] at ca
          have ck := hm.cu k (by omega)
          rw [mask_ext (fun y _ => viaTo_k (clo R k) k a y)] at ck
          have fa := hm.fz (1 + a) (by omega)
          have hi8 : (a : Int) < 8 := by omega
          have hk8 : (k : Int) < 8 := by omega
          clear hm hg
          have hbit := bit_u8 (clo R k a) k (by omega)
          cases hb : clo R k a k with
          | true =>
            rw [hb] at hbit
            go_wp2
            go_region
            all_goals go_wp2
            all_goals go_roundw
            case rel =>
              refine ⟨a + 1, by omega, by go_num, ?_, only_drew (only_set HG2.out _)⟩
              rw [or_u8]
              exact ((HM2.out.setU (show a < 8 by omega) _).congr (fun i j _ _ => viaTo_yes _ _ _ _ _ hb) (fun _ _ _ _ => rfl) (fun _ _ _ _ => rfl) (fun _ _ _ _ => rfl)).drew
            case measure => simp [intOf]; omega
          | false =>
            rw [hb] at hbit
            go_wp2
            go_roundw
            case rel =>
              exact ⟨a + 1, by omega, by go_num, HM2.out.congr (fun i j _ _ => viaTo_no _ _ _ _ _ hb) (fun _ _ _ _ => rfl) (fun _ _ _ _ => rfl) (fun _ _ _ _ => rfl), HG2.out⟩
            case measure => simp [intOf]; omega
        · clear hm hg
          go_wp2
          go_roundw
          case rel =>
            obtain rfl : a = n := by omega
            exact ⟨k + 1, by omega, by go_num, HM2.out.congr (fun i j _ _ => viaTo_end k (HZ.out k) _ _) (fun _ _ _ _ => rfl) (fun _ _ _ _ => rfl) (fun _ _ _ _ => rfl), HG2.out⟩
          case measure => simp [intOf]; omega
    · obtain rfl : k = n := by omega
      have HM2 := Lib.hid (HM1.out.congr (fun _ _ _ _ => rfl) (fun i j _ _ => (dn_start (clo R k) i j).symm) (fun _ _ _ _ => rfl) (fun _ _ _ _ => rfl))
      go_wp2
      clear hn1
      obtain ⟨wo, hwo⟩ : ∃ wo : World, wo = wr := ⟨_, rfl⟩
      subst hwo
      go_loopw [52] (fun i wr => ∃ x : Nat, x ≤ k ∧ i = .int .i64 x ∧ Lm wr b k (clo R k) (dn (clo R k) x 0) J M ∧ w.grownBy wr (some b))
        (fun i _ => k - (intOf i).toNat)
      case atStart => exact ⟨0, by omega, rfl, HM2.out, HG1.out⟩
      case round =>
        obtain ⟨x, hx, rfl, hm, hg⟩ := hrel
        have hn1 := hm.cn
        have HM3 := Lib.hid hm
        have HG3 := Lib.hid hg
        clear hm hg
        by_cases hlx : x < k
        · go_wp2
          clear hn1
          obtain ⟨wo, hwo⟩ : ∃ wo : World, wo = wr := ⟨_, rfl⟩
          subst hwo
          go_loopw [59] (fun i wr => ∃ y : Nat, y ≤ k ∧ i = .int .i64 y ∧ Lm wr b k (clo R k) (dn (clo R k) x y) J M ∧ w.grownBy wr (some b))
            (fun i _ => k - (intOf i).toNat)
          case atStart => exact ⟨0, by omega, rfl, HM3.out, HG3.out⟩
          case round =>
            obtain ⟨y, hy, rfl, hm, hg⟩ := hrel
            have hn1 := hm.cn
            have HM4 := Lib.hid hm
            have HG4 := Lib.hid hg
            by_cases hly : y < k
            · have ca := hm.cu x (by omega)
              have cd := hm.cd y (by omega)
              have fa := hm.fz (9 + y) (by omega)
              have hi8 : (x : Int) < 8 := by omega
              have hk8 : (y : Int) < 8 := by omega
              clear hm hg
              have hbit := bit_u8 (clo R k x) y (by omega)
              cases hb : clo R k x y with
              | true =>
                rw [hb] at hbit
                go_wp2
                go_region
                all_goals go_wp2
                all_goals go_roundw
                case rel =>
                  refine ⟨y + 1, by omega, by go_num, ?_, only_drew (only_set HG4.out _)⟩
                  rw [pow_mod x (by omega), or1_u8 _ x (by omega)]
                  exact ((HM4.out.setD (show y < 8 by omega) _).congr (fun _ _ _ _ => rfl) (fun i j _ _ => dn_yes _ _ _ _ _ hb) (fun _ _ _ _ => rfl) (fun _ _ _ _ => rfl)).drew
                case measure => simp [intOf]; omega
              | false =>
                rw [hb] at hbit
                go_wp2
                go_roundw
                case rel =>
                  exact ⟨y + 1, by omega, by go_num, HM4.out.congr (fun _ _ _ _ => rfl) (fun i j _ _ => dn_no _ _ _ _ _ hb) (fun _ _ _ _ => rfl) (fun _ _ _ _ => rfl), HG4.out⟩
                case measure => simp [intOf]; omega
            · clear hm hg
              go_wp2
              go_roundw
              case rel =>
                obtain rfl : y = k := by omega
                exact ⟨x + 1, by omega, by go_num, HM4.out.congr (fun _ _ _ _ => rfl) (fun i j _ _ => dn_next _ _ _ (HZ.out y)) (fun _ _ _ _ => rfl) (fun _ _ _ _ => rfl), HG4.out⟩
              case measure => simp [intOf]; omega
        · go_wp2
          go_end0
          obtain rfl : x = k := by omega
          exact ⟨rfl, HM3.out.congr (fun _ _ _ _ => rfl) (fun i j _ _ => dn_end _ _ (HZ.out x)) (fun _ _ _ _ => rfl) (fun _ _ _ _ => rfl), HG3.out⟩

end Go.Proofs.Ytpikafadfailkaa
