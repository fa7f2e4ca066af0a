/- Parts of a proof: R03, RName. -/
import Derived.Test.YtppmkehdhpgdcaaGreatPackP26
section
namespace Go.Proofs.YtppmkehdhpgdcaaGreat
open Go Go.RowKit
set_option linter.unusedVariables false
theorem cmpF_zero_iff (f : Nat) : cmpF f 0 = 0 ↔ f = 0 := by
  constructor
  · intro h
    have h0 : nanB 0 = false := by decide +kernel
    unfold cmpF at h
    rw [h0] at h
    by_cases hn : nanB f = true
    · rw [hn] at h; simp at h
    · have hn' : nanB f = false := by simpa using hn
      rw [hn'] at h
      simp only [ne_eq, not_true_eq_false, if_false, Bool.false_eq_true] at h
      by_cases hf : f = 0
      · exact hf
      · exfalso
        have hr0 : rankZ 0 = 0 := by unfold rankZ; simp
        rw [hr0] at h
        rcases hord : fOrd f 0 with _ | o
        · unfold nanB at hn'
          rw [ordB_eq] at hord hn'
          have ha : nanD (dat f) = 0 := by
            rw [nanB_eq] at *
            by_cases hd : nanD (dat f) = 0
            · exact hd
            · rw [order_nan _ _ (.inl hd)] at hn'; simp at hn'
          have hb : nanD (dat 0) = 0 := by have := nanB_eq 0; rw [h0] at this; simpa using this.symm
          obtain ⟨h1, h2, h3⟩ := order_cmp (dat f) (dat 0) (read_low f) (read_low 0) ha hb
          have h4 := cmpD_val (dat f) (dat 0)
          rw [hord] at h1 h2 h3
          simp at h1 h2 h3
          omega
        · have hz : rankZ f = if (fOrd f 0 == some .eq) = true then -1 else 0 := by unfold rankZ; simp [hf]
          rw [hord] at h hz
          cases o
          · simp at h
          · simp at hz; rw [hz] at h; simp at h
          · simp at h
  · rintro rfl
    exact cmpF_good.refl 0
def nanR (f : Nat) : Bool := decide (18437736874454810624 < IntKind.u64.wrap ((f : Int) * 2))
set_option maxHeartbeats 1000000 in
set_option maxRecDepth 100000 in
theorem rnan_any (f : Nat) (hf : f < 2 ^ 64) (w : World) : Calls Tryz.prog 80 #[.float .f64 f] w fun e w' => e = .returned (.bool (nanR f)) ∧ w' = w := by
  have e1 : ∀ W : World, (callFunc 103 #[.float .f64 f]).run Tryz.prog W = .ok (.value (.int .u64 f)) W := fun W => by
    rw [run_callFunc_extern Tryz.func103 (by kernel_rfl) (by kernel_rfl) (by kernel_rfl) (e := Extern.MathFloatBits.float64bits) (by kernel_rfl)]
    rfl
  go_enter Tryz.func80, Tryz.ntmps80
  go_wp2
  go_ret
  exact ⟨rfl, rfl⟩
def canR (f : Nat) : Nat := if nanR f = true then 9221120237041090560 else f
set_option maxHeartbeats 1000000 in
set_option maxRecDepth 100000 in
theorem rcanonf_any (f : Nat) (hf : f < 2 ^ 64) (w : World) : Calls Tryz.prog 107 #[.float .f64 f] w fun e w' => e = .returned (.float .f64 (canR f)) ∧ w' = w := by
  have e1 : ∀ W : World, (callFunc 137 #[.int .u64 9221120237041090560]).run Tryz.prog W = .ok (.value (.float .f64 9221120237041090560)) W := fun W => by
    rw [run_callFunc_extern Tryz.func137 (by kernel_rfl) (by kernel_rfl) (by kernel_rfl) (e := Extern.MathFloatBits.float64frombits) (by kernel_rfl)]
    rfl
  have HC := Lib.hid (fun w => rnan_any f hf w)
  clear hf
  cases hn : nanR f with
  | true =>
    have HV : Hid (canR f = 9221120237041090560) := Lib.hid (if_pos hn)
    rw [hn] at HC
    clear hn
    go_enter Tryz.func107, Tryz.ntmps107
    go_wp2_with (go_at_call 80; refine (HC.out _).mono ?_; rintro e z ⟨rfl, rfl⟩)
    go_ret
    exact ⟨congrArg (fun x => Ending.returned (.float .f64 x)) HV.out.symm, rfl⟩
  | false =>
    have HV : Hid (canR f = f) := Lib.hid (if_neg (by rw [hn]; decide))
    rw [hn] at HC
    clear hn
    go_enter Tryz.func107, Tryz.ntmps107
    go_wp2_with (go_at_call 80; refine (HC.out _).mono ?_; rintro e z ⟨rfl, rfl⟩)
    go_ret
    exact ⟨congrArg (fun x => Ending.returned (.float .f64 x)) HV.out.symm, rfl⟩
theorem can_zero {f : Nat} : canR f = 0 ↔ f = 0 := by
  unfold canR
  split
  · next h =>
    constructor
    · intro h2; omega
    · rintro rfl; revert h; decide +kernel
  · exact Iff.rfl
set_option maxHeartbeats 1000000 in
set_option maxRecDepth 100000 in
theorem rsame_zero (f : Nat) (hf : f < 2 ^ 64) (w : World) : Calls Tryz.prog 82 #[.float .f64 f, .float .f64 0] w fun e w' => e = .returned (.bool (cmpF f 0 == 0)) ∧ w' = w := by
  have HC := Lib.hid (fun w => rcanonf_any f hf w)
  have HZ := Lib.hid (fun w => rcanonf_any 0 (by decide) w)
  have hz : canR 0 = 0 := can_zero.2 rfl
  rw [hz] at HZ
  have HV : Hid ((cmpF f 0 == 0) = ((canR f : Int) == 0)) := Lib.hid (by
    have h1 := cmpF_zero_iff f
    have h2 := can_zero (f := f)
    by_cases h : f = 0
    · rw [h1.2 h, h2.2 h]; rfl
    · rw [beq_eq_false_iff_ne.2 fun h3 => h (h1.1 h3), beq_eq_false_iff_ne.2]
      intro h3; exact h (h2.1 (by omega)))
  clear hz hf
  generalize canR f = g at *
  have e1 : ∀ W : World, (callFunc 103 #[.float .f64 g]).run Tryz.prog W = .ok (.value (.int .u64 g)) W := fun W => by
    rw [run_callFunc_extern Tryz.func103 (by kernel_rfl) (by kernel_rfl) (by kernel_rfl) (e := Extern.MathFloatBits.float64bits) (by kernel_rfl)]
    rfl
  have e2 : ∀ W : World, (callFunc 103 #[.float .f64 0]).run Tryz.prog W = .ok (.value (.int .u64 0)) W := fun W => by
    rw [run_callFunc_extern Tryz.func103 (by kernel_rfl) (by kernel_rfl) (by kernel_rfl) (e := Extern.MathFloatBits.float64bits) (by kernel_rfl)]
    rfl
  go_enter Tryz.func82, Tryz.ntmps82
  go_wp2_with (first | (go_at_call 107; refine (HC.out _).mono ?_; rintro e z ⟨rfl, rfl⟩) | (go_at_call 107; refine (HZ.out _).mono ?_; rintro e z ⟨rfl, rfl⟩))
  go_ret
  exact ⟨ret_bool HV.out.symm, rfl⟩
set_option maxHeartbeats 1000000 in
theorem rzero_any (k n : Int) (f : Nat) (s : ByteArray) (vn vi : Value) (hf : f < 2 ^ 64) (w : World) : Calls Tryz.prog 135 #[.agg ⟨[.int .i64 k, .int .i64 n, .float .f64 f, .string s, vn, vi]⟩] w fun e w' => e = .returned (.bool (cmpF f 0 == 0)) ∧ Below w.heap.size w w' := by
  have HC := Lib.hid (fun w => rsame_zero f hf w)
  have HB1 := Lib.hid (box_below w (.cells ⟨[.int .i64 k, .int .i64 n, .float .f64 f, .string s, vn, vi]⟩ 27))
  clear hf
  go_enter Tryz.func135, Tryz.ntmps135
  go_wp2_with (go_at_call 82; refine (HC.out _).mono ?_; rintro e z ⟨rfl, rfl⟩)
  go_ret
  exact ⟨rfl, HB1.out⟩
end Go.Proofs.YtppmkehdhpgdcaaGreat
end
section
namespace Go.Proofs.YtppmkehdhpgdcaaGreat
open Go Go.RowKit
set_option linter.unusedVariables false
set_option linter.unusedSimpArgs false
theorem byte_at {s : ByteArray} {k : Nat} {c : UInt8} (h : s.data.toList[k]? = some c) (hk : k < s.size) : s[k]'hk = c := by
  have h2 : s.data[k]? = some c := by simpa using h
  obtain ⟨h3, h4⟩ := Array.getElem?_eq_some_iff.1 h2
  exact h4
set_option maxHeartbeats 1000000 in
set_option maxRecDepth 100000 in
theorem rname_any (s : ByteArray) (w : World) : Calls Tryz.prog 59 #[.string s] w fun e w' => e = .returned (.bool (nameB s)) ∧ w' = w := by
  have HN : Hid (nameB s = (decide (0 < s.size) && decide (s.size ≤ 30) && okFrom s.data.toList 0)) := Lib.hid rfl
  have HL : Hid (s.data.toList.length = s.size) := Lib.hid (by cases s; rfl)
  by_cases h0 : s.size = 0
  · have t1 : (s.size : Int) < 1 := by omega
    have HR : Hid (nameB s = false) := Lib.hid (by rw [HN.out, h0]; rfl)
    clear h0
    go_enter Tryz.func59, Tryz.ntmps59
    go_wp2
    go_ret
    exact ⟨ret_bool HR.out.symm, rfl⟩
  have t1 : ¬ ((s.size : Int) < 1) := by omega
  by_cases h1 : s.size ≤ 30
  · have t2 : ¬ ((30 : Int) < (s.size : Int)) := by omega
    have HR : Hid (nameB s = okFrom s.data.toList 0) := Lib.hid (by rw [HN.out, decide_eq_true (by omega), decide_eq_true h1]; rfl)
    have HS := Lib.hid (fun k c => okFrom_step (l := s.data.toList) (k := k) (c := c))
    have HE : Hid (∀ k, okFrom (s.data.toList.drop s.size) k = true) := Lib.hid fun k => by rw [List.drop_eq_nil_of_le (by rw [HL.out]; exact Nat.le_refl _)]; rfl
    have H0 : Hid (okFrom (s.data.toList.drop 0) 0 = okFrom s.data.toList 0) := Lib.hid rfl
    generalize okFrom s.data.toList 0 = res at *
    go_enter Tryz.func59, Tryz.ntmps59
    go_wp2
    go_loopg [3] s.size (fun q x u => ∃ k : Nat, k + q = s.size ∧ x = .int .i64 k ∧ u = w ∧ okFrom (s.data.toList.drop k) k = res)
    case atStart => exact ⟨0, by omega, rfl, rfl, H0.out⟩
    case round =>
      obtain ⟨k, hk, rfl, rfl, hres⟩ := hrel
      have HR2 := Lib.hid hres
      clear hres
      cases gk with
      | zero =>
        obtain rfl : k = s.size := by omega
        have hge : ¬ ((s.size : Int) < (s.size : Int)) := by omega
        have HV := Lib.hid (HR2.out.symm.trans (HE.out s.size))
        go_wp2
        go_ret
        exact ⟨ret_bool (HR.out.trans HV.out).symm, rfl⟩
      | succ q =>
        have hlt : (k : Int) < (s.size : Int) := by omega
        obtain ⟨c, hc⟩ : ∃ c, s.data.toList[k]? = some c := ⟨_, List.getElem?_eq_getElem (by rw [HL.out]; omega)⟩
        have dk := fun h => byte_at (k := k) (c := c) hc h
        have HKC := Lib.hid hc
        clear hc
        by_cases h97 : 97 ≤ c.toNat
        · have d97 : decide (97 ≤ c.toNat) = true := decide_eq_true (by omega)
          have f97 : 97 ≤ (c.toNat : Int) := by omega
          by_cases h122 : c.toNat ≤ 122
          · have d122 : decide (c.toNat ≤ 122) = true := decide_eq_true (by omega)
            have f122 : (c.toNat : Int) ≤ 122 := by omega
            have hok : okC k c = true := by unfold okC; simp only [d97, d122, Bool.true_and, Bool.and_true, Bool.or_true, Bool.true_or, Bool.false_or, Bool.or_false, Bool.and_false, Bool.false_and]
            have HV : Hid (res = okFrom (s.data.toList.drop (k + 1)) (k + 1)) := Lib.hid (HR2.out.symm.trans ((HS.out k c HKC.out).trans (by rw [hok]; exact Bool.true_and _)))
            clear hok
            go_wp2
            go_roundg q
            case measure => omega
            case rel => exact ⟨k + 1, by omega, by go_num, rfl, HV.out.symm⟩
          · have d122 : decide (c.toNat ≤ 122) = false := decide_eq_false (by omega)
            have f122 : ¬ ((c.toNat : Int) ≤ 122) := by omega
            by_cases hk0 : k = 0
            · subst hk0
              have dk0 : decide ((0 : Nat) < 0) = false := rfl
              have hok : okC 0 c = false := by unfold okC; simp only [d97, d122, dk0, Bool.true_and, Bool.and_true, Bool.or_true, Bool.true_or, Bool.false_or, Bool.or_false, Bool.and_false, Bool.false_and]
              have HV : Hid (res = false) := Lib.hid (HR2.out.symm.trans ((HS.out 0 c HKC.out).trans (by rw [hok]; exact Bool.false_and _)))
              clear hok
              go_wp2
              go_ret
              exact ⟨ret_bool (HR.out.trans HV.out).symm, rfl⟩
            · have dk0 : decide (0 < k) = true := decide_eq_true (by omega)
              have k0' : ((k : Int) == 0) = false := by rw [beq_eq_false_iff_ne]; omega
              have k0i : ¬ ((k : Int) = 0) := by omega
              by_cases h48 : 48 ≤ c.toNat
              · have d48 : decide (48 ≤ c.toNat) = true := decide_eq_true (by omega)
                have f48 : 48 ≤ (c.toNat : Int) := by omega
                by_cases h57 : c.toNat ≤ 57
                · have d57 : decide (c.toNat ≤ 57) = true := decide_eq_true (by omega)
                  have f57 : (c.toNat : Int) ≤ 57 := by omega
                  have hok : okC k c = true := by unfold okC; simp only [d97, d122, dk0, d48, d57, Bool.true_and, Bool.and_true, Bool.or_true, Bool.true_or, Bool.false_or, Bool.or_false, Bool.and_false, Bool.false_and]
                  have HV : Hid (res = okFrom (s.data.toList.drop (k + 1)) (k + 1)) := Lib.hid (HR2.out.symm.trans ((HS.out k c HKC.out).trans (by rw [hok]; exact Bool.true_and _)))
                  clear hok
                  go_wp2
                  go_roundg q
                  case measure => omega
                  case rel => exact ⟨k + 1, by omega, by go_num, rfl, HV.out.symm⟩
                · have d57 : decide (c.toNat ≤ 57) = false := decide_eq_false (by omega)
                  have f57 : ¬ ((c.toNat : Int) ≤ 57) := by omega
                  by_cases h95 : c.toNat = 95
                  · have e1 : (c.toNat == 95) = true := by simpa using h95
                    have e2 : ((c.toNat : Int) == 95) = true := by rw [beq_iff_eq]; omega
                    have e3 : ((c.toNat : Int) != 95) = false := by rw [h95]; rfl
                    have hok : okC k c = true := by unfold okC; simp only [d97, d122, dk0, d48, d57, e1, Bool.true_and, Bool.and_true, Bool.or_true, Bool.true_or, Bool.false_or, Bool.or_false, Bool.and_false, Bool.false_and]
                    have HV : Hid (res = okFrom (s.data.toList.drop (k + 1)) (k + 1)) := Lib.hid (HR2.out.symm.trans ((HS.out k c HKC.out).trans (by rw [hok]; exact Bool.true_and _)))
                    clear hok
                    go_wp2
                    go_roundg q
                    case measure => omega
                    case rel => exact ⟨k + 1, by omega, by go_num, rfl, HV.out.symm⟩
                  · have e1 : (c.toNat == 95) = false := by simpa using h95
                    have e2 : ((c.toNat : Int) == 95) = false := by rw [beq_eq_false_iff_ne]; omega
                    have e3 : ((c.toNat : Int) != 95) = true := by rw [bne_iff_ne]; omega
                    have hok : okC k c = false := by unfold okC; simp only [d97, d122, dk0, d48, d57, e1, Bool.true_and, Bool.and_true, Bool.or_true, Bool.true_or, Bool.false_or, Bool.or_false, Bool.and_false, Bool.false_and]
                    have HV : Hid (res = false) := Lib.hid (HR2.out.symm.trans ((HS.out k c HKC.out).trans (by rw [hok]; exact Bool.false_and _)))
                    clear hok
                    go_wp2
                    go_ret
                    exact ⟨ret_bool (HR.out.trans HV.out).symm, rfl⟩
              · have d48 : decide (48 ≤ c.toNat) = false := decide_eq_false (by omega)
                have f48 : ¬ (48 ≤ (c.toNat : Int)) := by omega
                have h95 : c.toNat ≠ 95 := by omega
                have e1 : (c.toNat == 95) = false := by simpa using h95
                have e2 : ((c.toNat : Int) == 95) = false := by rw [beq_eq_false_iff_ne]; omega
                have e3 : ((c.toNat : Int) != 95) = true := by rw [bne_iff_ne]; omega
                have hok : okC k c = false := by unfold okC; simp only [d97, d122, dk0, d48, e1, Bool.true_and, Bool.and_true, Bool.or_true, Bool.true_or, Bool.false_or, Bool.or_false, Bool.and_false, Bool.false_and]
                have HV : Hid (res = false) := Lib.hid (HR2.out.symm.trans ((HS.out k c HKC.out).trans (by rw [hok]; exact Bool.false_and _)))
                clear hok
                go_wp2
                go_ret
                exact ⟨ret_bool (HR.out.trans HV.out).symm, rfl⟩
        · have d97 : decide (97 ≤ c.toNat) = false := decide_eq_false (by omega)
          have f97 : ¬ (97 ≤ (c.toNat : Int)) := by omega
          by_cases hk0 : k = 0
          · subst hk0
            have dk0 : decide ((0 : Nat) < 0) = false := rfl
            have hok : okC 0 c = false := by unfold okC; simp only [d97, dk0, Bool.true_and, Bool.and_true, Bool.or_true, Bool.true_or, Bool.false_or, Bool.or_false, Bool.and_false, Bool.false_and]
            have HV : Hid (res = false) := Lib.hid (HR2.out.symm.trans ((HS.out 0 c HKC.out).trans (by rw [hok]; exact Bool.false_and _)))
            clear hok
            go_wp2
            go_ret
            exact ⟨ret_bool (HR.out.trans HV.out).symm, rfl⟩
          · have dk0 : decide (0 < k) = true := decide_eq_true (by omega)
            have k0' : ((k : Int) == 0) = false := by rw [beq_eq_false_iff_ne]; omega
            have k0i : ¬ ((k : Int) = 0) := by omega
            by_cases h48 : 48 ≤ c.toNat
            · have d48 : decide (48 ≤ c.toNat) = true := decide_eq_true (by omega)
              have f48 : 48 ≤ (c.toNat : Int) := by omega
              by_cases h57 : c.toNat ≤ 57
              · have d57 : decide (c.toNat ≤ 57) = true := decide_eq_true (by omega)
                have f57 : (c.toNat : Int) ≤ 57 := by omega
                have hok : okC k c = true := by unfold okC; simp only [d97, dk0, d48, d57, Bool.true_and, Bool.and_true, Bool.or_true, Bool.true_or, Bool.false_or, Bool.or_false, Bool.and_false, Bool.false_and]
                have HV : Hid (res = okFrom (s.data.toList.drop (k + 1)) (k + 1)) := Lib.hid (HR2.out.symm.trans ((HS.out k c HKC.out).trans (by rw [hok]; exact Bool.true_and _)))
                clear hok
                go_wp2
                go_roundg q
                case measure => omega
                case rel => exact ⟨k + 1, by omega, by go_num, rfl, HV.out.symm⟩
              · have d57 : decide (c.toNat ≤ 57) = false := decide_eq_false (by omega)
                have f57 : ¬ ((c.toNat : Int) ≤ 57) := by omega
                by_cases h95 : c.toNat = 95
                · have e1 : (c.toNat == 95) = true := by simpa using h95
                  have e2 : ((c.toNat : Int) == 95) = true := by rw [beq_iff_eq]; omega
                  have e3 : ((c.toNat : Int) != 95) = false := by rw [h95]; rfl
                  have hok : okC k c = true := by unfold okC; simp only [d97, dk0, d48, d57, e1, Bool.true_and, Bool.and_true, Bool.or_true, Bool.true_or, Bool.false_or, Bool.or_false, Bool.and_false, Bool.false_and]
                  have HV : Hid (res = okFrom (s.data.toList.drop (k + 1)) (k + 1)) := Lib.hid (HR2.out.symm.trans ((HS.out k c HKC.out).trans (by rw [hok]; exact Bool.true_and _)))
                  clear hok
                  go_wp2
                  go_roundg q
                  case measure => omega
                  case rel => exact ⟨k + 1, by omega, by go_num, rfl, HV.out.symm⟩
                · have e1 : (c.toNat == 95) = false := by simpa using h95
                  have e2 : ((c.toNat : Int) == 95) = false := by rw [beq_eq_false_iff_ne]; omega
                  have e3 : ((c.toNat : Int) != 95) = true := by rw [bne_iff_ne]; omega
                  have hok : okC k c = false := by unfold okC; simp only [d97, dk0, d48, d57, e1, Bool.true_and, Bool.and_true, Bool.or_true, Bool.true_or, Bool.false_or, Bool.or_false, Bool.and_false, Bool.false_and]
                  have HV : Hid (res = false) := Lib.hid (HR2.out.symm.trans ((HS.out k c HKC.out).trans (by rw [hok]; exact Bool.false_and _)))
                  clear hok
                  go_wp2
                  go_ret
                  exact ⟨ret_bool (HR.out.trans HV.out).symm, rfl⟩
            · have d48 : decide (48 ≤ c.toNat) = false := decide_eq_false (by omega)
              have f48 : ¬ (48 ≤ (c.toNat : Int)) := by omega
              have h95 : c.toNat ≠ 95 := by omega
              have e1 : (c.toNat == 95) = false := by simpa using h95
              have e2 : ((c.toNat : Int) == 95) = false := by rw [beq_eq_false_iff_ne]; omega
              have e3 : ((c.toNat : Int) != 95) = true := by rw [bne_iff_ne]; omega
              have hok : okC k c = false := by unfold okC; simp only [d97, dk0, d48, e1, Bool.true_and, Bool.and_true, Bool.or_true, Bool.true_or, Bool.false_or, Bool.or_false, Bool.and_false, Bool.false_and]
              have HV : Hid (res = false) := Lib.hid (HR2.out.symm.trans ((HS.out k c HKC.out).trans (by rw [hok]; exact Bool.false_and _)))
              clear hok
              go_wp2
              go_ret
              exact ⟨ret_bool (HR.out.trans HV.out).symm, rfl⟩
  · have t2 : (30 : Int) < (s.size : Int) := by omega
    have HR : Hid (nameB s = false) := Lib.hid (by rw [HN.out, decide_eq_false h1, Bool.and_false]; rfl)
    go_enter Tryz.func59, Tryz.ntmps59
    go_wp2
    go_ret
    exact ⟨ret_bool HR.out.symm, rfl⟩
set_option maxHeartbeats 1000000 in
set_option maxRecDepth 100000 in
theorem rnames_any (v : Value) (l : List ByteArray) (n : Nat) (w : World) (hv : SlAt w w.heap.size 1 StrR v l) :
    Calls Tryz.prog 136 #[v, .int .i64 n] w fun e w' => e = .returned (.bool (riseB none l && (l.length == n))) ∧ Below w.heap.size w w' := by
  obtain ⟨_, A, c, rfl, _⟩ := id hv
  obtain ⟨_, hl, ha⟩ := str_at hv
  have HA := Lib.hid ha
  have H1 := Lib.hid (fun s => rise_first (l := l) (s := s))
  have H2 := Lib.hid (fun k p s => rise_next (l := l) (k := k) (p := p) (s := s))
  have HE := Lib.hid (rise_end (l := l))
  have H0 : Hid (riseB (prevK l 0) (l.drop 0) = riseB none l) := Lib.hid rfl
  have hl2 : (l.length : Int) ≤ 9223372036854775807 := by omega
  have HT : Hid ((l.length == n) = ((l.length : Int) == (n : Int))) := Lib.hid (by
    by_cases h : l.length = n
    · subst h; simp
    · rw [beq_eq_false_iff_ne.2 h, beq_eq_false_iff_ne.2]; omega)
  clear ha hv
  generalize riseB none l = res at *
  go_enter Tryz.func136, Tryz.ntmps136
  go_wp2
  go_loopg [5] l.length (fun q x u => ∃ k : Nat, k + q = l.length ∧ x = .int .i64 k ∧ Below w.heap.size w u ∧ riseB (prevK l k) (l.drop k) = res)
  case atStart => exact ⟨0, by omega, rfl, Below.refl _ _, H0.out⟩
  case round =>
    obtain ⟨k, hk, rfl, hb, hres⟩ := hrel
    have HR := Lib.hid hres
    have HBK := Lib.hid hb
    clear hres hb
    cases gk with
    | zero =>
      obtain rfl : k = l.length := by omega
      have hge : ¬ ((l.length : Int) < (l.length : Int)) := by omega
      have HV := Lib.hid (HR.out.symm.trans HE.out)
      have HV2 : Hid ((res && (l.length == n)) = ((l.length : Int) == (n : Int))) := Lib.hid (by rw [HV.out, HT.out]; exact Bool.true_and _)
      clear HR
      go_wp2
      go_ret
      exact ⟨ret_bool HV2.out.symm, HBK.out⟩
    | succ q =>
      have hlt : (k : Int) < (l.length : Int) := by omega
      obtain ⟨s, hs⟩ : ∃ s, l[k]? = some s := ⟨_, List.getElem?_eq_getElem (by omega)⟩
      obtain ⟨b, o, rfl, hbl, hc⟩ := HA.out (by omega)
      have HCC := Lib.hid (fun i x hx => (hc i x hx).1)
      have HBL := Lib.hid hbl
      have ds := (HBK.out.cell (p := ⟨b, o + k, none⟩) hbl).trans (hc k s hs).1
      have HNM := Lib.hid (rname_any s)
      have HSK := Lib.hid hs
      clear hc hbl hs
      rcases Nat.eq_zero_or_pos k with hk0 | hk0
      · subst hk0
        have ds0 : wr.cell? ⟨b, o, none⟩ = some (.string s) := ds
        have hlt0 : (0 : Int) < (l.length : Int) := by omega
        have HV := Lib.hid (HR.out.symm.trans (H1.out s HSK.out))
        clear HR
        generalize nameB s = nb at *
        cases nb with
        | false =>
          have HV2 : Hid ((res && (l.length == n)) = false) := Lib.hid (by rw [HV.out, Bool.false_and, Bool.false_and])
          clear HV
          go_wp2
          go_quiet ((go_at_call 59; exact Calls.quiet_of_same ((HNM.out _).mono fun e w' h => ⟨h.1, h.2⟩)))
          go_wp2
          go_ret
          exact ⟨ret_bool HV2.out.symm, below_drewN HBK.out _⟩
        | true =>
          have HV2 := Lib.hid (HV.out.trans (Bool.true_and _))
          clear HV
          go_wp2
          go_quiet ((go_at_call 59; exact Calls.quiet_of_same ((HNM.out _).mono fun e w' h => ⟨h.1, h.2⟩)))
          go_wp2
          go_roundg q
          case measure => omega
          case rel => exact ⟨1, by omega, by go_num, below_drewN HBK.out _, HV2.out.symm⟩
      · obtain ⟨j, rfl⟩ : ∃ j, k = j + 1 := ⟨k - 1, by omega⟩
        obtain ⟨p, hp⟩ : ∃ p, l[j]? = some p := ⟨_, List.getElem?_eq_getElem (by omega)⟩
        have HV := Lib.hid (HR.out.symm.trans (H2.out j p s hp HSK.out))
        have dp := (HBK.out.cell (p := ⟨b, o + j, none⟩) HBL.out).trans (HCC.out j p hp)
        have hpos : (0 : Int) < ((j + 1 : Nat) : Int) := by omega
        have hj2 : (j : Int) < (l.length : Int) := by omega
        clear HR hp
        generalize nameB s = nb at *
        cases nb with
        | false =>
          have HV2 : Hid ((res && (l.length == n)) = false) := Lib.hid (by rw [HV.out, Bool.false_and, Bool.false_and])
          clear HV
          go_wp2
          go_quiet ((go_at_call 59; exact Calls.quiet_of_same ((HNM.out _).mono fun e w' h => ⟨h.1, h.2⟩)))
          go_wp2
          go_ret
          exact ⟨ret_bool HV2.out.symm, below_drewN HBK.out _⟩
        | true =>
          have HV2 := Lib.hid (HV.out.trans (Bool.true_and _))
          clear HV
          cases hlt3 : Op.bytesLess p.toList s.toList with
          | false =>
            have HV3 : Hid ((res && (l.length == n)) = false) := Lib.hid (by rw [HV2.out, hlt3, Bool.false_and, Bool.false_and])
            go_wp2
            go_quiet ((go_at_call 59; exact Calls.quiet_of_same ((HNM.out _).mono fun e w' h => ⟨h.1, h.2⟩)))
            go_wp2
            go_ret
            exact ⟨ret_bool HV3.out.symm, below_drewN HBK.out _⟩
          | true =>
            have HV3 := Lib.hid (HV2.out.trans (by rw [hlt3, Bool.true_and]))
            go_wp2
            go_quiet ((go_at_call 59; exact Calls.quiet_of_same ((HNM.out _).mono fun e w' h => ⟨h.1, h.2⟩)))
            go_wp2
            go_roundg q
            case measure => omega
            case rel => exact ⟨j + 2, by omega, by go_num, below_drewN HBK.out _, HV3.out.symm⟩
end Go.Proofs.YtppmkehdhpgdcaaGreat
end
