/- Parts of a proof: Lex3, Lex4. -/
import Derived.Test.YtppmkehdhpgdcaaGreatPackP42
section
namespace Go.Proofs.YtppmkehdhpgdcaaGreat
open Go Go.RowKit
set_option linter.unusedVariables false
set_option linter.unusedSimpArgs false
def dvalN (L : List UInt8) (i : Nat) : Nat → Nat
  | 0 => 0
  | n + 1 => 10 * dvalN L i n + ((L[i + n]?.getD 48).toNat - 48)
theorem digC_iff {c : UInt8} (h : lxdigC c = true) : 48 ≤ c.toNat ∧ c.toNat ≤ 57 := by
  unfold lxdigC at h
  simp only [Bool.and_eq_true, decide_eq_true_eq] at h
  omega
theorem dvalN_lt {L : List UInt8} {i e : Nat} (h : lxcharsIn lxdigC L i e) : ∀ n, i + n ≤ e → dvalN L i n < 10 ^ n
  | 0, _ => by simp [dvalN]
  | n + 1, hn => by
    have ih := dvalN_lt h n (by omega)
    obtain ⟨c, hc, hd⟩ := h (i + n) (by omega) (by omega)
    have h2 := digC_iff hd
    unfold dvalN
    rw [hc, Nat.pow_succ]
    show 10 * _ + (c.toNat - 48) < _
    omega
theorem dvalN_small {L : List UInt8} {i e : Nat} (h : lxcharsIn lxdigC L i e) {n : Nat} (hn : i + n ≤ e) (h18 : n ≤ 18) : dvalN L i n < 1000000000000000000 :=
  Nat.lt_of_lt_of_le (dvalN_lt h n hn) (by rw [show (1000000000000000000 : Nat) = 10 ^ 18 from rfl]; exact Nat.pow_le_pow_right (by omega) h18)
set_option maxHeartbeats 4000000 in
set_option maxRecDepth 100000 in
theorem lxnum_any (s : ByteArray) (i e : Nat) (hie : i < e) (h18 : e ≤ i + 18) (he : e ≤ s.size) (hsz : (s.size : Int) ≤ 2000) (hc : lxcharsIn lxdigC s.data.toList i e) (hs : lxstopAt (fun c => lxdigC c || (c.toNat : Int) == 112) s.data.toList e) (w : World) :
    Calls Tryz.prog 126 #[.string s, .agg #[.int .i64 1, .int .i64 (i : Nat), .int .i64 (i : Nat), .int .i64 0, .float .f64 0, .string ⟨#[]⟩]] w fun r w' =>
      r = .returned (.tuple #[.agg #[.int .i64 2, .int .i64 (i : Nat), .int .i64 (e : Nat), .int .i64 (dvalN s.data.toList i (e - i) : Nat), .float .f64 0, .string ⟨#[]⟩], .int .i64 0]) ∧ Below w.heap.size w w' := by
  have HC := Lib.hid hc
  have HS : Hid (lxstopAt lxdigC s.data.toList e) := Lib.hid fun c h => by have := hs c h; cases hd : lxdigC c <;> simp_all
  have HL : Hid (s.data.toList.length = s.size) := Lib.hid (by cases s; rfl)
  have HE := Lib.hid he
  have HR := Lib.hid (fun w => lxrun_any s i e (by omega) he hsz hc HS.out w)
  have HIE := Lib.hid hie
  have H18 := Lib.hid h18
  have HP : Hid (∀ c, s.data.toList[e]? = some c → ((c.toNat : Int) == 112) = false) := Lib.hid fun c h => by have := hs c h; cases hd : ((c.toNat : Int) == 112) <;> simp_all
  have hsf : ∀ (W : World) (a : Addr), (store a (.float .f64 0)).run Tryz.prog W = stored Tryz.prog W a (.float .f64 0) .plain := fun W a => run_store _ _ _ _ _ rfl
  have hwr : wrap64 ((e : Int) - (i : Int)) = (e : Int) - (i : Int) := by unfold wrap64; omega
  have h19 : ¬ ((e : Int) - (i : Int) > 19) := by omega
  have HV := Lib.hid (dvalN_small hc (n := e - i) (by omega) (by omega))
  clear hc hs he hie
  have key : ∃ b : Bool, True := ⟨true, trivial⟩
  by_cases hend : e < s.size
  · obtain ⟨c, hc⟩ : ∃ c, s.data.toList[e]? = some c := ⟨_, List.getElem?_eq_getElem (by rw [HL.out]; exact hend)⟩
    have dk := fun h => lbyte_at (k := e) (c := c) hc h
    have hp := HP.out c hc
    have hlt : (e : Int) < (s.size : Int) := by omega
    clear hc key
    go_enter Tryz.func126, Tryz.ntmps126
    go_upto_region 2 with (go_at_call 148; refine (HR.out _).mono ?_; rintro r z ⟨rfl, rfl⟩)
    go_upto_region 19 with (fail)
    go_loopg [10, 11] (e - i) (fun q x y u => ∃ k : Nat, k ≤ e ∧ k + q = e ∧ i ≤ k ∧ x = .int .u64 (dvalN s.data.toList i (k - i) : Nat) ∧ y = .int .i64 (k : Nat) ∧ u = (w.alloc (.cells #[.int .i64 2, .int .i64 (i : Nat), .int .i64 (e : Nat), .int .i64 0, .float .f64 0, .string ⟨#[]⟩] 141)).alloc (.cells #[.int .i64 0, .int .i64 0, .int .i64 0, .int .i64 0, .float .f64 0, .string ⟨#[]⟩] 141))
    case atStart => exact ⟨i, (by have := HIE.out; omega), (by have := HIE.out; omega), Nat.le_refl _, (by rw [Nat.sub_self]; rfl), rfl, rfl⟩
    case round =>
      obtain ⟨k, hke, hkq, hik, rfl, rfl, rfl⟩ := hrel
      cases gk with
      | zero =>
        obtain rfl : k = e := by omega
        have hv := HV.out
        obtain ⟨v, hve⟩ : ∃ v, dvalN s.data.toList i (k - i) = v := ⟨_, rfl⟩
        have HVE := Lib.hid hve
        rw [hve] at hv
        rw [hve]
        clear hve
        have hge : ¬ ((v : Int) ≥ 9223372036854775808) := by omega
        have hvw : wrap64 (v : Int) = (v : Int) := by unfold wrap64; omega
        clear hv HV
        clear hke hkq hik
        go_wp2
        (try simp only [Exit.inBlock, Exit.then])
        refine bodyPost_ret (lxresults_tok2 rfl _ _ (w.heap.size + 1) #[.int .i64 2, .int .i64 (i : Nat), .int .i64 (k : Nat), .int .i64 (v : Nat), .float .f64 0, .string ⟨#[]⟩] rfl (.int .i64 0) rfl (heap_alloc2_new w _ _) rfl) rfl ?_
        exact ⟨by rw [HVE.out], two_below w _ _⟩
      | succ q =>
        have he := HE.out
        have h18 := H18.out
        obtain ⟨c2, hc2, hd2⟩ := HC.out k hik (by omega)
        have dk2 := fun h => lbyte_at (k := k) (c := c2) hc2 h
        have hdig := digC_iff hd2
        have hv := dvalN_small HC.out (n := k - i) (by omega) (by omega)
        have hnext : Hid (((dvalN s.data.toList i (k + 1 - i) : Nat) : Int) = (dvalN s.data.toList i (k - i) : Nat) * 10 + ((c2.toNat : Int) - 48)) := Lib.hid (by
          rw [show k + 1 - i = (k - i) + 1 by omega]
          show ((10 * dvalN s.data.toList i (k - i) + ((s.data.toList[i + (k - i)]?.getD 48).toNat - 48) : Nat) : Int) = _
          rw [show i + (k - i) = k by omega, hc2]
          show ((10 * dvalN s.data.toList i (k - i) + (c2.toNat - 48) : Nat) : Int) = _
          omega)
        generalize dvalN s.data.toList i (k - i) = v at *
        have hlt2 : (k : Int) < (e : Int) := by omega
        have hlt3 : (k : Int) < (s.size : Int) := by omega
        clear hc2 hd2
        go_wp2
        go_roundg q
        case measure => omega
        case rel => exact ⟨k + 1, by omega, by omega, by omega, (by rw [hnext.out]), by go_num, rfl⟩
  · have hlt : ¬ ((e : Int) < (s.size : Int)) := by omega
    clear key
    go_enter Tryz.func126, Tryz.ntmps126
    go_upto_region 2 with (go_at_call 148; refine (HR.out _).mono ?_; rintro r z ⟨rfl, rfl⟩)
    go_upto_region 19 with (fail)
    go_loopg [10, 11] (e - i) (fun q x y u => ∃ k : Nat, k ≤ e ∧ k + q = e ∧ i ≤ k ∧ x = .int .u64 (dvalN s.data.toList i (k - i) : Nat) ∧ y = .int .i64 (k : Nat) ∧ u = (w.alloc (.cells #[.int .i64 2, .int .i64 (i : Nat), .int .i64 (e : Nat), .int .i64 0, .float .f64 0, .string ⟨#[]⟩] 141)).alloc (.cells #[.int .i64 0, .int .i64 0, .int .i64 0, .int .i64 0, .float .f64 0, .string ⟨#[]⟩] 141))
    case atStart => exact ⟨i, (by have := HIE.out; omega), (by have := HIE.out; omega), Nat.le_refl _, (by rw [Nat.sub_self]; rfl), rfl, rfl⟩
    case round =>
      obtain ⟨k, hke, hkq, hik, rfl, rfl, rfl⟩ := hrel
      cases gk with
      | zero =>
        obtain rfl : k = e := by omega
        have hv := HV.out
        obtain ⟨v, hve⟩ : ∃ v, dvalN s.data.toList i (k - i) = v := ⟨_, rfl⟩
        have HVE := Lib.hid hve
        rw [hve] at hv
        rw [hve]
        clear hve
        have hge : ¬ ((v : Int) ≥ 9223372036854775808) := by omega
        have hvw : wrap64 (v : Int) = (v : Int) := by unfold wrap64; omega
        clear hv HV
        clear hke hkq hik
        go_wp2
        (try simp only [Exit.inBlock, Exit.then])
        refine bodyPost_ret (lxresults_tok2 rfl _ _ (w.heap.size + 1) #[.int .i64 2, .int .i64 (i : Nat), .int .i64 (k : Nat), .int .i64 (v : Nat), .float .f64 0, .string ⟨#[]⟩] rfl (.int .i64 0) rfl (heap_alloc2_new w _ _) rfl) rfl ?_
        exact ⟨by rw [HVE.out], two_below w _ _⟩
      | succ q =>
        have he := HE.out
        have h18 := H18.out
        obtain ⟨c2, hc2, hd2⟩ := HC.out k hik (by omega)
        have dk2 := fun h => lbyte_at (k := k) (c := c2) hc2 h
        have hdig := digC_iff hd2
        have hv := dvalN_small HC.out (n := k - i) (by omega) (by omega)
        have hnext : Hid (((dvalN s.data.toList i (k + 1 - i) : Nat) : Int) = (dvalN s.data.toList i (k - i) : Nat) * 10 + ((c2.toNat : Int) - 48)) := Lib.hid (by
          rw [show k + 1 - i = (k - i) + 1 by omega]
          show ((10 * dvalN s.data.toList i (k - i) + ((s.data.toList[i + (k - i)]?.getD 48).toNat - 48) : Nat) : Int) = _
          rw [show i + (k - i) = k by omega, hc2]
          show ((10 * dvalN s.data.toList i (k - i) + (c2.toNat - 48) : Nat) : Int) = _
          omega)
        generalize dvalN s.data.toList i (k - i) = v at *
        have hlt2 : (k : Int) < (e : Int) := by omega
        have hlt3 : (k : Int) < (s.size : Int) := by omega
        clear hc2 hd2
        go_wp2
        go_roundg q
        case measure => omega
        case rel => exact ⟨k + 1, by omega, by omega, by omega, (by rw [hnext.out]), by go_num, rfl⟩
end Go.Proofs.YtppmkehdhpgdcaaGreat
end
section
namespace Go.Proofs.YtppmkehdhpgdcaaGreat
open Go Go.RowKit
set_option linter.unusedVariables false
set_option linter.unusedSimpArgs false
def sigs : ByteArray := ⟨#[40, 41, 91, 93, 123, 125, 44, 58, 46, 63, 43, 45, 42, 47, 37, 33, 60]⟩
def pk (k : Nat) : ByteArray := sigs.extract k (k + 1)
theorem pk_slice (k : Nat) (hk : k < 17) (W : World) :
    (Instr.sliceAt 9 (.string ⟨#[40, 41, 91, 93, 123, 125, 44, 58, 46, 63, 43, 45, 42, 47, 37, 33, 60]⟩) (some (.int .i64 (k : Nat))) (some (.int .i64 ((k : Int) + 1))) none).run Tryz.prog W = .ok (.string (pk k)) W :=
  str_slice sigs (pk k) k (k + 1) (by omega) (by show k + 1 ≤ 17; omega) rfl W
set_option maxHeartbeats 4000000 in
set_option maxRecDepth 100000 in
theorem sign1_any (s one t2 : ByteArray) (i j : Nat) (hi : i < s.size) (hsz : (s.size : Int) ≤ 2000) (h1 : s.extract i (i + 1) = one) (h2 : s.extract i (min (i + 2) s.size) = t2)
    (n1 : (t2.toList == [61, 61]) = false) (n2 : (t2.toList == [60, 61]) = false) (n3 : (t2.toList == [38, 38]) = false) (n4 : (t2.toList == [124, 124]) = false)
    (hj : j < 17) (hno : ∀ k, k < j → ((pk k).toList == one.toList) = false) (hyes : ((pk j).toList == one.toList) = true) (w : World) :
    Calls Tryz.prog 130 #[.string s, .agg #[.int .i64 1, .int .i64 (i : Nat), .int .i64 (i : Nat), .int .i64 0, .float .f64 0, .string ⟨#[]⟩]] w fun r w' =>
      r = .returned (.tuple #[.agg #[.int .i64 6, .int .i64 (i : Nat), .int .i64 ((i : Int) + 1), .int .i64 0, .float .f64 0, .string one], .int .i64 0]) ∧ Below w.heap.size w w' := by
  have HN := Lib.hid hno
  have HY := Lib.hid hyes
  have HJ := Lib.hid hj
  have HPK := Lib.hid (fun k hk W => pk_slice k hk W)
  have hsl1 : ∀ W, (Instr.sliceAt 9 (.string s) (some (.int .i64 (i : Nat))) (some (.int .i64 ((i : Int) + 1))) none).run Tryz.prog W = .ok (.string one) W := fun W => str_slice s one i (i + 1) (by omega) (by omega) h1 W
  have hsf : ∀ (W : World) (a : Addr), (store a (.float .f64 0)).run Tryz.prog W = stored Tryz.prog W a (.float .f64 0) .plain := fun W a => run_store _ _ _ _ _ rfl
  by_cases h3 : i + 2 ≤ s.size
  · have hsl2 : ∀ W, (Instr.sliceAt 9 (.string s) (some (.int .i64 (i : Nat))) (some (.int .i64 ((i : Int) + 2))) none).run Tryz.prog W = .ok (.string t2) W := fun W => str_slice s t2 i (i + 2) (by omega) (by omega) (by rw [← h2, Nat.min_eq_left h3]) W
    have hm : ((i : Int) + 2) ≤ (s.size : Int) := by omega
    clear hno hyes hj h1 h2
    go_enter Tryz.func130, Tryz.ntmps130
    go_upto_region 10 with (fail)
    go_loopg [9] j (fun q x u => ∃ k : Nat, k + q = j ∧ x = .int .i64 (k : Nat) ∧ u = (w.alloc (.cells #[.int .i64 6, .int .i64 (i : Nat), .int .i64 (i : Nat), .int .i64 0, .float .f64 0, .string ⟨#[]⟩] 141)).alloc (.cells #[.int .i64 0, .int .i64 0, .int .i64 0, .int .i64 0, .float .f64 0, .string ⟨#[]⟩] 141))
    case atStart => exact ⟨0, by omega, rfl, rfl⟩
    case round =>
      obtain ⟨k, hkq, rfl, rfl⟩ := hrel
      have hj := HJ.out
      have hpk := fun W => HPK.out k (by omega) W
      have hlt : (k : Int) < 17 := by omega
      cases gk with
      | zero =>
        obtain rfl : k = j := by omega
        have hy := HY.out
        clear hkq hj
        go_wp2
        (try simp only [Exit.inBlock, Exit.then])
        refine bodyPost_ret (lxresults_tok2 rfl _ _ (w.heap.size + 1) #[.int .i64 6, .int .i64 (i : Nat), .int .i64 ((i : Int) + 1), .int .i64 0, .float .f64 0, .string one] rfl (.int .i64 0) rfl (heap_alloc2_new w _ _) rfl) rfl ?_
        exact ⟨rfl, two_below w _ _⟩
      | succ q =>
        have hn := HN.out k (by omega)
        go_wp2
        go_roundg q
        case measure => omega
        case rel => exact ⟨k + 1, by omega, by go_num, rfl⟩
  · have hsl2 : ∀ W, (Instr.sliceAt 9 (.string s) (some (.int .i64 (i : Nat))) (some (.int .i64 (s.size : Nat))) none).run Tryz.prog W = .ok (.string t2) W := fun W => str_slice s t2 i s.size (by omega) (by omega) (by rw [← h2, Nat.min_eq_right (by omega)]) W
    have hm : ¬ (((i : Int) + 2) ≤ (s.size : Int)) := by omega
    clear hno hyes hj h1 h2
    go_enter Tryz.func130, Tryz.ntmps130
    go_upto_region 10 with (fail)
    go_loopg [9] j (fun q x u => ∃ k : Nat, k + q = j ∧ x = .int .i64 (k : Nat) ∧ u = (w.alloc (.cells #[.int .i64 6, .int .i64 (i : Nat), .int .i64 (i : Nat), .int .i64 0, .float .f64 0, .string ⟨#[]⟩] 141)).alloc (.cells #[.int .i64 0, .int .i64 0, .int .i64 0, .int .i64 0, .float .f64 0, .string ⟨#[]⟩] 141))
    case atStart => exact ⟨0, by omega, rfl, rfl⟩
    case round =>
      obtain ⟨k, hkq, rfl, rfl⟩ := hrel
      have hj := HJ.out
      have hpk := fun W => HPK.out k (by omega) W
      have hlt : (k : Int) < 17 := by omega
      cases gk with
      | zero =>
        obtain rfl : k = j := by omega
        have hy := HY.out
        clear hkq hj
        go_wp2
        (try simp only [Exit.inBlock, Exit.then])
        refine bodyPost_ret (lxresults_tok2 rfl _ _ (w.heap.size + 1) #[.int .i64 6, .int .i64 (i : Nat), .int .i64 ((i : Int) + 1), .int .i64 0, .float .f64 0, .string one] rfl (.int .i64 0) rfl (heap_alloc2_new w _ _) rfl) rfl ?_
        exact ⟨rfl, two_below w _ _⟩
      | succ q =>
        have hn := HN.out k (by omega)
        go_wp2
        go_roundg q
        case measure => omega
        case rel => exact ⟨k + 1, by omega, by go_num, rfl⟩
end Go.Proofs.YtppmkehdhpgdcaaGreat
end
