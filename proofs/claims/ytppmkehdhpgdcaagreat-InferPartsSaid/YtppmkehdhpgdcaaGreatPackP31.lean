/- Parts of a proof: ELeaf. -/
import Derived.Test.YtppmkehdhpgdcaaGreatPackP20
import Derived.Test.YtppmkehdhpgdcaaGreatPackP28
namespace Go.Proofs.YtppmkehdhpgdcaaGreat
open Go Go.RowKit
set_option linter.unusedVariables false
set_option linter.unusedSimpArgs false
def wantsZ (k : Int) : Int :=
  if k = 1 ∨ k = 2 then 0 else if k = 3 ∨ k = 4 ∨ k = 18 ∨ (20 ≤ k ∧ k ≤ 23) then 1 else if (5 ≤ k ∧ k ≤ 14) ∨ k = 19 then 2 else if k = 15 then 3 else if k = 16 ∨ k = 17 then -1 else -2
set_option maxHeartbeats 1000000 in
set_option maxRecDepth 100000 in
theorem kids_any (k : Int) (w : World) : Calls Tryz.prog 84 #[.int .i64 k] w fun e w' => e = .returned (.int .i64 (wantsZ k)) ∧ w' = w := by
  by_cases h : k = 1 ∨ k = 2 ∨ k = 3 ∨ k = 4 ∨ k = 5 ∨ k = 6 ∨ k = 7 ∨ k = 8 ∨ k = 9 ∨ k = 10 ∨ k = 11 ∨ k = 12 ∨ k = 13 ∨ k = 14 ∨ k = 15 ∨ k = 16 ∨ k = 17 ∨ k = 18 ∨ k = 19 ∨ k = 20 ∨ k = 21 ∨ k = 22 ∨ k = 23
  · rcases h with rfl | rfl | rfl | rfl | rfl | rfl | rfl | rfl | rfl | rfl | rfl | rfl | rfl | rfl | rfl | rfl | rfl | rfl | rfl | rfl | rfl | rfl | rfl
    all_goals
      go_enter Tryz.func84, Tryz.ntmps84
      go_wp2
      go_ret
      exact ⟨rfl, rfl⟩
  · have HR : Hid (wantsZ k = -2) := Lib.hid (by unfold wantsZ; rw [if_neg (by omega), if_neg (by omega), if_neg (by omega), if_neg (by omega), if_neg (by omega)])
    by_cases h1 : k < 1
    · have e1 : (k == 1) = false := by rw [beq_eq_false_iff_ne]; omega
      have e2 : (k == 2) = false := by rw [beq_eq_false_iff_ne]; omega
      have e3 : (k == 3) = false := by rw [beq_eq_false_iff_ne]; omega
      have e4 : (k == 4) = false := by rw [beq_eq_false_iff_ne]; omega
      have e18 : (k == 18) = false := by rw [beq_eq_false_iff_ne]; omega
      have e15 : (k == 15) = false := by rw [beq_eq_false_iff_ne]; omega
      have e16 : (k == 16) = false := by rw [beq_eq_false_iff_ne]; omega
      have e17 : (k == 17) = false := by rw [beq_eq_false_iff_ne]; omega
      have e19 : (k == 19) = false := by rw [beq_eq_false_iff_ne]; omega
      have l20 : ¬ (20 ≤ k) := by omega
      have l5 : ¬ (5 ≤ k) := by omega
      clear h h1
      go_enter Tryz.func84, Tryz.ntmps84
      go_wp2
      go_ret
      exact ⟨by rw [HR.out]; rfl, rfl⟩
    · have e1 : (k == 1) = false := by rw [beq_eq_false_iff_ne]; omega
      have e2 : (k == 2) = false := by rw [beq_eq_false_iff_ne]; omega
      have e3 : (k == 3) = false := by rw [beq_eq_false_iff_ne]; omega
      have e4 : (k == 4) = false := by rw [beq_eq_false_iff_ne]; omega
      have e18 : (k == 18) = false := by rw [beq_eq_false_iff_ne]; omega
      have e15 : (k == 15) = false := by rw [beq_eq_false_iff_ne]; omega
      have e16 : (k == 16) = false := by rw [beq_eq_false_iff_ne]; omega
      have e17 : (k == 17) = false := by rw [beq_eq_false_iff_ne]; omega
      have e19 : (k == 19) = false := by rw [beq_eq_false_iff_ne]; omega
      have l20 : 20 ≤ k := by omega
      have l23 : ¬ (k ≤ 23) := by omega
      have l5 : 5 ≤ k := by omega
      have l14 : ¬ (k ≤ 14) := by omega
      clear h h1
      go_enter Tryz.func84, Tryz.ntmps84
      go_wp2
      go_ret
      exact ⟨by rw [HR.out]; rfl, rfl⟩
set_option maxHeartbeats 1000000 in
set_option maxRecDepth 100000 in
theorem wants_any (k : Int) (w : World) : Calls Tryz.prog 56 #[.int .i64 k] w fun e w' => e = .returned (.int .i64 (wantsZ k)) ∧ w' = w := by
  by_cases h : k = 1 ∨ k = 2 ∨ k = 3 ∨ k = 4 ∨ k = 5 ∨ k = 6 ∨ k = 7 ∨ k = 8 ∨ k = 9 ∨ k = 10 ∨ k = 11 ∨ k = 12 ∨ k = 13 ∨ k = 14 ∨ k = 15 ∨ k = 16 ∨ k = 17 ∨ k = 18 ∨ k = 19 ∨ k = 20 ∨ k = 21 ∨ k = 22 ∨ k = 23
  · rcases h with rfl | rfl | rfl | rfl | rfl | rfl | rfl | rfl | rfl | rfl | rfl | rfl | rfl | rfl | rfl | rfl | rfl | rfl | rfl | rfl | rfl | rfl | rfl
    all_goals
      go_enter Tryz.func56, Tryz.ntmps56
      go_wp2
      go_ret
      exact ⟨rfl, rfl⟩
  · have HR : Hid (wantsZ k = -2) := Lib.hid (by unfold wantsZ; rw [if_neg (by omega), if_neg (by omega), if_neg (by omega), if_neg (by omega), if_neg (by omega)])
    by_cases h1 : k < 1
    · have e1 : (k == 1) = false := by rw [beq_eq_false_iff_ne]; omega
      have e2 : (k == 2) = false := by rw [beq_eq_false_iff_ne]; omega
      have e3 : (k == 3) = false := by rw [beq_eq_false_iff_ne]; omega
      have e4 : (k == 4) = false := by rw [beq_eq_false_iff_ne]; omega
      have e18 : (k == 18) = false := by rw [beq_eq_false_iff_ne]; omega
      have e15 : (k == 15) = false := by rw [beq_eq_false_iff_ne]; omega
      have e16 : (k == 16) = false := by rw [beq_eq_false_iff_ne]; omega
      have e17 : (k == 17) = false := by rw [beq_eq_false_iff_ne]; omega
      have e19 : (k == 19) = false := by rw [beq_eq_false_iff_ne]; omega
      have l20 : ¬ (20 ≤ k) := by omega
      have l5 : ¬ (5 ≤ k) := by omega
      clear h h1
      go_enter Tryz.func56, Tryz.ntmps56
      go_wp2
      go_ret
      exact ⟨by rw [HR.out]; rfl, rfl⟩
    · have e1 : (k == 1) = false := by rw [beq_eq_false_iff_ne]; omega
      have e2 : (k == 2) = false := by rw [beq_eq_false_iff_ne]; omega
      have e3 : (k == 3) = false := by rw [beq_eq_false_iff_ne]; omega
      have e4 : (k == 4) = false := by rw [beq_eq_false_iff_ne]; omega
      have e18 : (k == 18) = false := by rw [beq_eq_false_iff_ne]; omega
      have e15 : (k == 15) = false := by rw [beq_eq_false_iff_ne]; omega
      have e16 : (k == 16) = false := by rw [beq_eq_false_iff_ne]; omega
      have e17 : (k == 17) = false := by rw [beq_eq_false_iff_ne]; omega
      have e19 : (k == 19) = false := by rw [beq_eq_false_iff_ne]; omega
      have l20 : 20 ≤ k := by omega
      have l23 : ¬ (k ≤ 23) := by omega
      have l5 : 5 ≤ k := by omega
      have l14 : ¬ (k ≤ 14) := by omega
      clear h h1
      go_enter Tryz.func56, Tryz.ntmps56
      go_wp2
      go_ret
      exact ⟨by rw [HR.out]; rfl, rfl⟩
def wordB (s : ByteArray) : Bool := ((s.toList == [116, 114, 117, 101]) || ((s.toList == [102, 97, 108, 115, 101]) || ((s.toList == [110, 97, 110]) || ((s.toList == [105, 110, 102]) || ((s.toList == [108, 101, 110]) || ((s.toList == [102, 108, 111, 97, 116]) || ((s.toList == [105, 110, 116]) || (s.toList == [115, 116, 114]))))))))
set_option maxHeartbeats 1000000 in
set_option maxRecDepth 100000 in
theorem vword_any (s : ByteArray) (w : World) : Calls Tryz.prog 108 #[.string s] w fun e w' => e = .returned (.bool (wordB s)) ∧ w' = w := by
  cases h0 : (s.toList == [116, 114, 117, 101]) with
  | true =>
    have HR : Hid (wordB s = true) := Lib.hid (by unfold wordB; rw [h0]; rfl)
    go_enter Tryz.func108, Tryz.ntmps108
    go_wp2
    go_ret
    exact ⟨by rw [HR.out]; rfl, rfl⟩
  | false =>
    cases h1 : (s.toList == [102, 97, 108, 115, 101]) with
    | true =>
      have HR : Hid (wordB s = true) := Lib.hid (by unfold wordB; rw [h0, h1]; rfl)
      go_enter Tryz.func108, Tryz.ntmps108
      go_wp2
      go_ret
      exact ⟨by rw [HR.out]; rfl, rfl⟩
    | false =>
      cases h2 : (s.toList == [110, 97, 110]) with
      | true =>
        have HR : Hid (wordB s = true) := Lib.hid (by unfold wordB; rw [h0, h1, h2]; rfl)
        go_enter Tryz.func108, Tryz.ntmps108
        go_wp2
        go_ret
        exact ⟨by rw [HR.out]; rfl, rfl⟩
      | false =>
        cases h3 : (s.toList == [105, 110, 102]) with
        | true =>
          have HR : Hid (wordB s = true) := Lib.hid (by unfold wordB; rw [h0, h1, h2, h3]; rfl)
          go_enter Tryz.func108, Tryz.ntmps108
          go_wp2
          go_ret
          exact ⟨by rw [HR.out]; rfl, rfl⟩
        | false =>
          cases h4 : (s.toList == [108, 101, 110]) with
          | true =>
            have HR : Hid (wordB s = true) := Lib.hid (by unfold wordB; rw [h0, h1, h2, h3, h4]; rfl)
            go_enter Tryz.func108, Tryz.ntmps108
            go_wp2
            go_ret
            exact ⟨by rw [HR.out]; rfl, rfl⟩
          | false =>
            cases h5 : (s.toList == [102, 108, 111, 97, 116]) with
            | true =>
              have HR : Hid (wordB s = true) := Lib.hid (by unfold wordB; rw [h0, h1, h2, h3, h4, h5]; rfl)
              go_enter Tryz.func108, Tryz.ntmps108
              go_wp2
              go_ret
              exact ⟨by rw [HR.out]; rfl, rfl⟩
            | false =>
              cases h6 : (s.toList == [105, 110, 116]) with
              | true =>
                have HR : Hid (wordB s = true) := Lib.hid (by unfold wordB; rw [h0, h1, h2, h3, h4, h5, h6]; rfl)
                go_enter Tryz.func108, Tryz.ntmps108
                go_wp2
                go_ret
                exact ⟨by rw [HR.out]; rfl, rfl⟩
              | false =>
                cases h7 : (s.toList == [115, 116, 114]) with
                | true =>
                  have HR : Hid (wordB s = true) := Lib.hid (by unfold wordB; rw [h0, h1, h2, h3, h4, h5, h6, h7]; rfl)
                  go_enter Tryz.func108, Tryz.ntmps108
                  go_wp2
                  go_ret
                  exact ⟨by rw [HR.out]; rfl, rfl⟩
                | false =>
                  have HR : Hid (wordB s = false) := Lib.hid (by unfold wordB; rw [h0, h1, h2, h3, h4, h5, h6, h7]; rfl)
                  go_enter Tryz.func108, Tryz.ntmps108
                  go_wp2
                  go_ret
                  exact ⟨by rw [HR.out]; rfl, rfl⟩
set_option maxHeartbeats 1000000 in
set_option maxRecDepth 100000 in
theorem rword_any (s : ByteArray) (w : World) : Calls Tryz.prog 60 #[.string s] w fun e w' => e = .returned (.bool (wordB s)) ∧ w' = w := by
  cases h0 : (s.toList == [116, 114, 117, 101]) with
  | true =>
    have HR : Hid (wordB s = true) := Lib.hid (by unfold wordB; rw [h0]; rfl)
    go_enter Tryz.func60, Tryz.ntmps60
    go_wp2
    go_ret
    exact ⟨by rw [HR.out]; rfl, rfl⟩
  | false =>
    cases h1 : (s.toList == [102, 97, 108, 115, 101]) with
    | true =>
      have HR : Hid (wordB s = true) := Lib.hid (by unfold wordB; rw [h0, h1]; rfl)
      go_enter Tryz.func60, Tryz.ntmps60
      go_wp2
      go_ret
      exact ⟨by rw [HR.out]; rfl, rfl⟩
    | false =>
      cases h2 : (s.toList == [110, 97, 110]) with
      | true =>
        have HR : Hid (wordB s = true) := Lib.hid (by unfold wordB; rw [h0, h1, h2]; rfl)
        go_enter Tryz.func60, Tryz.ntmps60
        go_wp2
        go_ret
        exact ⟨by rw [HR.out]; rfl, rfl⟩
      | false =>
        cases h3 : (s.toList == [105, 110, 102]) with
        | true =>
          have HR : Hid (wordB s = true) := Lib.hid (by unfold wordB; rw [h0, h1, h2, h3]; rfl)
          go_enter Tryz.func60, Tryz.ntmps60
          go_wp2
          go_ret
          exact ⟨by rw [HR.out]; rfl, rfl⟩
        | false =>
          cases h4 : (s.toList == [108, 101, 110]) with
          | true =>
            have HR : Hid (wordB s = true) := Lib.hid (by unfold wordB; rw [h0, h1, h2, h3, h4]; rfl)
            go_enter Tryz.func60, Tryz.ntmps60
            go_wp2
            go_ret
            exact ⟨by rw [HR.out]; rfl, rfl⟩
          | false =>
            cases h5 : (s.toList == [102, 108, 111, 97, 116]) with
            | true =>
              have HR : Hid (wordB s = true) := Lib.hid (by unfold wordB; rw [h0, h1, h2, h3, h4, h5]; rfl)
              go_enter Tryz.func60, Tryz.ntmps60
              go_wp2
              go_ret
              exact ⟨by rw [HR.out]; rfl, rfl⟩
            | false =>
              cases h6 : (s.toList == [105, 110, 116]) with
              | true =>
                have HR : Hid (wordB s = true) := Lib.hid (by unfold wordB; rw [h0, h1, h2, h3, h4, h5, h6]; rfl)
                go_enter Tryz.func60, Tryz.ntmps60
                go_wp2
                go_ret
                exact ⟨by rw [HR.out]; rfl, rfl⟩
              | false =>
                cases h7 : (s.toList == [115, 116, 114]) with
                | true =>
                  have HR : Hid (wordB s = true) := Lib.hid (by unfold wordB; rw [h0, h1, h2, h3, h4, h5, h6, h7]; rfl)
                  go_enter Tryz.func60, Tryz.ntmps60
                  go_wp2
                  go_ret
                  exact ⟨by rw [HR.out]; rfl, rfl⟩
                | false =>
                  have HR : Hid (wordB s = false) := Lib.hid (by unfold wordB; rw [h0, h1, h2, h3, h4, h5, h6, h7]; rfl)
                  go_enter Tryz.func60, Tryz.ntmps60
                  go_wp2
                  go_ret
                  exact ⟨by rw [HR.out]; rfl, rfl⟩
def fieldB (s : ByteArray) : Bool := nameB s && (!(s.toList == [110, 97, 110]) && !(s.toList == [105, 110, 102]))
set_option maxHeartbeats 1000000 in
set_option maxRecDepth 100000 in
theorem vfield_any (s : ByteArray) (w : World) : Calls Tryz.prog 109 #[.string s] w fun e w' => e = .returned (.bool (fieldB s)) ∧ Below w.heap.size w w' := by
  have HN := Lib.hid (name_any s w)
  cases h0 : nameB s with
  | false =>
    have HR : Hid (fieldB s = false) := Lib.hid (by unfold fieldB; rw [h0]; rfl)
    rw [h0] at HN
    clear h0
    go_enter Tryz.func109, Tryz.ntmps109
    go_wp2_with (go_at_call 138; refine HN.out.mono ?_; rintro e z ⟨rfl, hb⟩; have HB := Lib.hid hb; clear hb)
    go_ret
    exact ⟨by rw [HR.out]; rfl, HB.out⟩
  | true =>
    cases h1 : (s.toList == [110, 97, 110]) with
    | true =>
      have HR : Hid (fieldB s = false) := Lib.hid (by unfold fieldB; rw [h0, h1]; rfl)
      rw [h0] at HN
      clear h0
      go_enter Tryz.func109, Tryz.ntmps109
      go_wp2_with (go_at_call 138; refine HN.out.mono ?_; rintro e z ⟨rfl, hb⟩; have HB := Lib.hid hb; clear hb)
      go_ret
      exact ⟨by rw [HR.out]; rfl, HB.out⟩
    | false =>
      cases h2 : (s.toList == [105, 110, 102]) with
      | true =>
        have HR : Hid (fieldB s = false) := Lib.hid (by unfold fieldB; rw [h0, h1, h2]; rfl)
        rw [h0] at HN
        clear h0
        go_enter Tryz.func109, Tryz.ntmps109
        go_wp2_with (go_at_call 138; refine HN.out.mono ?_; rintro e z ⟨rfl, hb⟩; have HB := Lib.hid hb; clear hb)
        go_ret
        exact ⟨by rw [HR.out]; rfl, HB.out⟩
      | false =>
        have HR : Hid (fieldB s = true) := Lib.hid (by unfold fieldB; rw [h0, h1, h2]; rfl)
        rw [h0] at HN
        clear h0
        go_enter Tryz.func109, Tryz.ntmps109
        go_wp2_with (go_at_call 138; refine HN.out.mono ?_; rintro e z ⟨rfl, hb⟩; have HB := Lib.hid hb; clear hb)
        go_ret
        exact ⟨by rw [HR.out]; rfl, HB.out⟩
set_option maxHeartbeats 1000000 in
set_option maxRecDepth 100000 in
theorem rfield_any (s : ByteArray) (w : World) : Calls Tryz.prog 61 #[.string s] w fun e w' => e = .returned (.bool (fieldB s)) ∧ w' = w := by
  have HN := Lib.hid (rname_any s w)
  cases h0 : nameB s with
  | false =>
    have HR : Hid (fieldB s = false) := Lib.hid (by unfold fieldB; rw [h0]; rfl)
    rw [h0] at HN
    clear h0
    go_enter Tryz.func61, Tryz.ntmps61
    go_wp2_with (go_at_call 59; refine HN.out.mono ?_; rintro e z ⟨rfl, hb⟩; subst hb)
    go_ret
    exact ⟨by rw [HR.out]; rfl, rfl⟩
  | true =>
    cases h1 : (s.toList == [110, 97, 110]) with
    | true =>
      have HR : Hid (fieldB s = false) := Lib.hid (by unfold fieldB; rw [h0, h1]; rfl)
      rw [h0] at HN
      clear h0
      go_enter Tryz.func61, Tryz.ntmps61
      go_wp2_with (go_at_call 59; refine HN.out.mono ?_; rintro e z ⟨rfl, hb⟩; subst hb)
      go_ret
      exact ⟨by rw [HR.out]; rfl, rfl⟩
    | false =>
      cases h2 : (s.toList == [105, 110, 102]) with
      | true =>
        have HR : Hid (fieldB s = false) := Lib.hid (by unfold fieldB; rw [h0, h1, h2]; rfl)
        rw [h0] at HN
        clear h0
        go_enter Tryz.func61, Tryz.ntmps61
        go_wp2_with (go_at_call 59; refine HN.out.mono ?_; rintro e z ⟨rfl, hb⟩; subst hb)
        go_ret
        exact ⟨by rw [HR.out]; rfl, rfl⟩
      | false =>
        have HR : Hid (fieldB s = true) := Lib.hid (by unfold fieldB; rw [h0, h1, h2]; rfl)
        rw [h0] at HN
        clear h0
        go_enter Tryz.func61, Tryz.ntmps61
        go_wp2_with (go_at_call 59; refine HN.out.mono ?_; rintro e z ⟨rfl, hb⟩; subst hb)
        go_ret
        exact ⟨by rw [HR.out]; rfl, rfl⟩
def noneB (k n : Int) (f : Nat) (s : ByteArray) (ns its : Nat) : Bool := (k == 0) && ((n == 0) && ((cmpF f 0 == 0) && (s.toList.isEmpty && (((ns : Int) == 0) && ((its : Int) == 0)))))
set_option maxHeartbeats 2000000 in
set_option maxRecDepth 100000 in
theorem nothing_any (p o : Nat) (k n : Int) (f : Nat) (s : ByteArray) (A D : Option Addr) (ns its ca cd : Nat) (w : World) (hf : f < 2 ^ 64) (h : w.rangeAt p o [.int .i64 k, .int .i64 n, .float .f64 f, .string s, .slice A ns ca, .slice D its cd]) :
    Calls Tryz.prog 87 #[.pointer (some ⟨p, o, none⟩)] w fun e w' => e = .returned (.bool (noneB k n f s ns its)) ∧ w' = w := by
  have d0 : w.cell? ⟨p, o, none⟩ = some (.int .i64 k) := h 0 _ rfl
  have d1 := h 1 _ rfl
  have d2 := h 2 _ rfl
  have d3 := h 3 _ rfl
  have d4 := h 4 _ rfl
  have d5 := h 5 _ rfl
  have HFO := Lib.hid (fun w => forder_any f 0 hf (by decide) w)
  clear h hf
  cases h0 : (k == 0) with
  | false =>
    have HR : Hid (noneB k n f s ns its = false) := Lib.hid (by unfold noneB; rw [h0]; rfl)
    generalize cmpF f 0 = cf at *
    go_enter Tryz.func87, Tryz.ntmps87
    go_wp2_with (go_at_call 110; refine (HFO.out _).mono ?_; rintro e z ⟨rfl, rfl⟩)
    go_ret
    exact ⟨ret_bool HR.out.symm, rfl⟩
  | true =>
    cases h1 : (n == 0) with
    | false =>
      have HR : Hid (noneB k n f s ns its = false) := Lib.hid (by unfold noneB; rw [h0, h1]; rfl)
      generalize cmpF f 0 = cf at *
      go_enter Tryz.func87, Tryz.ntmps87
      go_wp2_with (go_at_call 110; refine (HFO.out _).mono ?_; rintro e z ⟨rfl, rfl⟩)
      go_ret
      exact ⟨ret_bool HR.out.symm, rfl⟩
    | true =>
      cases h2 : (cmpF f 0 == 0) with
      | false =>
        have HR : Hid (noneB k n f s ns its = false) := Lib.hid (by unfold noneB; rw [h0, h1, h2]; rfl)
        generalize cmpF f 0 = cf at *
        go_enter Tryz.func87, Tryz.ntmps87
        go_wp2_with (go_at_call 110; refine (HFO.out _).mono ?_; rintro e z ⟨rfl, rfl⟩)
        go_ret
        exact ⟨ret_bool HR.out.symm, rfl⟩
      | true =>
        cases h3 : s.toList.isEmpty with
        | false =>
          have HR : Hid (noneB k n f s ns its = false) := Lib.hid (by unfold noneB; rw [h0, h1, h2, h3]; rfl)
          generalize cmpF f 0 = cf at *
          go_enter Tryz.func87, Tryz.ntmps87
          go_wp2_with (go_at_call 110; refine (HFO.out _).mono ?_; rintro e z ⟨rfl, rfl⟩)
          go_ret
          exact ⟨ret_bool HR.out.symm, rfl⟩
        | true =>
          cases h4 : ((ns : Int) == 0) with
          | false =>
            have HR : Hid (noneB k n f s ns its = false) := Lib.hid (by unfold noneB; rw [h0, h1, h2, h3, h4]; rfl)
            generalize cmpF f 0 = cf at *
            go_enter Tryz.func87, Tryz.ntmps87
            go_wp2_with (go_at_call 110; refine (HFO.out _).mono ?_; rintro e z ⟨rfl, rfl⟩)
            go_ret
            exact ⟨ret_bool HR.out.symm, rfl⟩
          | true =>
            cases h5 : ((its : Int) == 0) with
            | false =>
              have HR : Hid (noneB k n f s ns its = false) := Lib.hid (by unfold noneB; rw [h0, h1, h2, h3, h4, h5]; rfl)
              generalize cmpF f 0 = cf at *
              go_enter Tryz.func87, Tryz.ntmps87
              go_wp2_with (go_at_call 110; refine (HFO.out _).mono ?_; rintro e z ⟨rfl, rfl⟩)
              go_ret
              exact ⟨ret_bool HR.out.symm, rfl⟩
            | true =>
              have HR : Hid (noneB k n f s ns its = true) := Lib.hid (by unfold noneB; rw [h0, h1, h2, h3, h4, h5]; rfl)
              generalize cmpF f 0 = cf at *
              go_enter Tryz.func87, Tryz.ntmps87
              go_wp2_with (go_at_call 110; refine (HFO.out _).mono ?_; rintro e z ⟨rfl, rfl⟩)
              go_ret
              exact ⟨ret_bool HR.out.symm, rfl⟩
set_option maxHeartbeats 2000000 in
set_option maxRecDepth 100000 in
theorem none_any (k n : Int) (f : Nat) (s : ByteArray) (A D : Option Addr) (ns its ca cd : Nat) (w : World) (hf : f < 2 ^ 64) :
    Calls Tryz.prog 58 #[.agg ⟨[.int .i64 k, .int .i64 n, .float .f64 f, .string s, .slice A ns ca, .slice D its cd]⟩] w fun e w' => e = .returned (.bool (noneB k n f s ns its)) ∧ Below w.heap.size w w' := by
  have HFO := Lib.hid (fun w => rsame_zero f hf w)
  have HB1 := Lib.hid (box_below w (.cells ⟨[.int .i64 k, .int .i64 n, .float .f64 f, .string s, .slice A ns ca, .slice D its cd]⟩ 27))
  clear hf
  cases h0 : (k == 0) with
  | false =>
    have HR : Hid (noneB k n f s ns its = false) := Lib.hid (by unfold noneB; rw [h0]; rfl)
    generalize (cmpF f 0 == 0) = cf at *
    go_enter Tryz.func58, Tryz.ntmps58
    go_wp2_with (go_at_call 82; refine (HFO.out _).mono ?_; rintro e z ⟨rfl, rfl⟩)
    go_ret
    exact ⟨ret_bool HR.out.symm, HB1.out⟩
  | true =>
    cases h1 : (n == 0) with
    | false =>
      have HR : Hid (noneB k n f s ns its = false) := Lib.hid (by unfold noneB; rw [h0, h1]; rfl)
      generalize (cmpF f 0 == 0) = cf at *
      go_enter Tryz.func58, Tryz.ntmps58
      go_wp2_with (go_at_call 82; refine (HFO.out _).mono ?_; rintro e z ⟨rfl, rfl⟩)
      go_ret
      exact ⟨ret_bool HR.out.symm, HB1.out⟩
    | true =>
      cases h2 : (cmpF f 0 == 0) with
      | false =>
        have HR : Hid (noneB k n f s ns its = false) := Lib.hid (by unfold noneB; rw [h0, h1, h2]; rfl)
        generalize (cmpF f 0 == 0) = cf at *
        go_enter Tryz.func58, Tryz.ntmps58
        go_wp2_with (go_at_call 82; refine (HFO.out _).mono ?_; rintro e z ⟨rfl, rfl⟩)
        go_ret
        exact ⟨ret_bool HR.out.symm, HB1.out⟩
      | true =>
        cases h3 : s.toList.isEmpty with
        | false =>
          have HR : Hid (noneB k n f s ns its = false) := Lib.hid (by unfold noneB; rw [h0, h1, h2, h3]; rfl)
          generalize (cmpF f 0 == 0) = cf at *
          go_enter Tryz.func58, Tryz.ntmps58
          go_wp2_with (go_at_call 82; refine (HFO.out _).mono ?_; rintro e z ⟨rfl, rfl⟩)
          go_ret
          exact ⟨ret_bool HR.out.symm, HB1.out⟩
        | true =>
          cases h4 : ((ns : Int) == 0) with
          | false =>
            have HR : Hid (noneB k n f s ns its = false) := Lib.hid (by unfold noneB; rw [h0, h1, h2, h3, h4]; rfl)
            generalize (cmpF f 0 == 0) = cf at *
            go_enter Tryz.func58, Tryz.ntmps58
            go_wp2_with (go_at_call 82; refine (HFO.out _).mono ?_; rintro e z ⟨rfl, rfl⟩)
            go_ret
            exact ⟨ret_bool HR.out.symm, HB1.out⟩
          | true =>
            cases h5 : ((its : Int) == 0) with
            | false =>
              have HR : Hid (noneB k n f s ns its = false) := Lib.hid (by unfold noneB; rw [h0, h1, h2, h3, h4, h5]; rfl)
              generalize (cmpF f 0 == 0) = cf at *
              go_enter Tryz.func58, Tryz.ntmps58
              go_wp2_with (go_at_call 82; refine (HFO.out _).mono ?_; rintro e z ⟨rfl, rfl⟩)
              go_ret
              exact ⟨ret_bool HR.out.symm, HB1.out⟩
            | true =>
              have HR : Hid (noneB k n f s ns its = true) := Lib.hid (by unfold noneB; rw [h0, h1, h2, h3, h4, h5]; rfl)
              generalize (cmpF f 0 == 0) = cf at *
              go_enter Tryz.func58, Tryz.ntmps58
              go_wp2_with (go_at_call 82; refine (HFO.out _).mono ?_; rintro e z ⟨rfl, rfl⟩)
              go_ret
              exact ⟨ret_bool HR.out.symm, HB1.out⟩
end Go.Proofs.YtppmkehdhpgdcaaGreat
