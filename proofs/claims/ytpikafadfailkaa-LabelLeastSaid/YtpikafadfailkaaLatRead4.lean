/- full, Bottom, Top. -/
import Derived.Test.YtpikafadfailkaaLatRead3
namespace Go.Proofs.Ytpikafadfailkaa
open Go.RowKit P

def fullFrom (n : Nat) (f : Rel) : Nat → Nat → Nat
  | 0, _ => 0
  | k + 1, a => if Lib.onesCount (mask (f a)) = n then a else fullFrom n f k (a + 1)
def fullOf (n : Nat) (f : Rel) : Nat := fullFrom n f n 0

set_option maxHeartbeats 1000000 in
theorem full_any (b o : Nat) (n : Nat) (f : Rel) (w : World) (h8 : n ≤ 8) (hn : w.cell? ⟨b, 0, none⟩ = some (.int .i64 n))
    (hc : ∀ i, i < 8 → w.cell? ⟨b, o + i, none⟩ = some (.int .u8 (mask (f i)))) :
    Calls Try.prog 50 #[.pointer (some ⟨b, 0, none⟩), .pointer (some ⟨b, o, none⟩)] w fun e w' => e = .returned (.int .i64 (fullOf n f)) ∧ ∃ m, w' = w.drewN m := by
  have HC := Lib.hid hc
  clear hc
  go_enter Try.func50, Try.ntmps50
  go_wp2
  go_loopw [10] (fun i wr => ∃ a m : Nat, a ≤ n ∧ i = .int .i64 a ∧ fullOf n f = fullFrom n f (n - a) a ∧ wr = w.drewN m)
    (fun i _ => n - (intOf i).toNat)
  case atStart => exact ⟨0, 0, by omega, rfl, rfl, rfl⟩
  case round =>
    obtain ⟨a, m, ha, rfl, hq, rfl⟩ := hrel
    have HQ := Lib.hid hq
    clear hq
    by_cases hlt : a < n
    · have hcell := HC.out a (by omega)
      have hi8 : (a : Int) < 8 := by omega
      have e : n - a = (n - (a + 1)) + 1 := by omega
      rw [e, fullFrom] at HQ
      by_cases hg : Lib.onesCount (mask (f a)) = n
      · have hb : ((Lib.onesCount (mask (f a)) : Int) == (n : Int)) = true := by simp [hg]
        rw [if_pos hg] at HQ
        clear hg e
        go_wp2
        go_quiet ((go_at_call 57; exact q_same2 (ones8 _ _)))
        go_wp2
        go_ret
        exact ⟨ret_int (by rw [HQ.out]), _, World.drewN_drewN _ _ _⟩
      · have hb : ((Lib.onesCount (mask (f a)) : Int) == (n : Int)) = false := by simp; omega
        rw [if_neg hg] at HQ
        clear hg e
        go_wp2
        go_quiet ((go_at_call 57; exact q_same2 (ones8 _ _)))
        go_wp2
        go_roundw
        case rel => exact ⟨a + 1, _, by omega, by go_num, HQ.out, rfl⟩
        case measure => simp [intOf]; omega
    · have e : n - a = 0 := by omega
      rw [e, fullFrom] at HQ
      clear e
      go_wp2
      go_ret
      exact ⟨ret_int (by rw [HQ.out]; rfl), _, rfl⟩

theorem bottom_nil (w : World) :
    Calls Try.prog 23 #[.pointer none] w fun e w' => e = .returned (.int .i64 0) ∧ w = w' := by
  go_enter Try.func23, Try.ntmps23
  go_wp2
  go_ret
  exact ⟨rfl, rfl⟩
theorem top_nil (w : World) :
    Calls Try.prog 24 #[.pointer none] w fun e w' => e = .returned (.int .i64 0) ∧ w = w' := by
  go_enter Try.func24, Try.ntmps24
  go_wp2
  go_ret
  exact ⟨rfl, rfl⟩
theorem bottom_any (bk : Nat) (n : Nat) (R : Rel) (J M : Nat → Nat → Int) (w : World) (h8 : n ≤ 8) (hl : LatAt w bk n R J M) :
    Calls Try.prog 23 #[.pointer (some ⟨bk, 0, none⟩)] w fun e w' => e = .returned (.int .i64 (fullOf n R)) ∧ ∃ m, w' = w.drewN m := by
  have hc := full_any bk 1 n R w h8 hl.cn hl.cu
  have HC := Lib.hid hc
  clear hc hl
  go_enter Try.func23, Try.ntmps23
  go_wp2_with (go_at_call 50; refine HC.out.mono ?_; rintro e w' ⟨rfl, m, rfl⟩)
  go_ret
  exact ⟨rfl, _, rfl⟩
theorem top_any (bk : Nat) (n : Nat) (R : Rel) (J M : Nat → Nat → Int) (w : World) (h8 : n ≤ 8) (hl : LatAt w bk n R J M) :
    Calls Try.prog 24 #[.pointer (some ⟨bk, 0, none⟩)] w fun e w' => e = .returned (.int .i64 (fullOf n (fun a b => R b a))) ∧ ∃ m, w' = w.drewN m := by
  have hc := full_any bk 9 n (fun a b => R b a) w h8 hl.cn hl.cd
  have HC := Lib.hid hc
  clear hc hl
  go_enter Try.func24, Try.ntmps24
  go_wp2_with (go_at_call 50; refine HC.out.mono ?_; rintro e w' ⟨rfl, m, rfl⟩)
  go_ret
  exact ⟨rfl, _, rfl⟩

end Go.Proofs.Ytpikafadfailkaa
