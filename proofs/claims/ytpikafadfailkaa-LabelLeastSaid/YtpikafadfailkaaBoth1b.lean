/- both, of however many pairs. -/
import Derived.Test.YtpikafadfailkaaBoth1
namespace Go.Proofs.Ytpikafadfailkaa
open Go.RowKit P

/-- what both hands back, of however many pairs -/
def BothAll (w : World) (n : Int) (ps : List (Int × Int)) (e : Ending) (w' : World) : Prop :=
  Below w.heap.size w w' ∧ ((∃ N L, e = .returned (.tuple #[.pointer none, .agg (rv N L), .bool false])) ∨
    (ps.length ≤ 200 ∧ makeE n ps = 0 ∧ ∃ k b : Nat, n = k ∧ e = .returned (.tuple #[.pointer (some ⟨b, 0, none⟩), .agg (rv k (ordOf k ps)), .bool true]) ∧ LatR w' b k (ordOf k ps)))

theorem both1_long (n : Int) (A : Option Addr) (l c : Nat) (w : World) (h2 : 200 < l) :
    Calls Try.prog 15 #[.int .i64 n, .slice A l c] w fun e w' => e = .returned (.tuple #[.pointer none, .agg (rv 0 fun _ _ => false), .bool false]) ∧ Below w.heap.size w w' := by
  have t1 : decide ((200 : Int) < l) = true := by simp; omega
  have hz := rzero
  have HM := Lib.hid (Rm.new w 0 (fun _ _ => false) 27)
  have HB := Lib.hid (below_setCells ((Below.refl w.heap.size w).alloc (Nat.le_refl _) (.cells (rv 0 fun _ _ => false) 27)) (Nat.le_refl _) (rl 0 fun _ _ => false) 0)
  go_enter Try.func15, Try.ntmps15
  go_wp2_with (refine wl_rstore _ _ rfl (by simp [Region.wanted]) w.heap.size 0 (fun _ _ => false) rfl rfl ⟨_, _, HM.out⟩ ?_)
  exact bodyPost_ret (results_both rfl _ _ w.heap.size 0 (fun _ _ => false) (.pointer none) (.bool false) rfl rfl rfl (HM.out.setCells 0 _)) rfl ⟨rfl, HB.out⟩

theorem both1_all (n : Int) (A : Option Addr) (l c : Nat) (ps : List (Int × Int)) (w : World) (hl : ps.length = l) (hp : Pairs w w.heap.size A ps) :
    Calls Try.prog 15 #[.int .i64 n, .slice A l c] w (BothAll w n ps) := by
  by_cases h : l ≤ 200
  · refine (both1_any n A l c ps w hl hp h).mono fun e w' hh => ?_
    rcases hh.2 with ⟨_, h1⟩ | ⟨h0, h1⟩
    · exact ⟨hh.1, .inl h1⟩
    · exact ⟨hh.1, .inr ⟨by omega, h0, h1⟩⟩
  · exact (both1_long n A l c w (by omega)).mono fun e w' hh => ⟨hh.2, .inl ⟨_, _, hh.1⟩⟩

end Go.Proofs.Ytpikafadfailkaa
