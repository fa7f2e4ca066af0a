/- ref15.has: is a number in a list? -/
import Derived.Test.YtedajbpjokmlaaaSame
import Derived.Test.YtedajbpjokmlaaaLess
namespace Go.Proofs.Ytedajbpjokmlaaa
open Go Go.RowKit
set_option linter.unusedVariables false

theorem has_none {l : List Int} {x : Int} (h : ∀ (i : Nat) y, l[i]? = some y → y ≠ x) : l.contains x = false := by
  cases hc : l.contains x with
  | false => rfl
  | true =>
    have := List.contains_iff_mem.1 hc
    obtain ⟨i, hi⟩ := List.mem_iff_getElem?.1 this
    exact absurd rfl (h i x hi)
theorem has_some {l : List Int} {i : Nat} {x : Int} (h : l[i]? = some x) : l.contains x = true := List.contains_iff_mem.2 (List.mem_of_getElem? h)

set_option maxHeartbeats 1000000 in
theorem has_any (v : Value) (l : List Int) (x : Int) (w : World) (hv : IntsV w v l) (hl : l.length ≤ 10000) :
    Calls Try.prog 40 #[v, .int .i64 x] w fun e w' => e = .returned (.bool (l.contains x)) ∧ w' = w := by
  obtain ⟨h0, A, c, rfl, ha⟩ := hv.ints
  have HA := Lib.hid ha
  have HN := Lib.hid (has_none (l := l) (x := x))
  have HS := Lib.hid (fun i => has_some (l := l) (i := i) (x := x))
  have hl2 : (l.length : Int) ≤ 10000 := by omega
  clear ha hv h0
  generalize l.contains x = bb at *
  go_enter Try.func40, Try.ntmps40
  go_wp2
  go_loopg [5] l.length (fun g i wr => ∃ k : Nat, k + g = l.length ∧ i = .int .i64 k ∧ wr = w ∧ ∀ (i : Nat) y, i < k → l[i]? = some y → y ≠ x)
  case atStart => exact ⟨0, by omega, rfl, rfl, fun i y h => absurd h (Nat.not_lt_zero _)⟩
  case round =>
    obtain ⟨k, hk, rfl, rfl, heq⟩ := hrel
    have HEQ := Lib.hid heq
    clear heq
    cases gk with
    | zero =>
      have hge : ¬ ((k : Int) < (l.length : Int)) := by omega
      have HF := Lib.hid (HN.out fun i y hy => HEQ.out i y (by have := (List.getElem?_eq_some_iff.1 hy).1; omega) hy)
      go_wp2
      go_ret
      exact ⟨ret_bool HF.out.symm, rfl⟩
    | succ g =>
      have hlt : (k : Int) < (l.length : Int) := by omega
      obtain ⟨b, o, rfl, _, c1⟩ := HA.out (by omega)
      obtain ⟨y, hy⟩ : ∃ y, l[k]? = some y := ⟨_, List.getElem?_eq_getElem (by omega)⟩
      have d1 := c1 k _ hy
      have HY := Lib.hid hy
      clear c1 hy
      by_cases hxy : y = x
      · subst hxy
        have HF := Lib.hid (HS.out k HY.out)
        have t1 : (y == y) = true := by simp
        go_wp2
        go_ret
        exact ⟨ret_bool HF.out.symm, rfl⟩
      · have t1 : (y == x) = false := by simpa using hxy
        have HF := Lib.hid hxy
        clear hxy
        go_wp2
        go_roundg g
        case measure => omega
        case rel => exact ⟨k + 1, by omega, by go_num, rfl, fun i z h1 h2 => by
          by_cases e : i = k
          · subst e
            rw [HY.out] at h2
            injection h2 with h2
            rw [← h2]
            exact HF.out
          · exact HEQ.out i z (by omega) h2⟩
end Go.Proofs.Ytedajbpjokmlaaa
