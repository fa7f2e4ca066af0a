/- Comparisons of numbers, strings, floats and rows of names, as the program does them. -/
import Derived.Test.YtieciegfloldhaaGreatDoorValP
import Derived.Test.YtieciegfloldhaaGreatDoorWalk
import Derived.Test.YtieciegfloldhaaGreatDoorLib
namespace Go.Proofs.YtieciegfloldhaaGreatDoor
open Go Go.RowKit
set_option linter.unusedVariables false

theorem cmpi (a b : Int) (w : World) : Calls Tryz.prog 51 #[.int .i64 a, .int .i64 b] w fun e w' => e = .returned (.int .i64 (cmpI a b)) ∧ w' = w := by
  rcases Int.lt_trichotomy a b with h | h | h
  · have hr : cmpI a b = -1 := by unfold cmpI; rw [if_pos h]
    rw [hr]
    go_enter Tryz.func51, Tryz.ntmps51
    go_wp2_with (go_in)
    go_ret
    exact ⟨rfl, rfl⟩
  · subst h
    rw [cmpI_zero rfl]
    go_enter Tryz.func51, Tryz.ntmps51
    go_wp2_with (go_in)
    go_ret
    exact ⟨rfl, rfl⟩
  · have hr : cmpI a b = 1 := by unfold cmpI; rw [if_neg (by omega), if_pos h]
    have hn : ¬ a < b := by omega
    rw [hr]
    go_enter Tryz.func51, Tryz.ntmps51
    go_wp2_with (go_in)
    go_ret
    exact ⟨rfl, rfl⟩
theorem cmp64 (a b : Int) (w : World) : Calls Tryz.prog 69 #[.int .i64 a, .int .i64 b] w fun e w' => e = .returned (.int .i64 (cmpI a b)) ∧ w' = w := by
  rcases Int.lt_trichotomy a b with h | h | h
  · have hr : cmpI a b = -1 := by unfold cmpI; rw [if_pos h]
    rw [hr]
    go_enter Tryz.func69, Tryz.ntmps69
    go_wp2_with (go_in)
    go_ret
    exact ⟨rfl, rfl⟩
  · subst h
    rw [cmpI_zero rfl]
    go_enter Tryz.func69, Tryz.ntmps69
    go_wp2_with (go_in)
    go_ret
    exact ⟨rfl, rfl⟩
  · have hr : cmpI a b = 1 := by unfold cmpI; rw [if_neg (by omega), if_pos h]
    have hn : ¬ a < b := by omega
    rw [hr]
    go_enter Tryz.func69, Tryz.ntmps69
    go_wp2_with (go_in)
    go_ret
    exact ⟨rfl, rfl⟩
theorem strcmp (a b : ByteArray) (w : World) : Calls Tryz.prog 71 #[.string a, .string b] w fun e w' => e = .returned (.int .i64 (cmpS a b)) ∧ w' = w := Tryz.strings_Compare a b w
theorem toList_eq (a : ByteArray) : a.toList = a.data.toList := ByteArray.toList_eq a
theorem less_cmp : ∀ a b : List UInt8, (Op.bytesLess a b = true ↔ Lib.compareBytes a b = -1) ∧ ((a == b) = true ↔ Lib.compareBytes a b = 0)
  | [], [] => by decide
  | [], _ :: _ => by simp [Op.bytesLess, Lib.compareBytes]
  | _ :: _, [] => by simp [Op.bytesLess, Lib.compareBytes]
  | a :: l, b :: r => by
    obtain ⟨h1, h2⟩ := less_cmp l r
    unfold Op.bytesLess Lib.compareBytes
    rcases u8_tri a b with h | h | h
    · have : a ≠ b := fun e => by subst e; exact UInt8.lt_irrefl a h
      simp [h, this]
    · subst h
      simp [UInt8.lt_irrefl]
      exact ⟨h1, by rw [← beq_iff_eq (a := l)]; exact h2⟩
    · have h3 := UInt8.lt_asymm h
      have : a ≠ b := fun e => by subst e; exact UInt8.lt_irrefl a h
      simp [h, h3, this]
theorem compareBytes_val : ∀ a b : List UInt8, Lib.compareBytes a b = -1 ∨ Lib.compareBytes a b = 0 ∨ Lib.compareBytes a b = 1
  | [], [] => .inr (.inl rfl)
  | [], _ :: _ => .inl rfl
  | _ :: _, [] => .inr (.inr rfl)
  | a :: l, b :: r => by
    unfold Lib.compareBytes
    split
    · exact .inl rfl
    · split
      · exact .inr (.inr rfl)
      · exact compareBytes_val l r
theorem cmps (a b : ByteArray) (w : World) : Calls Tryz.prog 90 #[.string a, .string b] w fun e w' => e = .returned (.int .i64 (cmpS a b)) ∧ w' = w := by
  obtain ⟨h1, h2⟩ := less_cmp a.data.toList b.data.toList
  have h3 := compareBytes_val a.data.toList b.data.toList
  rw [← toList_eq, ← toList_eq] at h1 h2 h3
  have hc : cmpS a b = Lib.compareBytes a.toList b.toList := by unfold cmpS; rw [toList_eq, toList_eq]
  rw [hc]
  rcases h3 with h | h | h
  · rw [h]
    have t1 : Op.bytesLess a.toList b.toList = true := h1.2 h
    clear h1 h2 hc h
    go_enter Tryz.func90, Tryz.ntmps90
    go_wp2_with (go_in)
    go_ret
    exact ⟨rfl, rfl⟩
  · rw [h]
    have t1 : Op.bytesLess a.toList b.toList = false := by rw [Bool.eq_false_iff]; intro e; have := h1.1 e; omega
    have t2 : (a.toList == b.toList) = true := h2.2 h
    clear h1 h2 hc h
    go_enter Tryz.func90, Tryz.ntmps90
    go_wp2_with (go_in)
    go_ret
    exact ⟨rfl, rfl⟩
  · rw [h]
    have t1 : Op.bytesLess a.toList b.toList = false := by rw [Bool.eq_false_iff]; intro e; have := h1.1 e; omega
    have t2 : (a.toList == b.toList) = false := by rw [Bool.eq_false_iff]; intro e; have := h2.1 e; omega
    clear h1 h2 hc h
    go_enter Tryz.func90, Tryz.ntmps90
    go_wp2_with (go_in)
    go_ret
    exact ⟨rfl, rfl⟩
end Go.Proofs.YtieciegfloldhaaGreatDoor
