/- value.Canon: what is no number is made one; names and items lie in memory of its own. -/
import Derived.Test.YtieciegfloldhaaDoorVMk
import Derived.Test.YtieciegfloldhaaDoorKeep
import Derived.Test.YtieciegfloldhaaDoorFitV
import Derived.Test.YtieciegfloldhaaDoorLib2
import Derived.Test.YtieciegfloldhaaDoorBuild1
import Derived.Test.YtieciegfloldhaaDoorRow
namespace Go.Proofs.YtieciegfloldhaaDoor
open Go Go.RowKit
set_option linter.unusedVariables false

theorem fcanon_any (f : Nat) (w : World) : Calls Tryd.prog 35 #[.float .f64 f] w fun e w' => e = .returned (.float .f64 (canonF f)) ∧ w' = w := by
  have hn0 : nanB f = (FloatKind.f64.format.order f f != some .eq) := rfl
  cases hn : nanB f with
  | true =>
    have hz : canonF f = 9221120237041090560 := by unfold canonF; rw [if_pos hn]
    rw [hz]
    have t1 : (FloatKind.f64.format.order f f != some .eq) = true := hn0.symm.trans hn
    have e1 : ∀ W : World, (callFunc 39 #[.int .u64 9221120237041090560]).run Tryd.prog W = .ok (.value (.float .f64 9221120237041090560)) W := fun W => by
      rw [run_callFunc_extern Tryd.func39 (by kernel_rfl) (by kernel_rfl) (by kernel_rfl) (e := Extern.MathFloatBits.float64frombits) (by kernel_rfl)]
      rfl
    clear hn0 hn hz
    go_enter Tryd.func35, Tryd.ntmps35
    go_wp2
    go_ret
    exact ⟨rfl, rfl⟩
  | false =>
    have hz : canonF f = f := by unfold canonF; rw [if_neg (by rw [hn]; decide)]
    rw [hz]
    have t1 : (FloatKind.f64.format.order f f != some .eq) = false := hn0.symm.trans hn
    clear hn0 hn hz
    go_enter Tryd.func35, Tryd.ntmps35
    go_wp2
    go_ret
    exact ⟨rfl, rfl⟩
theorem keptS_own {w w' : World} {v : Value} {ns : List ByteArray} (hs : ∀ s ∈ ns, s.size ≤ maxLen) (hl : ns.length ≤ 9223372036854775807) (h : w'.ownsRow w.heap.size 9 1 v ns.length (ns.map (Value.string))) : KeptS (fun b => w.heap.size ≤ b) w' v ns := by
  refine ⟨hl, ?_⟩
  have h' : OwnSl 9 1 (fun s : ByteArray => [Value.string s]) w' w.heap.size v ns := by
    have e : ns.map (Value.string) = flat (fun s : ByteArray => [Value.string s]) ns := by
      clear hs hl h
      induction ns with
      | nil => rfl
      | cons a l ih =>
        show Value.string a :: l.map (Value.string) = Value.string a :: flat (fun s : ByteArray => [Value.string s]) l
        rw [ih]
    unfold OwnSl
    rw [← e]; exact h
  rcases h.2 with ⟨rfl, h0⟩ | ⟨g, cap, cur, hv, hg, _, _⟩
  · exact ⟨none, 0, by rw [h0], fun h1 => by omega⟩
  · refine ⟨some ⟨g, 0, none⟩, cap, hv, fun _ => ?_⟩
    have hown : v.ownBlock = some g := by rw [hv]; rfl
    refine ⟨g, 0, rfl, own_lt h' hown, fun i x hx => ⟨[.string x], rfl, fun j u hu => ?_, rfl, hs x (List.mem_of_getElem? hx)⟩⟩
    refine only_cell.2 ⟨hg, ?_⟩
    have := World.ownsRow.cells h' hown (i * 1 + j) u (flat_at (enc := fun s : ByteArray => [Value.string s]) (fun _ => rfl) ns i x hx j u hu)
    rw [Addr.add_mid] at this
    rw [show 0 + i * 1 + j = 0 + (i * 1 + j) by omega]; exact this
theorem clone_names (w : World) (vn : Value) (ns : List ByteArray) (h : SlAt w w.heap.size 1 StrR vn ns) (hl : ns.length * 16 ≤ reachBytes) :
    Calls Tryd.prog 36 #[vn] w fun e w' => ∃ v', e = .returned v' ∧ Below w.heap.size w w' ∧ KeptS (fun b => w.heap.size ≤ b) w' v' ns := by
  obtain ⟨h0, A, c, rfl, h1⟩ := h
  have hr : reachBytes = 140737488351232 := rfl
  rcases Nat.eq_zero_or_pos ns.length with hz | hz
  · obtain rfl : ns = [] := List.eq_nil_of_length_eq_zero hz
    cases A with
    | none => exact (Tryd.slices_Clone_string_nil _ _ _).mono fun e u' h => ⟨_, h.1, by rw [h.2]; exact Below.refl _ _, SlAt.nil _ _ _ _⟩
    | some ad => exact (Tryd.slices_Clone_string_zero ad c w).mono fun e u' ⟨v', h1, h2, _, h3⟩ => ⟨v', h1, h3, keptS_own (fun s hs => by cases hs) (by simp) h2⟩
  · obtain ⟨b, o, rfl, hb, h2⟩ := h1 hz
    refine (Tryd.slices_Clone_string b o ns.length c ns w (Nat.le_refl _) (by omega) fun j hj => ?_).mono fun e u' ⟨v', h5, h6, _, h7⟩ => ⟨v', h5, h7, keptS_own (fun s hs => ?_) h0 (by rwa [List.take_length] at h6)⟩
    · obtain ⟨cs, h3, h4, h5, h6⟩ := h2 j _ (List.getElem?_eq_getElem hj)
      subst h5
      have := h4 0 _ rfl
      rw [Nat.mul_one, Nat.add_zero] at this
      rw [List.getD_eq_getElem?_getD, List.getElem?_eq_getElem hj]
      exact this
    · obtain ⟨i, hi⟩ := List.mem_iff_getElem?.1 hs
      obtain ⟨cs, _, _, _, h6⟩ := h2 i s hi
      exact h6
end Go.Proofs.YtieciegfloldhaaDoor
