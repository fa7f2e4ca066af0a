/- WriteByte keeps each block that bears a mark of bytes that are frozen. -/
import Derived.Test.YtieciegfloldhaaGreatDoorVText
namespace Go.Proofs.YtieciegfloldhaaGreatDoor
open Go Go.RowKit
set_option linter.unusedVariables false

def Fz (w w' : World) : Prop := ∀ (k : Nat) (c : Array Value) (e : TypeId) (fz : Nat × Nat), w.heap[k]? = some (.cells c e fz) → fz ≠ (0, 0) → w'.heap[k]? = some (.cells c e fz)
theorem Fz.refl (w : World) : Fz w w := fun _ _ _ _ h _ => h
theorem Fz.trans {a b c : World} (h : Fz a b) (k : Fz b c) : Fz a c := fun i _ _ _ x y => k i _ _ _ (h i _ _ _ x y) y
theorem Fz.setCell {w : World} {b : Nat} {v u : Value} {T : TypeId} {cs : Array Value} (h : w.heap[b]? = some (.cells cs T (0, 0))) (p : Addr) (hp : p.block = b) : Fz w (w.setCell p u) := by
  intro k c e fz hk hf
  have hkb : b ≠ k := by
    rintro rfl
    rw [h] at hk
    injection hk with hk
    injection hk with _ _ h3
    exact hf h3.symm
  show (w.heap.modify p.block _)[k]? = _
  rw [Array.getElem?_modify, if_neg (by rw [hp]; exact hkb), hk]
theorem Fz.alloc (w : World) (o : Obj) : Fz w (w.alloc o) := by
  intro k c e fz hk hf
  have hlt : k < w.heap.size := by
    rcases Nat.lt_or_ge k w.heap.size with h | h
    · exact h
    · rw [Array.getElem?_eq_none h] at hk; cases hk
  rw [Lib.alloc_old w o k hlt]; exact hk
theorem Fz.drew (w : World) : Fz w w.drew := fun _ _ _ _ h _ => h
theorem Fz.grown {w w' : World} {B : Nat} {e : TypeId} {v : Value} {n : Nat} {xs : List Value} (h : w.grownBy w' v.ownBlock) (ho : w.ownsRow B e 1 v n xs) : Fz w w' := by
  intro k c t fz hk hf
  have hlt : k < w.heap.size := by
    rcases Nat.lt_or_ge k w.heap.size with h | h
    · exact h
    · rw [Array.getElem?_eq_none h] at hk; cases hk
  rw [h.block k hlt, hk]
  intro hv
  rcases ho.2 with ⟨rfl, _⟩ | ⟨g, cap, cur, rfl, _, hg, _⟩
  · cases hv
  · have : k = g := by simpa [Value.ownBlock] using hv
    subst this
    rw [hk] at hg
    injection hg with hg
    injection hg with _ _ h3
    exact hf h3
theorem copyK (B b : Nat) (bs : List Value) (w : World) (h : Bld0 B b bs w) :
    Calls Tryz.prog 75 #[.pointer (some ⟨b, 0, none⟩)] w fun e w' => e = .returned (.tuple #[]) ∧ (Bld B b bs w' ∧ Below B w w' ∧ Fz w w') := by
  rcases h with h | h
  · refine (copy_fresh b w h.cell0 h.shape h.frozen0).mono ?_
    rintro e w' ⟨rfl, rfl⟩
    obtain ⟨hB, v, hbk, _⟩ := id h
    exact ⟨rfl, h.used _, (Below.refl B w).setCell (p := ⟨b, 0, none⟩) h.1 _, Fz.setCell (v := v) hbk ⟨b, 0, none⟩ rfl⟩
  · refine (copy_used b w h.cell0).mono ?_
    rintro e w' ⟨rfl, rfl⟩
    exact ⟨rfl, h, Below.refl B _, Fz.refl _⟩
set_option maxHeartbeats 2000000 in
set_option maxRecDepth 100000 in
theorem wbyteK (B b : Nat) (bs : List Value) (c : Int) (w : World) (h : Bld0 B b bs w) (hlen : bs.length + 1 ≤ 140737488355328) (hBw : B ≤ w.heap.size) :
    Calls Tryz.prog 58 #[.pointer (some ⟨b, 0, none⟩), .int .u8 c] w fun e w' => e = .returned .nilIface ∧ (Bld B b (bs ++ [.int .u8 c]) w' ∧ Below B w w' ∧ Fz w w') := by
  obtain ⟨i0, hi, hz0, hz1, hz2⟩ := info_parts info_u8
  go_enter Tryz.func58, Tryz.ntmps58
  go_wp2_with (go_at_call 75; refine (copyK B b bs _ h).mono ?_)
  rintro e w1 ⟨rfl, h1, hb1, hz⟩
  have HZ := Lib.hid hz
  clear hz
  have hlt := h1.lt
  obtain ⟨hB, v, hbk, hown, hne⟩ := h1
  have c1 : w1.cell? ⟨b, 1, none⟩ = some v := by rw [Lib.cell_of_heap hbk]; rfl
  go_wp2_with (at_builtin; refine wpList_append_own _ rfl _ _ 51 rfl B 5 i0 (.int .u8 0) 1 1 Tryz.underlying51 hi hz0 hz1 hz2 rfl (by decide) _ _ _ rfl (hown.alloc _) ⟨w1.heap.size, 0, none⟩ 1 1 [.int .u8 c] rfl rfl ?c1 ?c2 ?c3 ?c4 ?c5 ?_)
  case c1 =>
    intro j u hj
    match j, hj with
    | 0, hj => simp at hj; subst hj; simp [Addr.add]
  case c2 => intro u hu; simp at hu; subst hu; rfl
  case c3 => unfold maxLen; omega
  case c4 => omega
  case c5 => have := hb1.size; simp; omega
  intro v' w2 hown' hgrow _
  have hb2 : w2.heap[b]? = some (.cells #[.pointer (some ⟨b, 0, none⟩), v] 55 (0, 0)) := by
    rw [hgrow.block b (by simp; omega) (fun e => hne e.symm), Lib.alloc_old w1 _ b hlt]
    exact hbk
  have d0 : w2.cell? ⟨b, 0, none⟩ = some (.pointer (some ⟨b, 0, none⟩)) := by rw [Lib.cell_of_heap hb2]; rfl
  have d1 : w2.cell? ⟨b, 1, none⟩ = some v := by rw [Lib.cell_of_heap hb2]; rfl
  have f1 : w2.frozen? ⟨b, 1, none⟩ = false := Lib.frozen_of_heap hb2 1
  obtain ⟨g, cap, rfl⟩ : ∃ g cap, v' = .slice (some ⟨g, 0, none⟩) (bs.length + 1) cap := by
    rcases hown'.2 with ⟨_, h0⟩ | ⟨g, cap, cur, hv, _⟩
    · omega
    · exact ⟨g, cap, hv⟩
  go_wp2
  go_ret
  refine ⟨rfl, ?_, ?_, ?_⟩
  · exact Lib.BuilderAt.put (T := 55) (e := 5) hB hb2 (bs' := bs ++ [.int .u8 c]) (by simpa using hown') (by decide)
  · exact ((hb1.alloc (by have := hb1.size; omega) _).grown hgrow (by have := hb1.size; simp; omega) (fun k hk => (hown.lt k hk).1)).setCell (p := ⟨b, 1, none⟩) hB _
  · exact (HZ.out.trans (Fz.alloc _ _)).trans ((Fz.grown hgrow (hown.alloc _)).trans (Fz.setCell (v := v) hb2 ⟨b, 1, none⟩ rfl))
end Go.Proofs.YtieciegfloldhaaGreatDoor
