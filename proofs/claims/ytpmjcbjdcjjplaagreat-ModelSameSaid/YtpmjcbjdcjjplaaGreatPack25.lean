/- Parts of a proof: VMk, VBldK. -/
import Derived.Lib.Builder
import Derived.Lib.AppendStr
import Derived.Lib.UnsafeStr
import Derived.Laws.Externs
import Derived.Laws.IdiomCopy
import Derived.Test.YtpmjcbjdcjjplaaGreatPack14
section
namespace Go.Proofs.YtpmjcbjdcjjplaaGreat
open Go Go.RowKit
set_option linter.unusedVariables false
theorem results_cellV {fn : Func} {p : Tmp} {T : TypeId} {d : TypeDesc} (h : fn.results = #[.cell p T]) (hu : Tryz.prog.underlying T = some d) (hd : d.isRow = true) (tmps : Array Value) (w : World) (g : Nat) (cs : List Value) (hi : (Tryz.prog.info? T).map (·.size) = some cs.length)
    (hp : tmps.getD p undef = .pointer (some ⟨g, 0, none⟩)) (hm : w.rangeAt g 0 cs) : (results fn tmps).run Tryz.prog w = .ok (.agg ⟨cs⟩) w := by
  have hp' : tmps[p]?.getD undef = .pointer (some ⟨g, 0, none⟩) := by simpa using hp
  have hl := run_loadVar_mid (P := Tryz.prog) w g 0 T cs _ hm hu hd hi
  simp [results, h, hp', asAddr, hl]
end Go.Proofs.YtpmjcbjdcjjplaaGreat
end
section
namespace Go.Proofs.YtpmjcbjdcjjplaaGreat
open Go Go.RowKit
set_option linter.unusedVariables false
def Fz (w w' : World) : Prop := ∀ (k : Nat) (c : Array Value) (e : TypeId) (fz : Nat × Nat), w.heap[k]? = some (.cells c e fz) → fz ≠ (0, 0) → w'.heap[k]? = some (.cells c e fz)
theorem Fz.refl (w : World) : Fz w w := fun _ _ _ _ h _ => h
theorem Fz.trans {a b c : World} (h : Fz a b) (k : Fz b c) : Fz a c := fun i _ _ _ x y => k i _ _ _ (h i _ _ _ x y) y
theorem Fz.setCell {w : World} {b : Nat} {v u : Value} {T : TypeId} {cs : Array Value} (h : w.heap[b]? = some (.cells cs T (0, 0))) (p : Addr) (hp : p.block = b) : Fz w (w.setCell p u) := by
  intro k c e fz hk hf
  have hkb : b ≠ k := by
    rintro rfl
    rw [h] at hk
    injection hk with hk
    injection hk with _ _ h3
    exact hf h3.symm
  show (w.heap.modify p.block _)[k]? = _
  rw [Array.getElem?_modify, if_neg (by rw [hp]; exact hkb), hk]
theorem Fz.alloc (w : World) (o : Obj) : Fz w (w.alloc o) := by
  intro k c e fz hk hf
  have hlt : k < w.heap.size := by
    rcases Nat.lt_or_ge k w.heap.size with h | h
    · exact h
    · rw [Array.getElem?_eq_none h] at hk; cases hk
  rw [Lib.alloc_old w o k hlt]; exact hk
theorem Fz.drew (w : World) : Fz w w.drew := fun _ _ _ _ h _ => h
theorem Fz.grown {w w' : World} {B : Nat} {e : TypeId} {v : Value} {n : Nat} {xs : List Value} (h : w.grownBy w' v.ownBlock) (ho : w.ownsRow B e 1 v n xs) : Fz w w' := by
  intro k c t fz hk hf
  have hlt : k < w.heap.size := by
    rcases Nat.lt_or_ge k w.heap.size with h | h
    · exact h
    · rw [Array.getElem?_eq_none h] at hk; cases hk
  rw [h.block k hlt, hk]
  intro hv
  rcases ho.2 with ⟨rfl, _⟩ | ⟨g, cap, cur, rfl, _, hg, _⟩
  · cases hv
  · have : k = g := by simpa [Value.ownBlock] using hv
    subst this
    rw [hk] at hg
    injection hg with hg
    injection hg with _ _ h3
    exact hf h3
end Go.Proofs.YtpmjcbjdcjjplaaGreat
end
