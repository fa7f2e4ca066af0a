/- No program but the last lemma: a region that draws its order and whose calls may make memory, each operation yielding one value: walked once, in the order of the text. -/
import Derived.Test.YtpikafadfailkaaBoth1
namespace Go.Proofs.Ytpikafadfailkaa
open Go.RowKit P

/-- a world in which nothing of w has turned -/
structure Wb (w : World) where
  wd : World
  h : Below w.heap.size w wd
instance (w : World) : Nonempty (Wb w) := ⟨⟨w, Below.refl _ _⟩⟩

section
variable {P : Program} {f : FuncId} {args : Array Value} {w : World} {v : Value}
theorem wp_region_wb {id : Nat} {Q : Exit → Act → World → Prop} {a : Act} {l : List Oper} (hm : P.follows .mixedOrders = true) (hB : Region.lexB .any l.toArray = true)
    (h : wpQuiet P l.toArray (fun w' => ∃ x : Wb w, w' = x.wd) (fun a' => ∀ w', (∃ x : Wb w, w' = x.wd) → Q .normal a' w') l a) : (Code.region id l.toArray true).wp P Q a w :=
  wp_region_quiet (C := fun w' => ∃ x : Wb w, w' = x.wd) hm hB ⟨⟨w.drew, (Below.refl _ _).drew⟩, rfl⟩ (by simpa using h)
theorem q_wb {x : Wb w} (h : Calls P f args x.wd fun e w' => e = .returned v ∧ Below x.wd.heap.size x.wd w') : Calls P f args x.wd fun e w'' => e = .returned v ∧ ∃ y : Wb w, w'' = y.wd :=
  h.mono fun _ w' ⟨he, hb⟩ => ⟨he, ⟨w', x.h.trans (hb.mono x.h.size)⟩, rfl⟩
theorem q_wb_same {x : Wb w} (h : Calls P f args x.wd fun e w' => e = .returned v ∧ x.wd = w') : Calls P f args x.wd fun e w'' => e = .returned v ∧ ∃ y : Wb w, w'' = y.wd :=
  h.mono fun _ _ ⟨he, hb⟩ => ⟨he, x, hb.symm⟩
theorem q_wb_drew {x : Wb w} (h : Calls P f args x.wd fun e w' => e = .returned v ∧ ∃ m, w' = x.wd.drewN m) : Calls P f args x.wd fun e w'' => e = .returned v ∧ ∃ y : Wb w, w'' = y.wd :=
  h.mono fun _ _ ⟨he, m, hb⟩ => ⟨he, ⟨x.wd.drewN m, below_drewN x.h m⟩, hb⟩
end
theorem LatR.wb {w : World} {b n : Nat} {L : Rel} (h : LatR w b n L) (x : Wb w) : LatR x.wd b n L := h.here x.h
theorem Rm.wb {w : World} {b n : Nat} {L : Rel} (h : Rm w b n L) (hb : b < w.heap.size) (x : Wb w) : Rm x.wd b n L := h.below x.h hb
theorem quiet_rload {C : World → Prop} {a : Act} {o : Oper} {K : Act → Prop} (d : Option Tmp) (x : Operand) (ho : o.op = .load 27 x) (hd : o.dst = d) (b n : Nat) (L : Rel)
    (hx : a.eval x = .pointer (some ⟨b, 0, none⟩)) (hm : ∀ w, C w → Rm w b n L) (hk : K (a.put d (.agg (rv n L)))) : o.quiet Try.prog a C K :=
  ⟨_, fun w hw => by unfold Oper.quietAt; rw [exec_rload a o ho b n L hx (hm w hw)]; exact ⟨rfl, rfl⟩, hd ▸ hk⟩

end Go.Proofs.Ytpikafadfailkaa
