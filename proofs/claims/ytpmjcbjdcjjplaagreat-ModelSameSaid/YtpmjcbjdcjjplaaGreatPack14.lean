/- Parts of a proof: VName, VBare, VRight, Typ. -/
import Derived.Laws.IdiomStrings
import Derived.Test.YtpmjcbjdcjjplaaGreatPack13
section
namespace Go.Proofs.YtpmjcbjdcjjplaaGreat
open Go Go.RowKit
set_option linter.unusedVariables false
set_option linter.unusedSimpArgs false
def okC (i : Nat) (c : UInt8) : Bool := (decide (97 ≤ c.toNat) && decide (c.toNat ≤ 122)) || (decide (0 < i) && (c.toNat == 95 || (decide (48 ≤ c.toNat) && decide (c.toNat ≤ 57))))
def okFrom : List UInt8 → Nat → Bool
  | [], _ => true
  | c :: l, i => okC i c && okFrom l (i + 1)
def nameB (s : ByteArray) : Bool := decide (0 < s.size) && decide (s.size ≤ 30) && okFrom s.data.toList 0
end Go.Proofs.YtpmjcbjdcjjplaaGreat
end
section
namespace Go.Proofs.YtpmjcbjdcjjplaaGreat
open Go Go.RowKit
set_option linter.unusedVariables false
def bareB (a b c d : Bool) (n : Int) (f : Nat) (s : ByteArray) (ns its : Nat) : Bool := (a || n == 0) && ((b || cmpF f 0 == 0) && ((c || s.toList.isEmpty) && (d || (ns == 0 && its == 0))))
def riseB : Option ByteArray → List ByteArray → Bool
  | _, [] => true
  | none, s :: l => nameB s && riseB (some s) l
  | some p, s :: l => nameB s && (Op.bytesLess p.toList s.toList && riseB (some s) l)
mutual
def cntV : VT → Nat → Nat
  | .mk _ _ _ _ _ its, n => cntL its (n + 1)
def cntL : List VT → Nat → Nat
  | [], n => n
  | a :: l, n => if 500 ≤ n then n else cntL l (cntV a n)
end
end Go.Proofs.YtpmjcbjdcjjplaaGreat
end
section
namespace Go.Proofs.YtpmjcbjdcjjplaaGreat
open Go Go.RowKit
set_option linter.unusedVariables false
mutual
def rightV : VT → Nat → Bool
  | .mk k n f s ns its, d =>
    if 12 < d then false
    else if k = 1 then bareB true false false false n f s ns.length its.length && (n / 2 == 0)
    else if k = 2 then bareB true false false false n f s ns.length its.length
    else if k = 3 then bareB false true false false n f s ns.length its.length
    else if k = 4 then bareB false false true false n f s ns.length its.length && decide (s.size ≤ 200)
    else if k = 6 then (ns.length == its.length) && (riseB none ns && (bareB false false false true n f s ns.length its.length && rightL its (d + 1)))
    else if k = 5 then bareB false false false true n f s ns.length its.length && ((ns.length == 0) && rightL its (d + 1))
    else false
def rightL : List VT → Nat → Bool
  | [], _ => true
  | a :: l, d => rightV a d && rightL l d
end
end Go.Proofs.YtpmjcbjdcjjplaaGreat
end
section
namespace Go.Proofs.YtpmjcbjdcjjplaaGreat
open Go Go.RowKit
set_option linter.unusedVariables false
set_option linter.unusedSimpArgs false
theorem TypAt.next {w w' : World} {cs : List Value} {t : TT} (h : TypAt w w.heap.size cs t) (hb : Below w.heap.size w w') : TypAt w' w'.heap.size cs t := (h.under hb).more hb.size
theorem typs_at {w : World} {v : Value} {l : List TT} (h : SlAt w w.heap.size 3 (TypAt w w.heap.size) v l) : ∃ A c, v = .slice A l.length c ∧ l.length ≤ 9223372036854775807 ∧
    (0 < l.length → ∃ b o, A = some ⟨b, o, none⟩ ∧ b < w.heap.size ∧ ∀ (i : Nat) x, l[i]? = some x → ∃ cs : List Value, w.rangeAt b (o + i * 3) cs ∧ TypAt w w.heap.size cs x) := by
  obtain ⟨h0, A, c, h1, h2⟩ := h
  refine ⟨A, c, h1, h0, fun hp => ?_⟩
  obtain ⟨b, o, h3, h4, h5⟩ := h2 hp
  refine ⟨b, o, h3, h4, fun i x hx => ?_⟩
  obtain ⟨cs, _, h7, h8⟩ := h5 i x hx
  exact ⟨cs, h7, h8⟩
theorem typ_one {w : World} {B : Nat} {cs : List Value} {t : TT} (h : TypAt w B cs t) : cs.length = 3 ∧ ∀ u ∈ cs, u.oneCell' = true := by
  cases t with
  | mk k ns its =>
    have h9 := h.one
    obtain ⟨vn, vi, rfl, _, h1, _, h2⟩ := h.inv
    exact ⟨rfl, h9⟩
mutual
def cntT : TT → Nat → Nat
  | .mk _ _ its, n => cntTL its (n + 1)
def cntTL : List TT → Nat → Nat
  | [], n => n
  | a :: l, n => if 500 ≤ n then n else cntTL l (cntT a n)
end
theorem cntTL_le : ∀ (l : List TT) (n : Nat), (∀ x ∈ l, ∀ m, m < 500 → cntT x m ≤ 500) → n ≤ 500 → cntTL l n ≤ 500
  | [], n, _, h => by rw [cntTL]; exact h
  | a :: l, n, h, hn => by
    rw [cntTL]
    split
    · exact hn
    · exact cntTL_le l _ (fun x hx => h x (List.mem_cons_of_mem _ hx)) (h a (List.mem_cons_self ..) n (by omega))
theorem cntT_le (t : TT) : ∀ m, m < 500 → cntT t m ≤ 500 := by
  induction t using TT.ind with
  | h k ns its ih => exact fun m hm => by rw [cntT]; exact cntTL_le its _ ih (by omega)
theorem cntTL_step {l : List TT} {k m : Nat} {x : TT} (h : l[k]? = some x) : cntTL (l.drop k) m = if 500 ≤ m then m else cntTL (l.drop (k + 1)) (cntT x m) := by
  rw [drop_at h, cntTL]
theorem cntTL_end {l : List TT} {m : Nat} : cntTL (l.drop l.length) m = m := by
  rw [List.drop_eq_nil_of_le (Nat.le_refl _), cntTL]
end Go.Proofs.YtpmjcbjdcjjplaaGreat
end
