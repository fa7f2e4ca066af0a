/- Parts of a proof: But0, ParS, ValP. -/
import Derived.Lib.Bytealg
import Derived.Laws.Strings
import Derived.Test.YtpmjcbjdcjjplaaGreatPack4
section
namespace Go.Proofs.YtpmjcbjdcjjplaaGreat
open Go Go.RowKit
set_option linter.unusedVariables false
structure But (w W : World) (p q : Nat) : Prop where
  os : W.os = w.os
  tape : W.tape = w.tape
  output : W.output = w.output
  size : w.heap.size ≤ W.heap.size
  block : ∀ b, b < w.heap.size → b ≠ p → b ≠ q → W.heap[b]? = w.heap[b]?
section
variable {w W Z : World} {p q : Nat}
theorem But.refl (w : World) (p q : Nat) : But w w p q := ⟨rfl, rfl, rfl, Nat.le_refl _, fun _ _ _ _ => rfl⟩
theorem But.trans (h : But w W p q) (k : But W Z p q) : But w Z p q :=
  ⟨k.os.trans h.os, k.tape.trans h.tape, k.output.trans h.output, Nat.le_trans h.size k.size, fun b hb h1 h2 => (k.block b (Nat.lt_of_lt_of_le hb h.size) h1 h2).trans (h.block b hb h1 h2)⟩
theorem But.set1 (w : World) (p q i : Nat) (v : Value) : But w (w.setCell ⟨p, i, none⟩ v) p q :=
  ⟨rfl, rfl, rfl, by simp [World.setCell], fun b _ h1 _ => Below.heap_setCell w ⟨p, i, none⟩ v b h1⟩
theorem But.own (h : But w W p q) {row : Option Nat} (hg : W.grownBy Z row) (hr : ∀ r, row = some r → w.heap.size ≤ r) : But w Z p q :=
  ⟨hg.os.trans h.os, hg.tape.trans h.tape, hg.output.trans h.output, Nat.le_trans h.size hg.size, fun b hb h1 h2 => (hg.block b (Nat.lt_of_lt_of_le hb h.size) (fun e => by have := hr b e.symm; omega)).trans (h.block b hb h1 h2)⟩
theorem But.cell (h : But w W p q) {b o : Nat} (hb : b < w.heap.size) (h1 : b ≠ p) (h2 : b ≠ q) : W.cell? ⟨b, o, none⟩ = w.cell? ⟨b, o, none⟩ := World.cell?_of_block (a := ⟨b, o, none⟩) (h.block b hb h1 h2)
theorem But.below (h : But w W p q) {B : Nat} (hB : B ≤ w.heap.size) (hp : B ≤ p) (hq : B ≤ q) : Below B w W := ⟨h.os, h.tape, h.output, h.size, fun b hb => h.block b (by omega) (by omega) (by omega)⟩
end
end Go.Proofs.YtpmjcbjdcjjplaaGreat
end
section
namespace Go.Proofs.YtpmjcbjdcjjplaaGreat
open Go Go.RowKit
set_option linter.unusedVariables false
structure Tok where
  kind : Int
  at_ : Int
  next : Int
  n : Int
  f : Nat
  s : ByteArray
def tokC (t : Tok) : List Value := [.int .i64 t.kind, .int .i64 t.at_, .int .i64 t.next, .int .i64 t.n, .float .f64 t.f, .string t.s]
structure PS (T : TypeId) (pb tb c : Nat) (E : Int) (toks : List Tok) (w : World) (i : Nat) (d : Int) : Prop where
  blk : w.heap[pb]? = some (.cells #[.slice (some ⟨tb, 0, none⟩) toks.length c, .int .i64 (i : Nat), .int .i64 E, .int .i64 0, .int .i64 0, .int .i64 d] T (0, 0))
  ne : tb ≠ pb
  lt : tb < w.heap.size ∧ pb < w.heap.size
  tok : ∀ (j : Nat) t, toks[j]? = some t → w.rangeAt tb (j * 6) (tokC t)
  len : (toks.length : Int) ≤ 100000
section
variable {T : TypeId} {pb tb c : Nat} {E : Int} {toks : List Tok} {w w' : World} {i : Nat} {d : Int}
theorem PS.cell (h : PS T pb tb c E toks w i d) (k : Nat) : w.cell? ⟨pb, k, none⟩ = (#[Value.slice (some ⟨tb, 0, none⟩) toks.length c, .int .i64 (i : Nat), .int .i64 E, .int .i64 0, .int .i64 0, .int .i64 d] : Array Value)[k]? :=
  cell_of_row w pb k _ T _ h.blk
theorem But.setAt (w : World) (p k : Nat) (v : Value) : But w (w.setCell ⟨p, k, none⟩ v) p p := But.set1 w p p k v
theorem PS.keep (h : PS T pb tb c E toks w i d) (hb : Below w.heap.size w w') : PS T pb tb c E toks w' i d :=
  ⟨(hb.block pb h.lt.2).trans h.blk, h.ne, ⟨Nat.lt_of_lt_of_le h.lt.1 hb.size, Nat.lt_of_lt_of_le h.lt.2 hb.size⟩, fun j t ht => rangeAt_below (h.tok j t ht) hb h.lt.1, h.len⟩
end
theorem ExpAt.cells {w w' : World} {B : Nat} {cs : List Value} {t : ET} (h : ExpAt w B cs t) (hc : ∀ a v, w.cell? a = some v → w'.cell? a = some v) : ExpAt w' B cs t := by
  induction h with
  | mk b o css hk hs hv hns hl hA hcc hi ih =>
    exact .mk b o css hk hs (hv.cells hc) (hns.cells hc fun _ _ _ h => h) hl hA (fun i h => ⟨(hcc i h).1, rangeAt_cells (hcc i h).2 hc⟩) ih
def KeptE (pb : Nat) (w : World) (cs : List Value) (t : ET) : Prop := ExpAt (only w (fun b => b ≠ pb)) w.heap.size cs t
theorem KeptE.exp {pb : Nat} {w : World} {cs : List Value} {t : ET} (h : KeptE pb w cs t) : ExpAt w w.heap.size cs t := ExpAt.cells h fun a v hv => (only_cell.1 hv).2
theorem KeptE.next {pb : Nat} {w w' : World} {cs : List Value} {t : ET} (h : KeptE pb w cs t) (hb : But w w' pb pb) : KeptE pb w' cs t :=
  (ExpAt.cells h (only_to fun b hp hlt => ⟨hp, hb.block b hlt hp hp⟩)).more hb.size
end Go.Proofs.YtpmjcbjdcjjplaaGreat
end
section
namespace Go.Proofs.YtpmjcbjdcjjplaaGreat
open Go
set_option linter.unusedVariables false
structure Cmp {α : Type} (f : α → α → Int) : Prop where
  anti : ∀ a b, f b a = - f a b
  trans : ∀ a b c, f a b ≤ 0 → f b c ≤ 0 → f a c ≤ 0
def cmpI (a b : Int) : Int := if a < b then -1 else if b < a then 1 else 0
def cmpS (a b : ByteArray) : Int := Lib.compareBytes a.data.toList b.data.toList
def listC {α : Type} (f : α → α → Int) : List α → List α → Int
  | [], [] => 0
  | [], _ :: _ => -1
  | _ :: _, [] => 1
  | a :: l, b :: r => if f a b ≠ 0 then f a b else listC f l r
theorem cmpI_good : Cmp cmpI := ⟨fun a b => by unfold cmpI; split <;> split <;> omega, fun a b c h1 h2 => by
  unfold cmpI at *
  split at h1 <;> split at h2 <;> split <;> try split
  all_goals (first | omega | (split at h1 <;> omega) | (split at h2 <;> omega) | (split at h1 <;> split at h2 <;> omega))⟩
theorem u8_tri (a b : UInt8) : a < b ∨ a = b ∨ b < a := by
  rcases Nat.lt_trichotomy a.toNat b.toNat with h | h | h
  · exact .inl (UInt8.lt_iff_toNat_lt.2 h)
  · exact .inr (.inl (UInt8.toNat_inj.1 h))
  · exact .inr (.inr (UInt8.lt_iff_toNat_lt.2 h))
theorem compareBytes_anti : ∀ a b : List UInt8, Lib.compareBytes b a = - Lib.compareBytes a b
  | [], [] => rfl
  | [], _ :: _ => rfl
  | _ :: _, [] => rfl
  | a :: as1, b :: bs => by
    unfold Lib.compareBytes
    rcases u8_tri a b with h | h | h
    · rw [if_neg (UInt8.lt_asymm h), if_pos h, if_pos h]; rfl
    · subst h
      simp only [UInt8.lt_irrefl, if_false]
      exact compareBytes_anti as1 bs
    · rw [if_pos h, if_neg (UInt8.lt_asymm h), if_pos h]
theorem compareBytes_trans : ∀ a b c : List UInt8, Lib.compareBytes a b ≤ 0 → Lib.compareBytes b c ≤ 0 → Lib.compareBytes a c ≤ 0
  | [], b, [], h1, h2 => by simp [Lib.compareBytes]
  | [], b, _ :: _, h1, h2 => by simp [Lib.compareBytes]
  | a :: as1, [], c, h1, h2 => by simp [Lib.compareBytes] at h1
  | a :: as1, b :: bs, [], h1, h2 => by simp [Lib.compareBytes] at h2
  | a :: as1, b :: bs, c :: cs, h1, h2 => by
    unfold Lib.compareBytes at h1 h2 ⊢
    rcases u8_tri a b with h | h | h
    · rcases u8_tri b c with k | k | k
      · rw [if_pos (UInt8.lt_trans h k)]; omega
      · subst k; rw [if_pos h]; omega
      · rw [if_neg (UInt8.lt_asymm k), if_pos k] at h2; omega
    · subst h
      rw [if_neg (UInt8.lt_irrefl a), if_neg (UInt8.lt_irrefl a)] at h1
      rcases u8_tri a c with k | k | k
      · rw [if_pos k]; omega
      · subst k
        rw [if_neg (UInt8.lt_irrefl a), if_neg (UInt8.lt_irrefl a)] at h2 ⊢
        exact compareBytes_trans as1 bs cs h1 h2
      · rw [if_neg (UInt8.lt_asymm k), if_pos k] at h2; omega
    · rw [if_neg (UInt8.lt_asymm h), if_pos h] at h1; omega
theorem cmpS_good : Cmp cmpS := ⟨fun a b => compareBytes_anti _ _, fun a b c => compareBytes_trans _ _ _⟩
section
variable {α : Type} {f : α → α → Int}
theorem Cmp.refl (h : Cmp f) (a : α) : f a a = 0 := by have := h.anti a a; omega
theorem Cmp.lt_le (h : Cmp f) {a b c : α} (h1 : f a b < 0) (h2 : f b c ≤ 0) : f a c < 0 := by
  rcases Int.lt_or_le (f a c) 0 with h3 | h3
  · exact h3
  · have h4 := h.anti a c
    have h5 := h.trans b c a h2 (by omega)
    have := h.anti a b
    omega
theorem Cmp.le_lt (h : Cmp f) {a b c : α} (h1 : f a b ≤ 0) (h2 : f b c < 0) : f a c < 0 := by
  rcases Int.lt_or_le (f a c) 0 with h3 | h3
  · exact h3
  · have h4 := h.anti a c
    have h5 := h.trans c a b (by omega) h1
    have := h.anti b c
    omega
theorem Cmp.then {g : α → α → Int} (h : Cmp f) (k : Cmp g) : Cmp fun a b => if f a b ≠ 0 then f a b else g a b := by
  refine ⟨fun a b => ?_, fun a b c h1 h2 => ?_⟩
  · have := h.anti a b
    have := k.anti a b
    split <;> split <;> omega
  · by_cases e1 : f a b = 0
    · rw [if_neg (by omega)] at h1
      by_cases e2 : f b c = 0
      · rw [if_neg (by omega)] at h2
        have h3 := h.trans a b c (by omega) (by omega)
        by_cases e3 : f a c = 0
        · rw [if_neg (by omega)]; exact k.trans a b c h1 h2
        · rw [if_pos e3]; exact h3
      · rw [if_pos e2] at h2
        have := h.le_lt (show f a b ≤ 0 by omega) (show f b c < 0 by omega)
        rw [if_pos (by omega)]; omega
    · rw [if_pos e1] at h1
      have h4 : f b c ≤ 0 := by
        by_cases e2 : f b c = 0
        · omega
        · rw [if_pos e2] at h2; exact h2
      have := h.lt_le (show f a b < 0 by omega) h4
      rw [if_pos (by omega)]; omega
theorem Cmp.on {β : Type} (h : Cmp f) (g : β → α) : Cmp fun a b => f (g a) (g b) := ⟨fun a b => h.anti _ _, fun a b c => h.trans _ _ _⟩
theorem listC_anti : ∀ l r : List α, (∀ a ∈ l, ∀ b ∈ r, f b a = - f a b) → listC f r l = - listC f l r
  | [], [], _ => rfl
  | [], _ :: _, _ => rfl
  | _ :: _, [], _ => rfl
  | a :: l, b :: r, h => by
    unfold listC
    have h1 := h a (List.mem_cons_self ..) b (List.mem_cons_self ..)
    have h2 := listC_anti l r fun x hx y hy => h x (List.mem_cons_of_mem _ hx) y (List.mem_cons_of_mem _ hy)
    split <;> split <;> omega
theorem listC_trans : ∀ l r t : List α, (∀ a ∈ l, ∀ b ∈ r, ∀ c ∈ t, (f a b ≤ 0 → f b c ≤ 0 → f a c ≤ 0) ∧ (f a b < 0 → f b c ≤ 0 → f a c < 0) ∧ (f a b ≤ 0 → f b c < 0 → f a c < 0)) → listC f l r ≤ 0 → listC f r t ≤ 0 → listC f l t ≤ 0
  | [], r, [], _, _, _ => by simp [listC]
  | [], r, _ :: _, _, _, _ => by simp [listC]
  | a :: l, [], t, _, h1, _ => by simp [listC] at h1
  | a :: l, b :: r, [], _, _, h2 => by simp [listC] at h2
  | a :: l, b :: r, c :: t, h, h1, h2 => by
    unfold listC at h1 h2 ⊢
    obtain ⟨k1, k2, k3⟩ := h a (List.mem_cons_self ..) b (List.mem_cons_self ..) c (List.mem_cons_self ..)
    have ih := listC_trans l r t fun x hx y hy z hz => h x (List.mem_cons_of_mem _ hx) y (List.mem_cons_of_mem _ hy) z (List.mem_cons_of_mem _ hz)
    by_cases e1 : f a b = 0
    · rw [if_neg (by omega)] at h1
      by_cases e2 : f b c = 0
      · rw [if_neg (by omega)] at h2
        have h3 := k1 (by omega) (by omega)
        by_cases e3 : f a c = 0
        · rw [if_neg (by omega)]; exact ih h1 h2
        · rw [if_pos e3]; exact h3
      · rw [if_pos e2] at h2
        have := k3 (by omega) (by omega)
        rw [if_pos (by omega)]; omega
    · rw [if_pos e1] at h1
      have h4 : f b c ≤ 0 := by
        by_cases e2 : f b c = 0
        · omega
        · rw [if_pos e2] at h2; exact h2
      have := k2 (by omega) h4
      rw [if_pos (by omega)]; omega
theorem Cmp.list (h : Cmp f) : Cmp (listC f) :=
  ⟨fun l r => listC_anti l r fun a _ b _ => h.anti a b, fun l r t => listC_trans l r t fun a _ b _ c _ => ⟨h.trans a b c, h.lt_le, h.le_lt⟩⟩
end
def fOrd (a b : Nat) : Option Ordering := FloatKind.f64.format.order a b
def nanB (a : Nat) : Bool := fOrd a a != some .eq
def rankZ (a : Nat) : Int := if (fOrd a 0 == some .eq) = true ∧ a ≠ 0 then -1 else 0
def cmpF (a b : Nat) : Int :=
  if nanB a ≠ nanB b then (if nanB a = true then 1 else -1) else if nanB a = true then 0
  else if (fOrd a b == some .lt) = true ∨ (fOrd a b == some .eq) = true ∧ rankZ a < rankZ b then -1
  else if (fOrd a b == some .gt) = true ∨ (fOrd a b == some .eq) = true ∧ rankZ b < rankZ a then 1 else 0
open Ieee in
def clsD : Datum → Int
  | .infinity s => if s then -1 else 1
  | _ => 0
open Ieee in
def valD : Datum → Int
  | .number s m i => signed s m (i + 1074).toNat
  | _ => 0
open Ieee in
def nanD : Datum → Int
  | .nan .. => 1
  | _ => 0
open Ieee in
def lowD : Datum → Prop
  | .number _ _ i => -1074 ≤ i
  | _ => True
open Ieee in
theorem signed_up (s : Bool) (m a k : Nat) : signed s m (a + k) = signed s m a * (2 ^ k : Nat) := by
  unfold signed
  have h : ((m <<< (a + k) : Nat) : Int) = ((m <<< a : Nat) : Int) * ((2 ^ k : Nat) : Int) := by
    rw [Nat.shiftLeft_eq, Nat.shiftLeft_eq, Nat.pow_add, ← Nat.mul_assoc, Int.natCast_mul]
  cases s
  · simpa using h
  · simp only [if_true]
    rw [h, Int.neg_mul]
theorem cmp_scale (x y : Int) (k : Nat) : cmpI (x * (2 ^ k : Nat)) (y * (2 ^ k : Nat)) = cmpI x y := by
  have hp : (0 : Int) < ((2 ^ k : Nat) : Int) := by have : 0 < 2 ^ k := Nat.two_pow_pos k; omega
  unfold cmpI
  simp only [show (x * ((2 ^ k : Nat) : Int) < y * ((2 ^ k : Nat) : Int)) = (x < y) from propext (Int.mul_lt_mul_right hp), show (y * ((2 ^ k : Nat) : Int) < x * ((2 ^ k : Nat) : Int)) = (y < x) from propext (Int.mul_lt_mul_right hp)]
theorem compare_cmpI (x y : Int) : (compare x y = .lt ↔ cmpI x y = -1) ∧ (compare x y = .eq ↔ cmpI x y = 0) ∧ (compare x y = .gt ↔ cmpI x y = 1) := by
  unfold cmpI
  rcases Int.lt_trichotomy x y with h | h | h
  · rw [if_pos h, Int.compare_eq_lt.2 h]; simp
  · subst h
    rw [if_neg (Int.lt_irrefl x), if_neg (Int.lt_irrefl x), Int.compare_eq_eq.2 rfl]; simp
  · rw [if_neg (by omega), if_pos h, Int.compare_eq_gt.2 h]; simp
open Ieee in
def cmpD (d e : Datum) : Int := if cmpI (clsD d) (clsD e) ≠ 0 then cmpI (clsD d) (clsD e) else cmpI (valD d) (valD e)
open Ieee in
theorem order_cmp (d e : Datum) (hd : lowD d) (he : lowD e) (nd : nanD d = 0) (ne : nanD e = 0) :
    (d.order e = some .lt ↔ cmpD d e = -1) ∧ (d.order e = some .eq ↔ cmpD d e = 0) ∧ (d.order e = some .gt ↔ cmpD d e = 1) := by
  cases d with
  | nan => simp [nanD] at nd
  | infinity s =>
    cases e with
    | nan => simp [nanD] at ne
    | infinity t => cases s <;> cases t <;> decide
    | number t n j => cases s <;> simp [Datum.order, cmpD, clsD, cmpI]
  | number s m i =>
    cases e with
    | nan => simp [nanD] at ne
    | infinity t => cases t <;> simp [Datum.order, cmpD, clsD, cmpI]
    | number t n j =>
      have h1 : -1074 ≤ i := hd
      have h2 : -1074 ≤ j := he
      have hb : cmpD (.number s m i) (.number t n j) = cmpI (signed s m (i - min i j).toNat) (signed t n (j - min i j).toNat) := by
        have h0 : cmpI (clsD (.number s m i)) (clsD (.number t n j)) = 0 := by simp [clsD, cmpI]
        unfold cmpD
        rw [if_neg (by omega)]
        show cmpI (signed s m (i + 1074).toNat) (signed t n (j + 1074).toNat) = _
        rw [show (i + 1074).toNat = (i - min i j).toNat + (min i j + 1074).toNat by omega, show (j + 1074).toNat = (j - min i j).toNat + (min i j + 1074).toNat by omega, signed_up, signed_up, cmp_scale]
      rw [hb]
      have := compare_cmpI (signed s m (i - min i j).toNat) (signed t n (j - min i j).toNat)
      simpa [Datum.order] using this
open Ieee in
theorem read_low (x : Nat) : lowD (FloatKind.f64.format.read x) := by
  unfold Format.read
  dsimp only
  have hp : Format.leastPlace FloatKind.f64.format = -1074 := by decide
  split
  · show -1074 ≤ _
    rw [hp]; decide
  · split
    · show -1074 ≤ _
      rw [hp]; omega
    · split <;> trivial
def dat (a : Nat) : Ieee.Datum := FloatKind.f64.format.read a
theorem ordB_eq (a b : Nat) : fOrd a b = (dat a).order (dat b) := rfl
open Ieee in
theorem order_nan (d e : Datum) (h : nanD d ≠ 0 ∨ nanD e ≠ 0) : d.order e = none := by
  cases d <;> cases e <;> first | rfl | (simp [nanD] at h)
theorem nanB_eq (a : Nat) : nanB a = decide (nanD (dat a) ≠ 0) := by
  unfold nanB
  rw [ordB_eq]
  by_cases h : nanD (dat a) = 0
  · rw [(order_cmp (dat a) (dat a) (read_low a) (read_low a) h h).2.1.2 (by unfold cmpD; simp [cmpI])]
    simp [h]
  · rw [order_nan _ _ (.inl h)]
    simp [h]
theorem cmpI_zero {a b : Int} (h : a = b) : cmpI a b = 0 := by subst h; unfold cmpI; simp
theorem cmpI_val (a b : Int) : cmpI a b = -1 ∧ a < b ∨ cmpI a b = 0 ∧ a = b ∨ cmpI a b = 1 ∧ b < a := by
  unfold cmpI
  split
  · exact .inl ⟨rfl, by omega⟩
  · split
    · exact .inr (.inr ⟨rfl, by omega⟩)
    · exact .inr (.inl ⟨rfl, by omega⟩)
theorem cmpD_val (d e : Ieee.Datum) : cmpD d e = -1 ∨ cmpD d e = 0 ∨ cmpD d e = 1 := by
  unfold cmpD
  have h1 := cmpI_val (clsD d) (clsD e)
  have h2 := cmpI_val (valD d) (valD e)
  split <;> omega
theorem nanD_val (d : Ieee.Datum) : nanD d = 0 ∨ nanD d = 1 := by cases d <;> simp [nanD]
theorem nan_cls (d : Ieee.Datum) (h : nanD d ≠ 0) : clsD d = 0 ∧ valD d = 0 := by cases d <;> simp_all [nanD, clsD, valD]
theorem rankZ_nan (a : Nat) (h : nanD (dat a) ≠ 0) : rankZ a = 0 := by
  unfold rankZ
  rw [ordB_eq, order_nan _ _ (.inl h)]
  simp
def cmpF' (a b : Nat) : Int := if cmpI (nanD (dat a)) (nanD (dat b)) ≠ 0 then cmpI (nanD (dat a)) (nanD (dat b)) else if cmpD (dat a) (dat b) ≠ 0 then cmpD (dat a) (dat b) else cmpI (rankZ a) (rankZ b)
theorem cmpF_eq (a b : Nat) : cmpF a b = cmpF' a b := by
  unfold cmpF cmpF'
  rw [nanB_eq, nanB_eq]
  rcases nanD_val (dat a) with ha | ha <;> rcases nanD_val (dat b) with hb | hb
  · rw [ha, hb]
    simp only [ne_eq, not_true_eq_false, decide_false, if_false, Bool.false_eq_true, cmpI_zero]
    obtain ⟨h1, h2, h3⟩ := order_cmp (dat a) (dat b) (read_low a) (read_low b) ha hb
    have h1' : (fOrd a b == some .lt) = true ↔ cmpD (dat a) (dat b) = -1 := by rw [beq_iff_eq]; exact h1
    have h2' : (fOrd a b == some .eq) = true ↔ cmpD (dat a) (dat b) = 0 := by rw [beq_iff_eq]; exact h2
    have h3' : (fOrd a b == some .gt) = true ↔ cmpD (dat a) (dat b) = 1 := by rw [beq_iff_eq]; exact h3
    simp only [h1', h2', h3']
    have h4 := cmpD_val (dat a) (dat b)
    have h5 := cmpI_val (rankZ a) (rankZ b)
    split <;> split <;> (try split) <;> omega
  · rw [ha, hb]; simp [cmpI]
  · rw [ha, hb]; simp [cmpI]
  · rw [ha, hb]
    have := nan_cls (dat a) (by omega)
    have := nan_cls (dat b) (by omega)
    rw [rankZ_nan a (by omega), rankZ_nan b (by omega)]
    unfold cmpD
    simp_all [cmpI]
theorem cmpF_good : Cmp cmpF := by
  have h : cmpF = cmpF' := funext fun a => funext fun b => cmpF_eq a b
  rw [h]
  exact (cmpI_good.on fun a => nanD (dat a)).then (((cmpI_good.on fun a => clsD (dat a)).then (cmpI_good.on fun a => valD (dat a))).then (cmpI_good.on rankZ))
end Go.Proofs.YtpmjcbjdcjjplaaGreat
end
