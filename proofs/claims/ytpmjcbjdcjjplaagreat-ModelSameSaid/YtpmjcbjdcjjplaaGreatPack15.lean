/- Parts of a proof: CanonP, Keep, RowG, BoxG. -/
import Derived.Test.YtpmjcbjdcjjplaaGreatPack6
import Derived.Test.YtpmjcbjdcjjplaaGreatPack9
import Derived.Test.YtpmjcbjdcjjplaaGreatPack13
import Derived.Test.YtpmjcbjdcjjplaaGreatPack14
section
namespace Go.Proofs.YtpmjcbjdcjjplaaGreat
open Go
set_option linter.unusedVariables false
def canonF (f : Nat) : Nat := if nanB f = true then 9221120237041090560 else f
theorem canonF_nan {f : Nat} (h : nanB f = true) : cmpF (canonF f) f = 0 := by
  have h1 : nanB 9221120237041090560 = true := by decide +kernel
  unfold canonF
  rw [if_pos h]
  unfold cmpF
  rw [h1, h]
  rfl
theorem canonF_same (f : Nat) : cmpF (canonF f) f = 0 := by
  by_cases h : nanB f = true
  · exact canonF_nan h
  · unfold canonF
    rw [if_neg h]
    exact cmpF_good.refl f
mutual
def canonV : VT → VT
  | .mk k n f s ns its => .mk k n (canonF f) s ns (canonL its)
def canonL : List VT → List VT
  | [] => []
  | a :: l => canonV a :: canonL l
end
theorem canonL_map : ∀ l : List VT, canonL l = l.map canonV
  | [] => by rw [canonL]; rfl
  | a :: l => by rw [canonL, canonL_map l]; rfl
theorem canonL_len (l : List VT) : (canonL l).length = l.length := by rw [canonL_map, List.length_map]
theorem listC_zero {α : Type} {f : α → α → Int} (g : α → α) : ∀ l : List α, (∀ x ∈ l, f (g x) x = 0) → listC f (l.map g) l = 0
  | [], _ => rfl
  | a :: l, h => by
    show (if f (g a) a ≠ 0 then f (g a) a else listC f (l.map g) l) = 0
    rw [if_neg (by rw [h a (List.mem_cons_self ..)]; omega)]
    exact listC_zero g l fun x hx => h x (List.mem_cons_of_mem _ hx)
theorem canon_same (t : VT) : ordV (canonV t) t = 0 := by
  induction t using VT.ind with
  | h k n f s ns its ih =>
    rw [canonV, ordV, ordL_eq, canonL_map]
    rw [if_neg (by rw [cmpI_zero rfl]; omega)]
    have hr : rowV k n n (canonF f) f s s ns ns = 0 := by
      unfold rowV or3
      have e1 := cmpI_zero (rfl : n = n)
      have e2 := cmpS_good.refl s
      have e3 := cmpS_good.list.refl ns
      have e4 := canonF_same f
      rw [e1, e2, e3, e4]
      repeat' split
      all_goals first | rfl | omega
    rw [hr]
    by_cases hl : leafK k = true
    · rw [if_pos (.inr hl)]
    · rw [if_neg (by rintro (h | h); exact h rfl; exact hl h)]
      exact listC_zero canonV its ih
end Go.Proofs.YtpmjcbjdcjjplaaGreat
end
section
namespace Go.Proofs.YtpmjcbjdcjjplaaGreat
open Go Go.RowKit
set_option linter.unusedVariables false
def Kept (p : Nat → Prop) (w : World) (cs : List Value) (t : VT) : Prop := ValAt (only w p) w.heap.size cs t
theorem Kept.val {p : Nat → Prop} {w : World} {cs : List Value} {t : VT} (h : Kept p w cs t) : ValAt w w.heap.size cs t := ValAt.cells h fun a v hv => (only_cell.1 hv).2
theorem Kept.to {p q : Nat → Prop} {w w' : World} {cs : List Value} {t : VT} (h : Kept p w cs t) (hb : ∀ b, p b → b < w.heap.size → q b ∧ w'.heap[b]? = w.heap[b]?) (hs : w.heap.size ≤ w'.heap.size) : Kept q w' cs t :=
  (ValAt.cells h (only_to hb)).more hs
abbrev Cells6 := {ks : List Value // ks.length = 6}
def enc6 (k : Cells6) : List Value := k.1
theorem enc6_len (k : Cells6) : (enc6 k).length = 6 := k.2
structure CanInv (TV : TypeId) (W u : World) (v : Value) (l : List VT) (i : Nat) (KL : List Cells6) : Prop where
  own : OwnSl TV 6 enc6 u W.heap.size v KL
  len : KL.length = i
  bel : Below W.heap.size W u
  els : ∀ (j : Nat) k x, KL[j]? = some k → l[j]? = some x → Kept (fun b => W.heap.size ≤ b ∧ some b ≠ v.ownBlock) u k.1 (canonV x)
theorem CanInv.start (TV : TypeId) (W : World) (l : List VT) : CanInv TV W W (.slice none 0 0) l 0 [] := ⟨OwnSl.nil _ _, rfl, Below.refl _ _, fun j k x hk _ => by cases hk⟩
theorem CanInv.next {TV : TypeId} {W u u5 u6 u7 u8 : World} {v v' : Value} {l : List VT} {i : Nat} {KL : List Cells6} (h : CanInv TV W u v l i KL) (h5 : Below u.heap.size u u5) (h6 : Below u5.heap.size u5 u6) (h7 : Below u6.heap.size u6 u7) {k : Cells6} {x : VT} (hx : l[i]? = some x)
    (hk : Kept (fun b => u5.heap.size ≤ b) u6 k.1 (canonV x)) (hown : OwnSl TV 6 enc6 u8 W.heap.size v' (KL ++ [k])) (hg : u7.grownBy u8 v.ownBlock) (hb : v'.ownBlock = v.ownBlock ∨ v'.ownBlock = some u7.heap.size) :
    CanInv TV W u8 v' l (i + 1) (KL ++ [k]) := by
  have h57 := h5.trans ((h6.trans (h7.mono h6.size)).mono h5.size)
  have hblk : ∀ b, b < u.heap.size → some b ≠ v.ownBlock → some b ≠ v'.ownBlock ∧ u8.heap[b]? = u.heap[b]? := fun b hlt hne => by
    have e1 := h57.block b hlt
    have e2 := hg.block b (Nat.lt_of_lt_of_le hlt h57.size) hne
    refine ⟨?_, e2.trans e1⟩
    rcases hb with hb | hb
    · rw [hb]; exact hne
    · rw [hb]
      intro e
      injection e with e
      have := h57.size
      omega
  have hnew : ∀ b, u5.heap.size ≤ b → b < u6.heap.size → some b ≠ v'.ownBlock ∧ u8.heap[b]? = u6.heap[b]? := fun b hge hlt => by
    have hne : some b ≠ v.ownBlock := fun e => by
      have := own_lt h.own e.symm
      have := h5.size
      omega
    have e1 := h7.block b hlt
    have e2 := hg.block b (Nat.lt_of_lt_of_le hlt h7.size) hne
    refine ⟨?_, e2.trans e1⟩
    rcases hb with hb | hb
    · rw [hb]; exact hne
    · rw [hb]
      intro e
      injection e with e
      have := h7.size
      omega
  have hbase := h.bel.size
  refine ⟨hown, by rw [List.length_append, h.len]; rfl, ?_, fun j k' y hk' hy => ?_⟩
  · refine ⟨hg.os.trans (h57.os.trans h.bel.os), hg.tape.trans (h57.tape.trans h.bel.tape), hg.output.trans (h57.output.trans h.bel.output), ?_, fun b hlt => ?_⟩
    · have := hg.size
      have := h57.size
      omega
    · have hne : some b ≠ v.ownBlock := fun e => by
        have := h.own.block e.symm
        omega
      exact (hblk b (by omega) hne).2.trans (h.bel.block b hlt)
  · rcases Nat.lt_or_ge j KL.length with hj | hj
    · rw [List.getElem?_append_left hj] at hk'
      refine (h.els j k' y hk' hy).to (fun b hp hlt => ⟨⟨hp.1, (hblk b hlt hp.2).1⟩, (hblk b hlt hp.2).2⟩) ?_
      have := hg.size
      have := h57.size
      omega
    · rw [List.getElem?_append_right hj] at hk'
      have hj2 : j = KL.length := by
        have := (List.getElem?_eq_some_iff.1 hk').1
        simp only [List.length_singleton] at this
        omega
      rw [hj2, Nat.sub_self] at hk'
      injection hk' with hk'
      subst hk'
      have e : y = x := by
        rw [hj2, h.len, hx] at hy
        injection hy with hy
        exact hy.symm
      subst e
      refine hk.to (fun b hp hlt => ⟨⟨?_, (hnew b hp hlt).1⟩, (hnew b hp hlt).2⟩) ?_
      · have := h5.size
        omega
      · have := hg.size
        have := h7.size
        omega
theorem CanInv.row {TV : TypeId} {W u u' : World} {v : Value} {l : List VT} {KL : List Cells6} {B : Nat} (h : CanInv TV W u v l l.length KL) (hl : l.length ≤ maxLen) (hB : B ≤ W.heap.size) (hk : ∀ b, W.heap.size ≤ b → b < u.heap.size → u'.heap[b]? = u.heap[b]?) (hs : u.heap.size ≤ u'.heap.size) :
    SlAt (only u' (fun b => B ≤ b)) u'.heap.size 6 (ValAt (only u' (fun b => B ≤ b)) u'.heap.size) v (canonL l) := by
  have hlen : (canonL l).length = l.length := canonL_len l
  refine ⟨by rw [hlen]; exact Nat.le_trans hl maxLen_small, ?_⟩
  rcases h.own.2 with ⟨rfl, h0⟩ | ⟨g, cap, cur, hv, hg, _, _⟩
  · rw [h.len] at h0
    exact ⟨none, 0, by rw [hlen, h0], fun h1 => by omega⟩
  · refine ⟨some ⟨g, 0, none⟩, cap, by rw [hv, hlen, h.len], fun _ => ?_⟩
    have hown : v.ownBlock = some g := by rw [hv]; rfl
    have hlt := own_lt h.own hown
    refine ⟨g, 0, rfl, by omega, fun i x hx => ?_⟩
    rw [canonL_map, List.getElem?_map, Option.map_eq_some_iff] at hx
    obtain ⟨y, hy, rfl⟩ := hx
    have hi := (List.getElem?_eq_some_iff.1 hy).1
    have hki : KL[i]? = some (KL[i]'(by rw [h.len]; exact hi)) := List.getElem?_eq_getElem _
    refine ⟨_, (KL[i]'(by rw [h.len]; exact hi)).2, fun j c hc => ?_, ?_⟩
    · refine only_cell.2 ⟨?_, ?_⟩
      · show B ≤ g
        omega
      · refine (World.cell?_of_block (a := ⟨g, _, none⟩) (hk g hg hlt)).trans ?_
        have := World.ownsRow.cells h.own hown (i * 6 + j) c (flat_at enc6_len KL i _ hki j c hc)
        rw [Addr.add_mid] at this
        rw [show 0 + i * 6 + j = 0 + (i * 6 + j) by omega]; exact this
    · exact (h.els i _ y hki hy).to (fun b hp hb => ⟨Nat.le_trans hB hp.1, hk b hp.1 hb⟩) hs
end Go.Proofs.YtpmjcbjdcjjplaaGreat
end
section
namespace Go.Proofs.YtpmjcbjdcjjplaaGreat
open Go Go.RowKit
set_option linter.unusedVariables false
structure RowInv (TV : TypeId) (W u : World) (v : Value) (vs : List VT) (KL : List Cells6) : Prop where
  own : OwnSl TV 6 enc6 u W.heap.size v KL
  len : KL.length = vs.length
  bel : Below W.heap.size W u
  els : ∀ (j : Nat) k x, KL[j]? = some k → vs[j]? = some x → Kept (fun b => W.heap.size ≤ b ∧ some b ≠ v.ownBlock) u k.1 x
theorem RowInv.start (TV : TypeId) (W : World) : RowInv TV W W (.slice none 0 0) [] [] := ⟨OwnSl.nil _ _, rfl, Below.refl _ _, fun j k x hk _ => by cases hk⟩
theorem RowInv.next {TV : TypeId} {W u u5 u6 u7 u8 : World} {v v' : Value} {vs : List VT} {KL : List Cells6} (h : RowInv TV W u v vs KL) (h5 : Below u.heap.size u u5) (h6 : Below u5.heap.size u5 u6) (h7 : Below u6.heap.size u6 u7) {k : Cells6} {x : VT}
    (hk : Kept (fun b => u5.heap.size ≤ b) u6 k.1 x) (hown : OwnSl TV 6 enc6 u8 W.heap.size v' (KL ++ [k])) (hg : u7.grownBy u8 v.ownBlock) (hb : v'.ownBlock = v.ownBlock ∨ v'.ownBlock = some u7.heap.size) :
    RowInv TV W u8 v' (vs ++ [x]) (KL ++ [k]) := by
  have h57 := h5.trans ((h6.trans (h7.mono h6.size)).mono h5.size)
  have hblk : ∀ b, b < u.heap.size → some b ≠ v.ownBlock → some b ≠ v'.ownBlock ∧ u8.heap[b]? = u.heap[b]? := fun b hlt hne => by
    have e1 := h57.block b hlt
    have e2 := hg.block b (Nat.lt_of_lt_of_le hlt h57.size) hne
    refine ⟨?_, e2.trans e1⟩
    rcases hb with hb | hb
    · rw [hb]; exact hne
    · rw [hb]
      intro e
      injection e with e
      have := h57.size
      omega
  have hnew : ∀ b, u5.heap.size ≤ b → b < u6.heap.size → some b ≠ v'.ownBlock ∧ u8.heap[b]? = u6.heap[b]? := fun b hge hlt => by
    have hne : some b ≠ v.ownBlock := fun e => by
      have := own_lt h.own e.symm
      have := h5.size
      omega
    have e1 := h7.block b hlt
    have e2 := hg.block b (Nat.lt_of_lt_of_le hlt h7.size) hne
    refine ⟨?_, e2.trans e1⟩
    rcases hb with hb | hb
    · rw [hb]; exact hne
    · rw [hb]
      intro e
      injection e with e
      have := h7.size
      omega
  have hbase := h.bel.size
  refine ⟨hown, by rw [List.length_append, List.length_append, h.len]; rfl, ?_, fun j k' y hk' hy => ?_⟩
  · refine ⟨hg.os.trans (h57.os.trans h.bel.os), hg.tape.trans (h57.tape.trans h.bel.tape), hg.output.trans (h57.output.trans h.bel.output), ?_, fun b hlt => ?_⟩
    · have := hg.size
      have := h57.size
      omega
    · have hne : some b ≠ v.ownBlock := fun e => by
        have := h.own.block e.symm
        omega
      exact (hblk b (by omega) hne).2.trans (h.bel.block b hlt)
  · rcases Nat.lt_or_ge j KL.length with hj | hj
    · rw [List.getElem?_append_left hj] at hk'
      rw [List.getElem?_append_left (by rw [← h.len]; exact hj)] at hy
      refine (h.els j k' y hk' hy).to (fun b hp hlt => ⟨⟨hp.1, (hblk b hlt hp.2).1⟩, (hblk b hlt hp.2).2⟩) ?_
      have := hg.size
      have := h57.size
      omega
    · rw [List.getElem?_append_right hj] at hk'
      have hj2 : j = KL.length := by
        have := (List.getElem?_eq_some_iff.1 hk').1
        simp only [List.length_singleton] at this
        omega
      rw [hj2, Nat.sub_self] at hk'
      injection hk' with hk'
      subst hk'
      have e : y = x := by
        rw [hj2, h.len, List.getElem?_append_right (Nat.le_refl _), Nat.sub_self] at hy
        injection hy with hy
        exact hy.symm
      subst e
      refine hk.to (fun b hp hlt => ⟨⟨?_, (hnew b hp hlt).1⟩, (hnew b hp hlt).2⟩) ?_
      · have := h5.size
        omega
      · have := hg.size
        have := h7.size
        omega
theorem RowInv.row {TV : TypeId} {W u u' : World} {v : Value} {vs : List VT} {KL : List Cells6} {B : Nat} (h : RowInv TV W u v vs KL) (hl : vs.length ≤ maxLen) (hB : B ≤ W.heap.size) (hk : ∀ b, W.heap.size ≤ b → b < u.heap.size → u'.heap[b]? = u.heap[b]?) (hs : u.heap.size ≤ u'.heap.size) :
    SlAt (only u' (fun b => B ≤ b)) u'.heap.size 6 (ValAt (only u' (fun b => B ≤ b)) u'.heap.size) v vs := by
  refine ⟨Nat.le_trans hl maxLen_small, ?_⟩
  rcases h.own.2 with ⟨rfl, h0⟩ | ⟨g, cap, cur, hv, hg, _, _⟩
  · rw [h.len] at h0
    exact ⟨none, 0, by rw [← h0], fun h1 => by omega⟩
  · refine ⟨some ⟨g, 0, none⟩, cap, by rw [hv, h.len], fun _ => ?_⟩
    have hown : v.ownBlock = some g := by rw [hv]; rfl
    have hlt := own_lt h.own hown
    refine ⟨g, 0, rfl, by omega, fun i x hx => ?_⟩
    have hi := (List.getElem?_eq_some_iff.1 hx).1
    have hki : KL[i]? = some (KL[i]'(by rw [h.len]; exact hi)) := List.getElem?_eq_getElem _
    refine ⟨_, (KL[i]'(by rw [h.len]; exact hi)).2, fun j c hc => ?_, ?_⟩
    · refine only_cell.2 ⟨?_, ?_⟩
      · show B ≤ g
        omega
      · refine (World.cell?_of_block (a := ⟨g, _, none⟩) (hk g hg hlt)).trans ?_
        have := World.ownsRow.cells h.own hown (i * 6 + j) c (flat_at enc6_len KL i _ hki j c hc)
        rw [Addr.add_mid] at this
        rw [show 0 + i * 6 + j = 0 + (i * 6 + j) by omega]; exact this
    · exact (h.els i _ x hki hx).to (fun b hp hb => ⟨Nat.le_trans hB hp.1, hk b hp.1 hb⟩) hs
end Go.Proofs.YtpmjcbjdcjjplaaGreat
end
section
namespace Go.Proofs.YtpmjcbjdcjjplaaGreat
open Go Go.RowKit
set_option linter.unusedVariables false
structure RowC (TV : TypeId) (B : Nat) (u : World) (v : Value) (vs : List VT) (KL : List Cells6) : Prop where
  own : OwnSl TV 6 enc6 u B v KL
  len : KL.length = vs.length
  sz : B ≤ u.heap.size
  els : ∀ (j : Nat) k x, KL[j]? = some k → vs[j]? = some x → Kept (fun b => B ≤ b ∧ some b ≠ v.ownBlock) u k.1 x
theorem RowC.start (TV : TypeId) {B : Nat} {u : World} (h : B ≤ u.heap.size) : RowC TV B u (.slice none 0 0) [] [] := ⟨OwnSl.nil _ _, rfl, h, fun j k x hk _ => by cases hk⟩
theorem RowC.next {TV : TypeId} {B : Nat} {u u6 u7 u8 : World} {v v' : Value} {vs : List VT} {KL : List Cells6} (h : RowC TV B u v vs KL) (h6 : Below u.heap.size u u6) (h7 : Below u6.heap.size u6 u7) {k : Cells6} {x : VT}
    (hk : Kept (fun b => u.heap.size ≤ b) u6 k.1 x) (hown : OwnSl TV 6 enc6 u8 B v' (KL ++ [k])) (hg : u7.grownBy u8 v.ownBlock) (hb : v'.ownBlock = v.ownBlock ∨ v'.ownBlock = some u7.heap.size) :
    RowC TV B u8 v' (vs ++ [x]) (KL ++ [k]) := by
  have h57 := h6.trans (h7.mono h6.size)
  have hsz := h.sz
  have hblk : ∀ b, b < u.heap.size → some b ≠ v.ownBlock → some b ≠ v'.ownBlock ∧ u8.heap[b]? = u.heap[b]? := fun b hlt hne => by
    have e1 := h57.block b hlt
    have e2 := hg.block b (Nat.lt_of_lt_of_le hlt h57.size) hne
    refine ⟨?_, e2.trans e1⟩
    rcases hb with hb | hb
    · rw [hb]; exact hne
    · rw [hb]
      intro e
      injection e with e
      have := h57.size
      omega
  have hnew : ∀ b, u.heap.size ≤ b → b < u6.heap.size → some b ≠ v'.ownBlock ∧ u8.heap[b]? = u6.heap[b]? := fun b hge hlt => by
    have hne : some b ≠ v.ownBlock := fun e => by
      have := own_lt h.own e.symm
      omega
    have e1 := h7.block b hlt
    have e2 := hg.block b (Nat.lt_of_lt_of_le hlt h7.size) hne
    refine ⟨?_, e2.trans e1⟩
    rcases hb with hb | hb
    · rw [hb]; exact hne
    · rw [hb]
      intro e
      injection e with e
      have := h7.size
      omega
  refine ⟨hown, by rw [List.length_append, List.length_append, h.len]; rfl, ?_, fun j k' y hk' hy => ?_⟩
  · have := hg.size
    have := h57.size
    omega
  · rcases Nat.lt_or_ge j KL.length with hj | hj
    · rw [List.getElem?_append_left hj] at hk'
      rw [List.getElem?_append_left (by rw [← h.len]; exact hj)] at hy
      refine (h.els j k' y hk' hy).to (fun b hp hlt => ⟨⟨hp.1, (hblk b hlt hp.2).1⟩, (hblk b hlt hp.2).2⟩) ?_
      have := hg.size
      have := h57.size
      omega
    · rw [List.getElem?_append_right hj] at hk'
      have hj2 : j = KL.length := by
        have := (List.getElem?_eq_some_iff.1 hk').1
        simp only [List.length_singleton] at this
        omega
      rw [hj2, Nat.sub_self] at hk'
      injection hk' with hk'
      subst hk'
      have e : y = x := by
        rw [hj2, h.len, List.getElem?_append_right (Nat.le_refl _), Nat.sub_self] at hy
        injection hy with hy
        exact hy.symm
      subst e
      refine hk.to (fun b hp hlt => ⟨⟨by omega, (hnew b hp hlt).1⟩, (hnew b hp hlt).2⟩) ?_
      have := hg.size
      have := h7.size
      omega
theorem RowC.store {TV : TypeId} {B p : Nat} {u u' : World} {v : Value} {vs : List VT} {KL : List Cells6} (h : RowC TV B u v vs KL) (hb : But u u' p p) (hp : p < B) : RowC TV B u' v vs KL := by
  refine ⟨World.ownsRow.kept h.own (row := some p) ⟨hb.os, hb.tape, hb.output, hb.size, fun i hi hne => hb.block i hi (fun e => hne (by rw [e])) (fun e => hne (by rw [e]))⟩ ?_, h.len, Nat.le_trans h.sz hb.size, fun j k x hk hx => ?_⟩
  · exact .inr fun e => by have := h.own.block e; omega
  · exact (h.els j k x hk hx).to (fun b hq _ => ⟨hq, hb.block b ‹_› (by omega) (by omega)⟩) hb.size
theorem RowC.row {TV : TypeId} {B C : Nat} {u u' : World} {v : Value} {vs : List VT} {KL : List Cells6} (h : RowC TV B u v vs KL) (hl : vs.length ≤ maxLen) (hB : C ≤ B) (hk : ∀ b, B ≤ b → b < u.heap.size → u'.heap[b]? = u.heap[b]?) (hs : u.heap.size ≤ u'.heap.size) :
    SlAt (only u' (fun b => C ≤ b)) u'.heap.size 6 (ValAt (only u' (fun b => C ≤ b)) u'.heap.size) v vs := by
  refine ⟨Nat.le_trans hl maxLen_small, ?_⟩
  rcases h.own.2 with ⟨rfl, h0⟩ | ⟨g, cap, cur, hv, hg, _, _⟩
  · rw [h.len] at h0
    exact ⟨none, 0, by rw [← h0], fun h1 => by omega⟩
  · refine ⟨some ⟨g, 0, none⟩, cap, by rw [hv, h.len], fun _ => ?_⟩
    have hown : v.ownBlock = some g := by rw [hv]; rfl
    have hlt := own_lt h.own hown
    refine ⟨g, 0, rfl, by omega, fun i x hx => ?_⟩
    have hi := (List.getElem?_eq_some_iff.1 hx).1
    have hki : KL[i]? = some (KL[i]'(by rw [h.len]; exact hi)) := List.getElem?_eq_getElem _
    refine ⟨_, (KL[i]'(by rw [h.len]; exact hi)).2, fun j c hc => ?_, ?_⟩
    · refine only_cell.2 ⟨?_, ?_⟩
      · show C ≤ g
        omega
      · refine (World.cell?_of_block (a := ⟨g, _, none⟩) (hk g hg hlt)).trans ?_
        have := World.ownsRow.cells h.own hown (i * 6 + j) c (flat_at enc6_len KL i _ hki j c hc)
        rw [Addr.add_mid] at this
        rw [show 0 + i * 6 + j = 0 + (i * 6 + j) by omega]; exact this
    · exact (h.els i _ x hki hx).to (fun b hp hb => ⟨Nat.le_trans hB hp.1, hk b hp.1 hb⟩) hs
theorem Whole.putM {T : TypeId} {w : World} {b : Nat} {pre post : List Value} {v0 v : Value} (h : Whole T w b (pre ++ v0 :: post)) : Whole T (w.setCell ⟨b, pre.length, none⟩ v) b (pre ++ v :: post) := by
  show (w.heap.modify b _)[b]? = _
  rw [Array.getElem?_modify, if_pos rfl, (show w.heap[b]? = _ from h)]
  simp
theorem Whole.frozV {T : TypeId} {w : World} {b j : Nat} {cs : List Value} (h : Whole T w b cs) (hj : j < cs.length) : w.frozen? ⟨b, j, none⟩ = false := by
  have := (h.there j hj).2
  rwa [Nat.zero_add] at this
section
variable {P : Program} {ops : Array Oper} {S : World → Prop} {Q : Exit → Act → World → Prop} {i : Nat} {r : List (Nat × Bool)} {a : Act} {w : World} {o : Oper}
end
end Go.Proofs.YtpmjcbjdcjjplaaGreat
end
