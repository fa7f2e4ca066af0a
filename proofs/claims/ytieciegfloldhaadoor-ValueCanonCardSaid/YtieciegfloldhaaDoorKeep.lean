/- No program: values whose memory lies in some blocks alone. -/
import Derived.Test.YtieciegfloldhaaDoorTree
import Derived.Test.YtieciegfloldhaaDoorCanonP
namespace Go.Proofs.YtieciegfloldhaaDoor
open Go Go.RowKit
set_option linter.unusedVariables false

open Classical in
/-- a world of which some blocks alone are left -/
noncomputable def only (w : World) (p : Nat → Prop) : World := { w with heap := w.heap.mapIdx fun b o => if p b then o else .deferred none }
theorem only_cell {w : World} {p : Nat → Prop} {a : Addr} {v : Value} : (only w p).cell? a = some v ↔ p a.block ∧ w.cell? a = some v := by
  unfold only World.cell?
  simp only [Array.getElem?_mapIdx]
  cases h : w.heap[a.block]? with
  | none => simp
  | some o =>
    by_cases hp : p a.block
    · simp [hp]
    · simp [hp]
theorem only_size (w : World) (p : Nat → Prop) : (only w p).heap.size = w.heap.size := by simp [only]
theorem cell_lt {w : World} {a : Addr} {v : Value} (h : w.cell? a = some v) : a.block < w.heap.size := by
  unfold World.cell? at h
  rcases Nat.lt_or_ge a.block w.heap.size with h1 | h1
  · exact h1
  · rw [Array.getElem?_eq_none h1] at h; cases h
section
variable {w w' : World} {B : Nat}
theorem rangeAt_cells {b o : Nat} {cs : List Value} (h : w.rangeAt b o cs) (hc : ∀ a v, w.cell? a = some v → w'.cell? a = some v) : w'.rangeAt b o cs := fun j v hv => hc _ _ (h j v hv)
theorem SlAt.cells {α : Type} {k : Nat} {R R' : List Value → α → Prop} {v : Value} {l : List α} (h : SlAt w B k R v l) (hc : ∀ a v, w.cell? a = some v → w'.cell? a = some v) (hR : ∀ cs x, x ∈ l → R cs x → R' cs x) : SlAt w' B k R' v l := by
  obtain ⟨h0, A, c, rfl, h1⟩ := h
  refine ⟨h0, A, c, rfl, fun hp => ?_⟩
  obtain ⟨b, o, rfl, hlt, h2⟩ := h1 hp
  refine ⟨b, o, rfl, hlt, fun i x hx => ?_⟩
  obtain ⟨cs, h3, h4, h5⟩ := h2 i x hx
  exact ⟨cs, h3, rangeAt_cells h4 hc, hR cs x (List.mem_of_getElem? hx) h5⟩
theorem ValAt.cells {cs : List Value} {t : VT} (h : ValAt w B cs t) (hc : ∀ a v, w.cell? a = some v → w'.cell? a = some v) : ValAt w' B cs t := by
  induction h with
  | mk b o css hk hn hf hs hns hl hA hcc hi ih =>
    exact .mk b o css hk hn hf hs (hns.cells hc fun _ _ _ h => h) hl hA (fun i h => ⟨(hcc i h).1, rangeAt_cells (hcc i h).2 hc⟩) ih
end

/-- a value all of whose memory lies in the blocks p -/
def Kept (p : Nat → Prop) (w : World) (cs : List Value) (t : VT) : Prop := ValAt (only w p) w.heap.size cs t
theorem Kept.val {p : Nat → Prop} {w : World} {cs : List Value} {t : VT} (h : Kept p w cs t) : ValAt w w.heap.size cs t := ValAt.cells h fun a v hv => (only_cell.1 hv).2
theorem only_to {p q : Nat → Prop} {w w' : World} (hb : ∀ b, p b → b < w.heap.size → q b ∧ w'.heap[b]? = w.heap[b]?) : ∀ a v, (only w p).cell? a = some v → (only w' q).cell? a = some v := fun a v hv => by
  obtain ⟨h1, h2⟩ := only_cell.1 hv
  obtain ⟨h3, h4⟩ := hb a.block h1 (cell_lt h2)
  exact only_cell.2 ⟨h3, (World.cell?_of_block h4).trans h2⟩
theorem Kept.to {p q : Nat → Prop} {w w' : World} {cs : List Value} {t : VT} (h : Kept p w cs t) (hb : ∀ b, p b → b < w.heap.size → q b ∧ w'.heap[b]? = w.heap[b]?) (hs : w.heap.size ≤ w'.heap.size) : Kept q w' cs t :=
  (ValAt.cells h (only_to hb)).more hs
def KeptS (p : Nat → Prop) (w : World) (v : Value) (ns : List ByteArray) : Prop := SlAt (only w p) w.heap.size 1 StrR v ns
theorem KeptS.to {p q : Nat → Prop} {w w' : World} {v : Value} {ns : List ByteArray} (h : KeptS p w v ns) (hb : ∀ b, p b → b < w.heap.size → q b ∧ w'.heap[b]? = w.heap[b]?) (hs : w.heap.size ≤ w'.heap.size) : KeptS q w' v ns :=
  (SlAt.cells h (only_to hb) fun _ _ _ h => h).more hs

theorem own_lt {α : Type} {T : TypeId} {k base b : Nat} {enc : α → List Value} {w : World} {v : Value} {l : List α} (h : OwnSl T k enc w base v l) (hb : v.ownBlock = some b) : b < w.heap.size := by
  rcases h.2 with ⟨rfl, _⟩ | ⟨g, cap, cur, rfl, _, hg, _⟩
  · cases hb
  · have : g = b := by simpa [Value.ownBlock] using hb
    subst this
    rcases Nat.lt_or_ge g w.heap.size with h2 | h2
    · exact h2
    · rw [Array.getElem?_eq_none h2] at hg; cases hg
abbrev Cells6 := {ks : List Value // ks.length = 6}
def enc6 (k : Cells6) : List Value := k.1
theorem enc6_len (k : Cells6) : (enc6 k).length = 6 := k.2
/-- behind so many rounds of Canon's loop: the items made lie in the call's own row, and what they hold in other blocks of its own -/
structure CanInv (TV : TypeId) (W u : World) (v : Value) (l : List VT) (i : Nat) (KL : List Cells6) : Prop where
  own : OwnSl TV 6 enc6 u W.heap.size v KL
  len : KL.length = i
  bel : Below W.heap.size W u
  els : ∀ (j : Nat) k x, KL[j]? = some k → l[j]? = some x → Kept (fun b => W.heap.size ≤ b ∧ some b ≠ v.ownBlock) u k.1 (canonV x)
theorem CanInv.start (TV : TypeId) (W : World) (l : List VT) : CanInv TV W W (.slice none 0 0) l 0 [] := ⟨OwnSl.nil _ _, rfl, Below.refl _ _, fun j k x hk _ => by cases hk⟩
theorem CanInv.next {TV : TypeId} {W u u5 u6 u7 u8 : World} {v v' : Value} {l : List VT} {i : Nat} {KL : List Cells6} (h : CanInv TV W u v l i KL) (h5 : Below u.heap.size u u5) (h6 : Below u5.heap.size u5 u6) (h7 : Below u6.heap.size u6 u7) {k : Cells6} {x : VT} (hx : l[i]? = some x)
    (hk : Kept (fun b => u5.heap.size ≤ b) u6 k.1 (canonV x)) (hown : OwnSl TV 6 enc6 u8 W.heap.size v' (KL ++ [k])) (hg : u7.grownBy u8 v.ownBlock) (hb : v'.ownBlock = v.ownBlock ∨ v'.ownBlock = some u7.heap.size) :
    CanInv TV W u8 v' l (i + 1) (KL ++ [k]) := by
  have h57 := h5.trans ((h6.trans (h7.mono h6.size)).mono h5.size)
  have hblk : ∀ b, b < u.heap.size → some b ≠ v.ownBlock → some b ≠ v'.ownBlock ∧ u8.heap[b]? = u.heap[b]? := fun b hlt hne => by
    have e1 := h57.block b hlt
    have e2 := hg.block b (Nat.lt_of_lt_of_le hlt h57.size) hne
    refine ⟨?_, e2.trans e1⟩
    rcases hb with hb | hb
    · rw [hb]; exact hne
    · rw [hb]
      intro e
      injection e with e
      have := h57.size
      omega
  have hnew : ∀ b, u5.heap.size ≤ b → b < u6.heap.size → some b ≠ v'.ownBlock ∧ u8.heap[b]? = u6.heap[b]? := fun b hge hlt => by
    have hne : some b ≠ v.ownBlock := fun e => by
      have := own_lt h.own e.symm
      have := h5.size
      omega
    have e1 := h7.block b hlt
    have e2 := hg.block b (Nat.lt_of_lt_of_le hlt h7.size) hne
    refine ⟨?_, e2.trans e1⟩
    rcases hb with hb | hb
    · rw [hb]; exact hne
    · rw [hb]
      intro e
      injection e with e
      have := h7.size
      omega
  have hbase := h.bel.size
  refine ⟨hown, by rw [List.length_append, h.len]; rfl, ?_, fun j k' y hk' hy => ?_⟩
  · refine ⟨hg.os.trans (h57.os.trans h.bel.os), hg.tape.trans (h57.tape.trans h.bel.tape), hg.output.trans (h57.output.trans h.bel.output), ?_, fun b hlt => ?_⟩
    · have := hg.size
      have := h57.size
      omega
    · have hne : some b ≠ v.ownBlock := fun e => by
        have := h.own.block e.symm
        omega
      exact (hblk b (by omega) hne).2.trans (h.bel.block b hlt)
  · rcases Nat.lt_or_ge j KL.length with hj | hj
    · rw [List.getElem?_append_left hj] at hk'
      refine (h.els j k' y hk' hy).to (fun b hp hlt => ⟨⟨hp.1, (hblk b hlt hp.2).1⟩, (hblk b hlt hp.2).2⟩) ?_
      have := hg.size
      have := h57.size
      omega
    · rw [List.getElem?_append_right hj] at hk'
      have hj2 : j = KL.length := by
        have := (List.getElem?_eq_some_iff.1 hk').1
        simp only [List.length_singleton] at this
        omega
      rw [hj2, Nat.sub_self] at hk'
      injection hk' with hk'
      subst hk'
      have e : y = x := by
        rw [hj2, h.len, hx] at hy
        injection hy with hy
        exact hy.symm
      subst e
      refine hk.to (fun b hp hlt => ⟨⟨?_, (hnew b hp hlt).1⟩, (hnew b hp hlt).2⟩) ?_
      · have := h5.size
        omega
      · have := hg.size
        have := h7.size
        omega
/-- the row of all, behind the loop: in whatever later world that keeps the call's own blocks -/
theorem CanInv.row {TV : TypeId} {W u u' : World} {v : Value} {l : List VT} {KL : List Cells6} {B : Nat} (h : CanInv TV W u v l l.length KL) (hl : l.length ≤ maxLen) (hB : B ≤ W.heap.size) (hk : ∀ b, W.heap.size ≤ b → b < u.heap.size → u'.heap[b]? = u.heap[b]?) (hs : u.heap.size ≤ u'.heap.size) :
    SlAt (only u' (fun b => B ≤ b)) u'.heap.size 6 (ValAt (only u' (fun b => B ≤ b)) u'.heap.size) v (canonL l) := by
  have hlen : (canonL l).length = l.length := canonL_len l
  refine ⟨by rw [hlen]; exact Nat.le_trans hl maxLen_small, ?_⟩
  rcases h.own.2 with ⟨rfl, h0⟩ | ⟨g, cap, cur, hv, hg, _, _⟩
  · rw [h.len] at h0
    exact ⟨none, 0, by rw [hlen, h0], fun h1 => by omega⟩
  · refine ⟨some ⟨g, 0, none⟩, cap, by rw [hv, hlen, h.len], fun _ => ?_⟩
    have hown : v.ownBlock = some g := by rw [hv]; rfl
    have hlt := own_lt h.own hown
    refine ⟨g, 0, rfl, by omega, fun i x hx => ?_⟩
    rw [canonL_map, List.getElem?_map, Option.map_eq_some_iff] at hx
    obtain ⟨y, hy, rfl⟩ := hx
    have hi := (List.getElem?_eq_some_iff.1 hy).1
    have hki : KL[i]? = some (KL[i]'(by rw [h.len]; exact hi)) := List.getElem?_eq_getElem _
    refine ⟨_, (KL[i]'(by rw [h.len]; exact hi)).2, fun j c hc => ?_, ?_⟩
    · refine only_cell.2 ⟨?_, ?_⟩
      · show B ≤ g
        omega
      · refine (World.cell?_of_block (a := ⟨g, _, none⟩) (hk g hg hlt)).trans ?_
        have := World.ownsRow.cells h.own hown (i * 6 + j) c (flat_at enc6_len KL i _ hki j c hc)
        rw [Addr.add_mid] at this
        rw [show 0 + i * 6 + j = 0 + (i * 6 + j) by omega]; exact this
    · exact (h.els i _ y hki hy).to (fun b hp hb => ⟨Nat.le_trans hB hp.1, hk b hp.1 hb⟩) hs
end Go.Proofs.YtieciegfloldhaaDoor
