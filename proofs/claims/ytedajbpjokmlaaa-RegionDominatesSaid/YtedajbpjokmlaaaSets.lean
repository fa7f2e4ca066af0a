/- No program: sets of nodes as sorted lists; a sorted list without doublets. -/
import Derived.Test.YtedajbpjokmlaaaLongest
import Derived.Lib.SlicesCompact
import Derived.Sort.OwnSortedInts
namespace Go.Proofs.Ytedajbpjokmlaaa
open Go Go.RowKit
set_option linter.unusedVariables false

theorem same_sets {a b : List Int} (ha : a.Pairwise (fun x y => x < y)) (hb : b.Pairwise (fun x y => x < y)) (h : ∀ x, x ∈ a ↔ x ∈ b) : a = b := by
  have na : a.Nodup := ha.imp fun h => by omega
  have nb : b.Nodup := hb.imp fun h => by omega
  exact List.Perm.eq_of_pairwise (le := fun x y => x < y) (fun x y _ _ h1 h2 => by omega) ha hb ((List.perm_ext_iff_of_nodup na nb).2 h)
theorem compact_upto {zs : List Int} (h : zs.Pairwise (fun x y => x ≤ y)) : ∀ m, m ≤ zs.length → (Go.Lib.compactUpTo zs.toArray m).Pairwise (fun x y => x < y) ∧ ∀ x, x ∈ Go.Lib.compactUpTo zs.toArray m ↔ ∃ j : Nat, j < m ∧ zs.toArray[j]! = x
  | 0, _ => ⟨by simp [Go.Lib.compactUpTo], fun x => by simp [Go.Lib.compactUpTo]⟩
  | m + 1, hm => by
    obtain ⟨h1, h2⟩ := compact_upto h m (by omega)
    have hle : ∀ j k : Nat, j ≤ k → k < zs.length → zs.toArray[j]! ≤ zs.toArray[k]! := fun j k hjk hk => by
      have hj : j < zs.length := by omega
      rw [getElem!_pos zs.toArray j (by simpa using hj), getElem!_pos zs.toArray k (by simpa using hk)]
      rcases Nat.lt_or_ge j k with hlt | hge
      · simpa using List.pairwise_iff_getElem.1 h j k hj hk hlt
      · have : j = k := by omega
        subst this; exact Int.le_refl _
    rw [Go.Lib.compactUpTo_succ]
    cases hk : Go.Lib.keeps zs.toArray m with
    | true =>
      rw [if_pos rfl]
      unfold Go.Lib.keeps at hk
      have hk := of_decide_eq_true hk
      refine ⟨List.pairwise_append.2 ⟨h1, by simp, fun x hx y hy => ?_⟩, fun x => ?_⟩
      · rw [List.mem_singleton.1 hy]
        obtain ⟨j, hj, rfl⟩ := (h2 x).1 hx
        have a1 := hle j (m - 1) (by omega) (by omega)
        have a2 := hle (m - 1) m (by omega) (by omega)
        rcases hk with hk | hk
        · omega
        · omega
      · rw [List.mem_append, h2 x, List.mem_singleton]
        constructor
        · rintro (⟨j, hj, e⟩ | rfl)
          · exact ⟨j, by omega, e⟩
          · exact ⟨m, by omega, rfl⟩
        · rintro ⟨j, hj, e⟩
          by_cases hjm : j = m
          · subst hjm; exact .inr e.symm
          · exact .inl ⟨j, by omega, e⟩
    | false =>
      rw [if_neg (by simp), List.append_nil]
      unfold Go.Lib.keeps at hk
      have hk := of_decide_eq_false hk
      refine ⟨h1, fun x => ?_⟩
      rw [h2 x]
      constructor
      · rintro ⟨j, hj, e⟩; exact ⟨j, by omega, e⟩
      · rintro ⟨j, hj, e⟩
        by_cases hjm : j = m
        · subst hjm
          refine ⟨j - 1, by omega, ?_⟩
          have : zs.toArray[j]! = zs.toArray[j - 1]! := Classical.byContradiction fun h => hk (.inr h)
          rw [← this]; exact e
        · exact ⟨j, by omega, e⟩
theorem compact_sorted {zs : List Int} (h : zs.Pairwise (fun x y => x ≤ y)) : (Go.Lib.compact zs).Pairwise (fun x y => x < y) ∧ ∀ x, x ∈ Go.Lib.compact zs ↔ x ∈ zs := by
  obtain ⟨h1, h2⟩ := compact_upto h zs.length (Nat.le_refl _)
  refine ⟨h1, fun x => (h2 x).trans ?_⟩
  rw [List.mem_iff_getElem]
  constructor
  · rintro ⟨j, hj, e⟩
    exact ⟨j, hj, by rw [← e, getElem!_pos zs.toArray j (by simpa using hj)]; simp⟩
  · rintro ⟨j, hj, e⟩
    exact ⟨j, hj, by rw [← e, getElem!_pos zs.toArray j (by simpa using hj)]; simp⟩
theorem mem_listN {S : Nat → Bool} {n : Nat} {x : Int} : x ∈ listN S n ↔ ∃ k : Nat, x = k ∧ k < n ∧ S k = true := by
  unfold listN
  rw [List.mem_map]
  constructor
  · rintro ⟨k, hk, rfl⟩
    obtain ⟨h1, h2⟩ := List.mem_filter.1 hk
    exact ⟨k, rfl, List.mem_range.1 h1, h2⟩
  · rintro ⟨k, rfl, h1, h2⟩
    exact ⟨k, List.mem_filter.2 ⟨List.mem_range.2 h1, h2⟩, rfl⟩
theorem listN_has {S : Nat → Bool} {n d : Nat} (hd : d < n) : (listN S n).contains (d : Int) = S d := by
  rw [Bool.eq_iff_iff, List.contains_iff_mem, mem_listN]
  constructor
  · rintro ⟨k, h1, h2, h3⟩
    have : d = k := by omega
    subst this; exact h3
  · intro h; exact ⟨d, rfl, hd, h⟩
theorem listN_congr {S T : Nat → Bool} {n : Nat} (h : ∀ k, k < n → S k = T k) : listN S n = listN T n := by
  unfold listN
  congr 1
  exact List.filter_congr fun k hk => h k (List.mem_range.1 hk)
theorem listN_inj {S T : Nat → Bool} {n : Nat} (h : listN S n = listN T n) {k : Nat} (hk : k < n) : S k = T k := by
  rw [← listN_has (S := S) hk, h, listN_has hk]
theorem listN_none {S : Nat → Bool} {n : Nat} (h : ∀ k, k < n → S k = false) : listN S n = [] := by
  unfold listN
  rw [List.filter_eq_nil_iff.2 fun k hk => by rw [h k (List.mem_range.1 hk)]; simp]; rfl
/-- the root, and what is reached from it, sorted, without doublets -/
theorem come_list {g : List GN} {r : Nat} (hr : r < g.length) : Go.Lib.compact ((reachL g r ++ [(r : Int)]).mergeSort fun x y => decide (x ≤ y)) = listN (come g.length (graphE g) r) g.length := by
  have tr : ∀ a b c : Int, decide (a ≤ b) = true → decide (b ≤ c) = true → decide (a ≤ c) = true := fun a b c h1 h2 => by simp at *; omega
  have tt : ∀ a b : Int, (decide (a ≤ b) || decide (b ≤ a)) = true := fun a b => by simp; omega
  have hp := List.pairwise_mergeSort tr tt (reachL g r ++ [(r : Int)])
  obtain ⟨h1, h2⟩ := compact_sorted (hp.imp fun h => of_decide_eq_true h)
  refine same_sets h1 (listN_pairwise _ _) fun x => ?_
  rw [h2 x, (List.mergeSort_perm _ _).mem_iff, List.mem_append, List.mem_singleton, mem_listN]
  have hi : isN g.length (r : Int) = true := by unfold isN; simp; omega
  unfold reachL
  rw [if_pos hi, mem_listN]
  have e : ((r : Int)).toNat = r := by simp
  rw [e]
  unfold come
  constructor
  · rintro (⟨k, h3, h4, h5⟩ | rfl)
    · exact ⟨k, h3, h4, by rw [h5]; simp⟩
    · exact ⟨r, rfl, hr, by simp⟩
  · rintro ⟨k, h3, h4, h5⟩
    rw [Bool.or_eq_true, beq_iff_eq] at h5
    rcases h5 with h5 | h5
    · exact .inr (by omega)
    · exact .inl ⟨k, h3, h4, h5⟩

/-! rows of sets -/
def RowV (w : World) (sb : Nat) (v : Value) (l : List Int) (nn : Bool) : Prop :=
  if nn = true then ∃ b c, v = .slice (some ⟨b, 0, none⟩) l.length c ∧ (b < w.heap.size ∧ b ≠ sb) ∧ ∀ i x, l[i]? = some x → w.cell? ⟨b, i, none⟩ = some (.int .i64 x) else v = .slice none 0 0 ∧ l = []
structure SetsAt (w : World) (sb n : Nat) (C : Nat → Bool) (V : Nat → Value) (L : Nat → List Int) : Prop where
  row : RowF w sb n V
  lt : sb < w.heap.size
  each : ∀ i, i < n → RowV w sb (V i) (L i) (C i)
section
variable {w W : World} {sb n : Nat} {C : Nat → Bool} {V : Nat → Value} {L : Nat → List Int}
theorem RowV.but {v : Value} {l : List Int} {nn : Bool} (h : RowV w sb v l nn) (hb : But w W sb sb) : RowV W sb v l nn := by
  unfold RowV at *
  split
  · rename_i h1
    rw [if_pos h1] at h
    obtain ⟨b, c, h2, h3, h4⟩ := h
    exact ⟨b, c, h2, ⟨Nat.lt_of_lt_of_le h3.1 hb.size, h3.2⟩, fun i x hx => (hb.cell h3.1 h3.2 h3.2).trans (h4 i x hx)⟩
  · rename_i h1
    rw [if_neg h1] at h
    exact h
theorem SetsAt.below (h : SetsAt w sb n C V L) (hb : Below w.heap.size w W) : SetsAt W sb n C V L :=
  ⟨h.row.below hb h.lt, Nat.lt_of_lt_of_le h.lt hb.size, fun i hi => (h.each i hi).but (But.of_below hb _ _)⟩
theorem SetsAt.set (h : SetsAt w sb n C V L) {i : Nat} (hi : i < n) {v : Value} {l : List Int} {nn : Bool} (hv : RowV w sb v l nn) :
    SetsAt (w.setCell ⟨sb, i, none⟩ v) sb n (fun j => if j = i then nn else C j) (fun j => if j = i then v else V j) (fun j => if j = i then l else L j) := by
  refine ⟨h.row.set hi v, by simpa [World.setCell] using h.lt, fun j hj => ?_⟩
  by_cases e : j = i
  · subst e
    simp only [if_true]
    exact hv.but (But.set1 _ _ _ _ _)
  · rw [if_neg e, if_neg e, if_neg e]
    exact (h.each j hj).but (But.set1 _ _ _ _ _)
theorem SetsAt.congr {C' : Nat → Bool} {L' : Nat → List Int} (h : SetsAt w sb n C V L) (hC : ∀ i, i < n → C' i = C i) (hL : ∀ i, i < n → L' i = L i) : SetsAt w sb n C' V L' :=
  ⟨h.row, h.lt, fun i hi => by rw [hC i hi, hL i hi]; exact h.each i hi⟩
end
/-- a list of one's own that has an element, in another block than the row's -/
theorem OwnSl.rowV {w : World} {base sb : Nat} {T : TypeId} {v : Value} {l : List Int} (h : OwnSl T 1 encI w base v l) (hl : l.length ≤ 10000) (h0 : 0 < l.length) (hsb : sb < base) : RowV w sb v l true := by
  unfold RowV
  rw [if_pos rfl]
  obtain ⟨_, A, c, rfl, h2⟩ := h.at encI_len (by omega)
  obtain ⟨b, o, rfl, hlt, hc⟩ := h2 h0
  have ho : o = 0 := by
    rcases h.2 with ⟨h1, _⟩ | ⟨q, cap, cur, h1, _⟩
    · cases h1
    · injection h1 with h1 _ _
      injection h1 with h1
      injection h1 with _ h1 _
  subst ho
  have hb := h.block (b := b) rfl
  refine ⟨b, c, rfl, ⟨hlt, by omega⟩, fun i x hx => ?_⟩
  obtain ⟨ks, h3, h4, h5⟩ := hc i x hx
  have h5' : ks = encI x := h5
  subst h5'
  have := h4 0 (.int .i64 x) rfl
  simpa using this
theorem SetsAt.ints {w : World} {sb n : Nat} {C : Nat → Bool} {V : Nat → Value} {L : Nat → List Int} (h : SetsAt w sb n C V L) {i : Nat} (hi : i < n) (hl : (L i).length ≤ 10000) : IntsV w (V i) (L i) := by
  have h1 := h.each i hi
  unfold RowV at h1
  split at h1
  · obtain ⟨b, c, h2, h3, h4⟩ := h1
    refine ⟨by omega, _, c, h2, fun _ => ⟨b, 0, rfl, h3.1, fun j x hx => ⟨encI x, rfl, fun k v hv => ?_, rfl⟩⟩⟩
    have hk : k = 0 := by have := (List.getElem?_eq_some_iff.1 hv).1; simp [encI] at this; exact this
    subst hk
    have hv' : v = .int .i64 x := by simpa [encI] using hv.symm
    rw [hv', Nat.zero_add, Nat.mul_one, Nat.add_zero]
    exact h4 j x hx
  · obtain ⟨h2, h3⟩ := h1
    rw [h2, h3]; exact SlAt.nil _ _ _ _
/-! a list of one's own is sorted, and made short -/
theorem OwnSl.holds {w : World} {base g n c : Nat} {T : TypeId} {l : List Int} (h : OwnSl T 1 encI w base (.slice (some ⟨g, 0, none⟩) n c) l) : Go.Sort.Holds (Value.int .i64) w g 0 l.toArray := by
  unfold OwnSl at h
  rw [flat_ints] at h
  rcases h.2 with ⟨h1, _⟩ | ⟨q, cap, cur, h1, _, h2, _, _, _, h3⟩
  · cases h1
  · injection h1 with h1 _ _
    injection h1 with h1
    injection h1 with h1 _ _
    subst h1
    rw [Nat.mul_one] at h3
    exact holds_of_blockI h2 h3
theorem OwnSl.sorted {w : World} {base g n c q : Nat} {os : Array Obj} {T : TypeId} {l ts : List Int} (h : OwnSl T 1 encI w base (.slice (some ⟨g, 0, none⟩) n c) l) (hl : ts.length = l.length) :
    OwnSl T 1 encI (Go.Sort.grow (Go.Sort.putRow (Value.int .i64) (Go.Sort.ahead w q) g 0 ts.toArray) os) base (.slice (some ⟨g, 0, none⟩) n c) ts := by
  unfold OwnSl at *
  rw [flat_ints] at *
  rcases h.2 with ⟨h1, _⟩ | ⟨g', cap, cur, h1, h2, h3, h4, h5, h6, h7⟩
  · cases h1
  · injection h1 with h1 e2 e3
    injection h1 with h1
    injection h1 with h1 _ _
    subst h1 e2 e3
    have := ownsRow_sortedI (n := q) (os := os) hl h2 h3 h4 h5 h6
    rw [hl]
    exact this
theorem OwnSl.compacted {w : World} {base g n c q : Nat} {T : TypeId} {l ys : List Int} (h : OwnSl T 1 encI w base (.slice (some ⟨g, 0, none⟩) n c) l) (hl : ys.length ≤ l.length) :
    (∀ i x, ys[i]? = some x → ((w.drewN q).setCells g 0 ((ys ++ List.replicate (l.length - ys.length) 0).map (Value.int .i64))).cell? ⟨g, i, none⟩ = some (.int .i64 x)) ∧ But w ((w.drewN q).setCells g 0 ((ys ++ List.replicate (l.length - ys.length) 0).map (Value.int .i64))) g g := by
  have hh := h.holds
  refine ⟨fun i x hx => ?_, ?_⟩
  · have hi := (List.getElem?_eq_some_iff.1 hx).1
    have hlen : ((ys ++ List.replicate (l.length - ys.length) 0).map (Value.int .i64)).length = l.length := by simp; omega
    have := World.cell?_setCells_in g ((ys ++ List.replicate (l.length - ys.length) 0).map (Value.int .i64)) 0 (w.drewN q) (fun j hj => by
      have := (hh j (by rw [hlen] at hj; simpa using hj)).1
      rw [show (w.drewN q).cell? ⟨g, 0 + j, none⟩ = w.cell? ⟨g, 0 + j, none⟩ from rfl, this]; rfl) i (by rw [hlen]; omega)
    rw [Nat.zero_add] at this
    rw [this]
    have h2 : (ys ++ List.replicate (l.length - ys.length) 0)[i]? = some x := by rw [List.getElem?_append_left hi]; exact hx
    obtain ⟨h3, h4⟩ := List.getElem?_eq_some_iff.1 h2
    rw [List.getElem_map, h4]
  · generalize ((ys ++ List.replicate (l.length - ys.length) 0).map (Value.int .i64)) = vs
    have h1 : But w (w.drewN q) g g := But.of_below (below_drewN (Below.refl _ w) q) g g
    refine h1.trans ?_
    generalize w.drewN q = W
    have : ∀ (vs : List Value) (o : Nat) (W : World), But W (W.setCells g o vs) g g := by
      intro vs
      induction vs with
      | nil => intro o W; exact But.refl _ _ _
      | cons v r ih => intro o W; exact (But.set1 W g g o v).trans (ih (o + 1) _)
    exact this vs 0 W
theorem But.of_grown {w W : World} {g : Nat} (hg : w.grownBy W (some g)) : But w W g g :=
  ⟨hg.os, hg.tape, hg.output, hg.size, fun b hb h1 _ => hg.block b hb (fun e => h1 (by injection e))⟩
end Go.Proofs.Ytedajbpjokmlaaa
