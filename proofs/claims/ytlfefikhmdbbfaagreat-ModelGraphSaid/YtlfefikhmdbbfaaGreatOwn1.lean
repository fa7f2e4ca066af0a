/- slices.Clone of nodes that are edges alone. -/
import Derived.Test.YtlfefikhmdbbfaaGreatOwn0
namespace Go.Proofs.YtlfefikhmdbbfaaGreat
open Go Go.RowKit
set_option linter.unusedVariables false

abbrev Cells29 := {ks : List Value // ks.length = 29}
theorem list_of {α : Type} {n : Nat} {P : Nat → α → Prop} (h : ∀ i, i < n → ∃ x, P i x) : ∃ l : List α, l.length = n ∧ ∀ (i : Nat) x, l[i]? = some x → P i x := by
  induction n with
  | zero => exact ⟨[], rfl, fun i x hx => by cases hx⟩
  | succ n ih =>
    obtain ⟨l, h1, h2⟩ := ih fun i hi => h i (Nat.lt_succ_of_lt hi)
    obtain ⟨x, hx⟩ := h n (Nat.lt_succ_self n)
    refine ⟨l ++ [x], by rw [List.length_append, h1]; rfl, fun i y hy => ?_⟩
    rcases Nat.lt_or_ge i l.length with hi | hi
    · rw [List.getElem?_append_left hi] at hy
      exact h2 i y hy
    · rw [List.getElem?_append_right hi] at hy
      have : i = n := by
        have := (List.getElem?_eq_some_iff.1 hy).1
        simp only [List.length_singleton] at this
        omega
      subst this
      rw [h1, Nat.sub_self] at hy
      injection hy with hy
      rw [← hy]; exact hx
/-- the cells of a slice of plain nodes -/
theorem PlainAt.cells {w : World} {v : Value} {L : List (List Int × Int)} (h : PlainAt w v L) : ∃ (KL : List Cells29) (A : Option Addr) (c : Nat), KL.length = L.length ∧ v = .slice A L.length c ∧
    (∀ (i : Nat) k x, KL[i]? = some k → L[i]? = some x → PlainR w w.heap.size k.1 x) ∧ (0 < L.length → ∃ b o, A = some ⟨b, o, none⟩ ∧ b < w.heap.size ∧ ∀ (i : Nat) k, KL[i]? = some k → w.rangeAt b (o + i * 29) k.1) := by
  obtain ⟨_, A, c, hv, h1⟩ := h
  rcases Nat.eq_zero_or_pos L.length with h0 | h0
  · exact ⟨[], A, c, by rw [h0]; rfl, hv, fun i k x hk _ => (by cases hk), fun h2 => by omega⟩
  · obtain ⟨b, o, hb, hlt, h2⟩ := h1 h0
    obtain ⟨KL, h3, h4⟩ := list_of (n := L.length) (P := fun i (k : Cells29) => w.rangeAt b (o + i * 29) k.1 ∧ ∀ x, L[i]? = some x → PlainR w w.heap.size k.1 x) fun i hi => by
      obtain ⟨ks, h5, h6, h7⟩ := h2 i _ (List.getElem?_eq_getElem hi)
      exact ⟨⟨ks, h5⟩, h6, fun x hx => by
        rw [List.getElem?_eq_getElem hi] at hx
        injection hx with hx
        rw [← hx]; exact h7⟩
    exact ⟨KL, A, c, h3, hv, fun i k x hk hx => (h4 i k hk).2 x hx, fun _ => ⟨b, o, hb, hlt, fun i k hk => (h4 i k hk).1⟩⟩
theorem flat29_at {KL : List Cells29} {i j : Nat} {k : Cells29} {u : Value} (hk : KL[i]? = some k) (hu : k.1[j]? = some u) : (flat (fun k : Cells29 => k.1) KL)[i * 29 + j]? = some u := by
  induction KL generalizing i with
  | nil => cases hk
  | cons x KL ih =>
    have hx : x.1.length = 29 := x.2
    show (x.1 ++ flat (fun k : Cells29 => k.1) KL)[i * 29 + j]? = some u
    cases i with
    | zero =>
      injection hk with hk
      subst hk
      rw [List.getElem?_append_left (by have := (List.getElem?_eq_some_iff.1 hu).1; omega)]
      rw [Nat.zero_mul, Nat.zero_add]; exact hu
    | succ i =>
      rw [List.getElem?_append_right (by omega), show (i + 1) * 29 + j - x.1.length = i * 29 + j by omega]
      exact ih hk
theorem flat29_len (KL : List Cells29) : (flat (fun k : Cells29 => k.1) KL).length = KL.length * 29 := by
  induction KL with
  | nil => rfl
  | cons x KL ih =>
    show (x.1 ++ flat (fun k : Cells29 => k.1) KL).length = _
    rw [List.length_append, ih, x.2, List.length_cons]
    omega
theorem flat29_get {KL : List Cells29} {m : Nat} {u : Value} (h : (flat (fun k : Cells29 => k.1) KL)[m]? = some u) : ∃ k, KL[m / 29]? = some k ∧ k.1[m % 29]? = some u := by
  have hm := (List.getElem?_eq_some_iff.1 h).1
  rw [flat29_len] at hm
  obtain ⟨k, hk⟩ : ∃ k, KL[m / 29]? = some k := ⟨_, List.getElem?_eq_getElem (by omega)⟩
  have hl : m % 29 < k.1.length := by rw [k.2]; omega
  have h2 := flat29_at hk (List.getElem?_eq_getElem hl)
  rw [show m / 29 * 29 + m % 29 = m by omega, h] at h2
  exact ⟨k, hk, by rw [List.getElem?_eq_getElem hl]; exact h2.symm⟩
/-- the cells of a block of one's own, as a row -/
def cellsOf (KL : List Cells29) (m : Nat) : Value := (flat (fun k : Cells29 => k.1) KL).getD m undef
theorem own_rowF {w : World} {base : Nat} {v : Value} {KL : List Cells29} (h : OwnSl 42 29 (fun k : Cells29 => k.1) w base v KL) (h0 : 0 < KL.length) :
    ∃ g c, v = .slice (some ⟨g, 0, none⟩) KL.length c ∧ base ≤ g ∧ g < w.heap.size ∧ RowF w g (KL.length * 29) (cellsOf KL) := by
  rcases h.2 with ⟨_, h1⟩ | ⟨g, cap, cur, hv, hb, hg, hle, _, hsz, ht⟩
  · omega
  · refine ⟨g, cap, hv, hb, h.lt (by rw [hv]; rfl), fun m hm => ?_, fun m hm => ?_⟩
    · have hl : m < (cur.toList.take (KL.length * 29)).length := by
        have h2 : cur.toList.length = cap * 29 := by rw [← hsz]; simp
        have : KL.length * 29 ≤ cap * 29 := Nat.mul_le_mul_right 29 hle
        rw [List.length_take, h2]
        omega
      unfold cellsOf World.cell?
      simp only [hg]
      rw [← ht, List.getD_eq_getElem?_getD, List.getElem?_eq_getElem hl]
      have hl2 : m < cur.size := by
        have : KL.length * 29 ≤ cap * 29 := Nat.mul_le_mul_right 29 hle
        omega
      simp [hl2]
    · unfold World.frozen?
      simp [hg]

set_option maxHeartbeats 4000000 in
set_option maxRecDepth 100000 in
theorem clone_cells (KL : List Cells29) (b o c n : Nat) (w : World) (hl : KL.length = n) (hn : n ≤ 100) (hr : ∀ (i : Nat) k, KL[i]? = some k → w.rangeAt b (o + i * 29) k.1) (hlt : b < w.heap.size) (hones : ∀ k ∈ KL, ∀ u ∈ k.1, u.oneCell' = true) :
    Calls Tryz.prog 39 #[.slice (some ⟨b, o, none⟩) n c] w fun e w' => ∃ v' : Value, e = .returned v' ∧ OwnSl 42 29 (fun k : Cells29 => k.1) w' w.heap.size v' KL ∧ Below w.heap.size w w' := by
  have HO1 := Lib.hid hones
  have HR := Lib.hid hr
  have HKL := Lib.hid hl
  have HLT := Lib.hid hlt
  obtain ⟨j0, hi, hz0, hz1, hz2⟩ := info_parts' info_node
  have HJ0 := Lib.hid hi
  have HY0 := Lib.hid hz0
  have HY1 := Lib.hid hz1
  have HY2 := Lib.hid hz2
  have hq : ∀ W, (binOp .eql 25 (.slice (some ⟨b, o, none⟩) n c) (.slice none 0 0)).run Tryz.prog W = .ok (.bool false) W := fun W => Go.Lib.run_eql_slice_some_nil W _ _ _ Tryz.underlying25
  clear hi hz0 hz1 hz2 hr hl hlt hones
  have HB := Lib.hid (box_below w (.cells #[] 42))
  have HE := Lib.hid (ownsRow_empty w 42 29 w.heap.size (Nat.le_refl _))
  have HNW : Hid (0 < n → ∃ ad, (some ⟨b, o, none⟩ : Option Addr) = some ad ∧ ∀ (j : Nat) u, (flat (fun k : Cells29 => k.1) KL)[j]? = some u → (w.alloc (.cells #[] 42)).cell? (ad.add j) = some u) := Lib.hid fun _ => ⟨_, rfl, fun j u hu => by
    obtain ⟨k, hk, hku⟩ := flat29_get hu
    rw [Addr.add_mid]
    have := HR.out (j / 29) k hk (j % 29) u hku
    rw [show o + j / 29 * 29 + j % 29 = o + j by omega] at this
    exact (HB.out.cell (p := ⟨b, o + j, none⟩) HLT.out).trans this⟩
  have HFL : Hid ((flat (fun k : Cells29 => k.1) KL).length = n * 29) := Lib.hid (by rw [flat29_len, HKL.out])
  have HON : Hid (∀ u ∈ flat (fun k : Cells29 => k.1) KL, u.oneCell' = true) := Lib.hid fun u hu => by
    obtain ⟨j, hj⟩ := List.mem_iff_getElem?.1 hu
    obtain ⟨k, hk, hku⟩ := flat29_get hj
    exact HO1.out k (List.mem_of_getElem? hk) u (List.mem_of_getElem? hku)
  have HM : Hid (0 + n ≤ maxLen) := Lib.hid (by unfold maxLen; omega)
  have HM2 : Hid ((0 + n) * 424 ≤ 140737488355328) := Lib.hid (by omega)
  go_enter Tryz.func39, Tryz.ntmps39
  go_upto_region 3 with (fail)
  clear hq
  go_wp2_with (at_builtin; (refine wl_append rfl _ _ 25 rfl w.heap.size 42 j0 (.agg ⟨encC (.slice none 0 0) 0⟩) 29 424 Tryz.underlying25 HJ0.out HY0.out HY1.out HY2.out rfl (by decide) (.slice (some ⟨w.heap.size, 0, none⟩) 0 0) 0 [] rfl HE.out (some ⟨b, o, none⟩) n c (flat (fun k : Cells29 => k.1) KL) rfl HFL.out HNW.out HON.out HM.out HM2.out HB.out.size ?_; intro v' w' hown hg; have HO := Lib.hid hown; have HG := Lib.hid hg; clear hown hg))
  go_ret
  have hbel : Below w.heap.size w w' := HB.out.grown HG.out HB.out.size (fun b hb => by
    have hb2 : w.heap.size = b := by simpa [Value.ownBlock] using hb
    omega)
  refine ⟨v', rfl, ?_, hbel⟩
  have := HO.out
  rw [Nat.zero_add, List.nil_append, ← HKL.out] at this
  exact this
/-- a list of numbers that lies outside a block -/
def IntsG (u : World) (g p : Nat) (v : Value) (l : List Int) : Prop := ∃ A c, v = .slice A l.length c ∧ (0 < l.length → ∃ b o, A = some ⟨b, o, none⟩ ∧ b < u.heap.size ∧ (b ≠ g ∧ b ≠ p) ∧ ∀ (i : Nat) x, l[i]? = some x → u.cell? ⟨b, o + i, none⟩ = some (.int .i64 x))
theorem IntsG.below {u u' : World} {g p : Nat} {v : Value} {l : List Int} (h : IntsG u g p v l) (hb : Below u.heap.size u u') : IntsG u' g p v l := by
  obtain ⟨A, c, hv, h1⟩ := h
  refine ⟨A, c, hv, fun h0 => ?_⟩
  obtain ⟨b, o, h2, h3, h4, h5⟩ := h1 h0
  exact ⟨b, o, h2, Nat.lt_of_lt_of_le h3 hb.size, h4, fun i x hx => (hb.cell (p := ⟨b, o + i, none⟩) h3).trans (h5 i x hx)⟩
theorem IntsG.sets {u : World} {g p : Nat} {v : Value} {l : List Int} (h : IntsG u g p v l) (cs : List Value) (k : Nat) : IntsG (u.setCells g k cs) g p v l := by
  obtain ⟨A, c, hv, h1⟩ := h
  refine ⟨A, c, hv, fun h0 => ?_⟩
  obtain ⟨b, o, h2, h3, h4, h5⟩ := h1 h0
  exact ⟨b, o, h2, by rw [size_sets]; exact h3, h4, fun i x hx => (World.cell?_of_block (a := ⟨b, o + i, none⟩) (heap_sets0 g b h4.1 cs u k)).trans (h5 i x hx)⟩
theorem IntsG.put {u : World} {g p : Nat} {v : Value} {l : List Int} (h : IntsG u g p v l) (k : Nat) (y : Value) : IntsG (u.setCell ⟨g, k, none⟩ y) g p v l := h.sets [y] k
theorem IntsG.vals {u : World} {g p : Nat} {v : Value} {l : List Int} (h : IntsG u g p v l) (hl : l.length ≤ 10000) : IntsV u v l := by
  obtain ⟨A, c, hv, h1⟩ := h
  refine ⟨by omega, A, c, hv, fun h0 => ?_⟩
  obtain ⟨b, o, h2, h3, h4, h5⟩ := h1 h0
  refine ⟨b, o, h2, h3, fun i x hx => ⟨encI x, rfl, fun j u hu => ?_, rfl⟩⟩
  have hj : j = 0 := by
    have := (List.getElem?_eq_some_iff.1 hu).1
    have h6 : (encI x).length = 1 := rfl
    omega
  subst hj
  injection hu with hu
  rw [← hu, Nat.mul_one, Nat.add_zero]
  exact h5 i x hx
theorem IntsV.outside {u : World} {g p : Nat} {v : Value} {l : List Int} {B : Nat} (h : SlAt u B 1 (Enc encI) v l) (hB : B ≤ g) (hP : B ≤ p) (hu : B ≤ u.heap.size) : IntsG u g p v l := by
  obtain ⟨_, A, c, hv, h1⟩ := h
  refine ⟨A, c, hv, fun h0 => ?_⟩
  obtain ⟨b, o, h2, h3, h4⟩ := h1 h0
  refine ⟨b, o, h2, by omega, ⟨by omega, by omega⟩, fun i x hx => ?_⟩
  obtain ⟨cs, h5, h6, h7⟩ := h4 i x hx
  have h7' : cs = encI x := h7
  subst h7'
  have := h6 0 (.int .i64 x) rfl
  simpa using this
theorem clone_ints (u : World) (g p : Nat) (v : Value) (l : List Int) (h : IntsG u g p v l) (hg : g < u.heap.size) (hp : p < u.heap.size) (hl : l.length ≤ 10000) : Calls Tryz.prog 42 #[v] u fun e u' => ∃ v', e = .returned v' ∧ IntsG u' g p v' l ∧ Below u.heap.size u u' := by
  obtain ⟨A, c, hv, h1⟩ := h
  subst hv
  have key : ∀ (u' : World) (v' : Value), u'.ownsRow u.heap.size 3 1 v' l.length (l.map (Value.int .i64)) → Below u.heap.size u u' → IntsG u' g p v' l := fun u' v' ho hb => by
    have hown : OwnSl 3 1 encI u' u.heap.size v' l := own_flat rfl ho
    obtain ⟨_, A', c', hv', h2⟩ := (hown.ints hl).ints
    refine ⟨A', c', hv', fun h0 => ?_⟩
    obtain ⟨b, o, h3, h4, h5⟩ := h2 h0
    subst hv'
    subst h3
    have hblk : o = 0 := by
      rcases hown.2 with ⟨h6, _⟩ | ⟨q, cap, cur, h6, _⟩
      · cases h6
      · injection h6 with h6 _ _
        injection h6 with h6
        injection h6 with _ h6 _
    subst hblk
    have := hown.block (b := b) rfl
    exact ⟨b, 0, rfl, h4, ⟨by omega, by omega⟩, h5⟩
  rcases Nat.eq_zero_or_pos l.length with h0 | h0
  · have hnil : l = [] := List.eq_nil_of_length_eq_zero h0
    subst hnil
    cases A with
    | none => exact (Tryz.slices_Clone_int_nil _ _ _).mono fun e u' h => ⟨_, h.1, by rw [h.2]; exact ⟨none, 0, rfl, fun h0 => absurd h0 (Nat.lt_irrefl 0)⟩, by rw [h.2]; exact Below.refl _ _⟩
    | some ad => exact (Tryz.slices_Clone_int_zero ad c u).mono fun e u' ⟨v', h1, h2, _, h3⟩ => ⟨v', h1, key u' v' h2 h3, h3⟩
  · obtain ⟨b, o, rfl, h2, h3, h4⟩ := h1 h0
    refine (Tryz.slices_Clone_int b o l.length c l u (Nat.le_refl _) (by omega) fun j hj => h4 j _ ?_).mono fun e u' ⟨v', h5, h6, _, h7⟩ => ⟨v', h5, key u' v' (by rwa [List.take_length] at h6) h7, h7⟩
    rw [List.getD_eq_getElem?_getD, List.getElem?_eq_getElem hj]
    rfl
theorem rowF_sets {w : World} {g n : Nat} {f : Nat → Value} : ∀ (cs : List Value) (w : World) (k : Nat), RowF w g n f → (∀ i u, cs[i]? = some u → k + i < n ∧ f (k + i) = u) → RowF (w.setCells g k cs) g n f
  | [], _, _, h, _ => h
  | v :: cs, w, k, h, hc => by
    have h0 := hc 0 v rfl
    exact rowF_sets (w := w) cs (w.setCell ⟨g, k, none⟩ v) (k + 1) (h.same h0.1 h0.2.symm) fun i u hu => by
      have := hc (i + 1) u (by simpa using hu)
      rw [show k + 1 + i = k + (i + 1) by omega]
      exact this
end Go.Proofs.YtlfefikhmdbbfaaGreat
