/- No program: a table of bools, each row in a block of its own; what RegionChain asks of dominators. -/
import Derived.Test.YtedajbpjokmlaaaLaw15b
namespace Go.Proofs.Ytedajbpjokmlaaa
open Go Go.RowKit
set_option linter.unusedVariables false

def boolsF (f : Nat → Bool) (j : Nat) : Value := .bool (f j)
structure MatAt (w : World) (mb n i : Nat) (V : Nat → Value) (M : Nat → Nat → Bool) : Prop where
  row : RowF w mb n V
  lt : mb < w.heap.size
  each : ∀ k, k < i → ∃ rb, V k = .slice (some ⟨rb, 0, none⟩) n n ∧ rb < w.heap.size ∧ rb ≠ mb ∧ RowF w rb n (boolsF (M k))
section
variable {w W : World} {mb n i : Nat} {V : Nat → Value} {M : Nat → Nat → Bool}
theorem MatAt.below (h : MatAt w mb n i V M) (hb : Below w.heap.size w W) : MatAt W mb n i V M :=
  ⟨h.row.below hb h.lt, Nat.lt_of_lt_of_le h.lt hb.size, fun k hk => by
    obtain ⟨rb, h1, h2, h3, h4⟩ := h.each k hk
    exact ⟨rb, h1, Nat.lt_of_lt_of_le h2 hb.size, h3, h4.below hb h2⟩⟩
theorem MatAt.drewN (h : MatAt w mb n i V M) (k : Nat) : MatAt (w.drewN k) mb n i V M := h.below (below_drewN (Below.refl _ w) k)
theorem MatAt.row0 {f : Nat → Value} (h : RowF w mb n f) (hl : mb < w.heap.size) : MatAt w mb n 0 f M := ⟨h, hl, fun k hk => absurd hk (Nat.not_lt_zero k)⟩
/-- a slice is put into place i -/
theorem MatAt.put (h : MatAt w mb n i V M) (hi : i < n) (v : Value) : MatAt (w.setCell ⟨mb, i, none⟩ v) mb n i (fun j => if j = i then v else V j) M :=
  ⟨h.row.set hi v, by simpa [World.setCell] using h.lt, fun k hk => by
    obtain ⟨rb, h1, h2, h3, h4⟩ := h.each k hk
    refine ⟨rb, ?_, by simpa [World.setCell] using h2, h3, h4.keep (Below.heap_setCell w ⟨mb, i, none⟩ v rb h3)⟩
    rw [if_neg (by omega)]; exact h1⟩
/-- the row of that slice is whole -/
theorem MatAt.snoc (h : MatAt w mb n i V M) {rb : Nat} (hv : V i = .slice (some ⟨rb, 0, none⟩) n n) (hl : rb < w.heap.size) (hne : rb ≠ mb) (hr : RowF w rb n (boolsF (M i))) : MatAt w mb n (i + 1) V M :=
  ⟨h.row, h.lt, fun k hk => by
    by_cases e : k = i
    · subst e; exact ⟨rb, hv, hl, hne, hr⟩
    · exact h.each k (by omega)⟩
/-- a row behind all others grows -/
theorem MatAt.set (h : MatAt w mb n i V M) {rb j : Nat} (hne : rb ≠ mb) (hrb : ∀ k, k < i → ∀ r, V k = .slice (some ⟨r, 0, none⟩) n n → r ≠ rb) (v : Value) : MatAt (w.setCell ⟨rb, j, none⟩ v) mb n i V M :=
  ⟨h.row.keep (Below.heap_setCell w ⟨rb, j, none⟩ v mb (Ne.symm hne)), by simpa [World.setCell] using h.lt, fun k hk => by
    obtain ⟨r, h1, h2, h3, h4⟩ := h.each k hk
    exact ⟨r, h1, by simpa [World.setCell] using h2, h3, h4.keep (Below.heap_setCell w ⟨rb, j, none⟩ v r (hrb k hk r h1))⟩⟩
end
theorem RowF.setB {w : World} {g n i : Nat} {f f' : Nat → Bool} (h : RowF w g n (boolsF f)) (hi : i < n) (hf : ∀ j, j < n → f' j = (if j = i then true else f j)) : RowF (w.setCell ⟨g, i, none⟩ (.bool true)) g n (boolsF f') :=
  (h.set hi (.bool true)).congr fun j hj => by
    unfold boolsF
    rw [hf j hj]
    by_cases e : j = i
    · rw [if_pos e, if_pos e]
    · rw [if_neg e, if_neg e]
theorem info_bools : (Try.prog.info? 44).map (fun i => (i.zero, i.size, i.bytes)) = some (some (.slice none 0 0), 1, 24) := by kernel_rfl
def hasK (R : List Int) (k : Nat) (j : Nat) : Bool := (R.take k).contains (j : Int)
theorem hasK_succ {R : List Int} {k x : Nat} (h : R[k]? = some (x : Int)) (j : Nat) : hasK R (k + 1) j = if j = x then true else hasK R k j := by
  unfold hasK
  rw [take_at h, Bool.eq_iff_iff, List.contains_iff_mem, List.mem_append, List.mem_singleton]
  by_cases e : j = x
  · rw [if_pos e]; subst e; simp
  · rw [if_neg e, List.contains_iff_mem]
    constructor
    · rintro (h | h)
      · exact h
      · omega
    · exact .inl
theorem hasK_end (R : List Int) (j : Nat) : hasK R R.length j = R.contains (j : Int) := by unfold hasK; rw [List.take_length]
/-- who dominates -/
def domM (g : List GN) (r i j : Nat) : Bool := (domsOf g (r : Int) i).contains (j : Int)
theorem isN_nat {n r : Nat} (hr : r < n) : isN n (r : Int) = true := by unfold isN; simp; omega
theorem domM_eq {g : List GN} {r i j : Nat} (hr : r < g.length) (hj : j < g.length) : domM g r i j = domOf g.length (graphE g) r j i := by
  unfold domM domsOf domL
  rw [if_pos (isN_nat hr), Int.toNat_natCast]
  exact listN_has hj
theorem domM_at {g : List GN} {r i k : Nat} {x : Int} (h : (domsOf g (r : Int) i)[k]? = some x) : ∃ y : Nat, x = y ∧ y < g.length := by
  unfold domsOf domL at h
  split at h
  · obtain ⟨y, h1, h2, _⟩ := listN_at h
    exact ⟨y, h1, h2⟩
  · cases h
def cameM (g : List GN) (r j : Nat) : Bool := come g.length (graphE g) r j
def cameK (g : List GN) (r k j : Nat) : Bool := j == r || hasK (reachL g (r : Int)) k j
theorem cameK_end {g : List GN} {r j : Nat} (hr : r < g.length) (hj : j < g.length) : cameK g r (reachL g (r : Int)).length j = cameM g r j := by
  unfold cameK cameM come
  rw [hasK_end]
  unfold reachL
  rw [if_pos (isN_nat hr), Int.toNat_natCast, listN_has hj]
theorem cameK_succ {g : List GN} {r k x : Nat} (h : (reachL g (r : Int))[k]? = some (x : Int)) (j : Nat) : cameK g r (k + 1) j = if j = x then true else cameK g r k j := by
  unfold cameK
  rw [hasK_succ h]
  by_cases e : j = x
  · rw [if_pos e, if_pos e, Bool.or_true]
  · rw [if_neg e, if_neg e]
theorem cameK_zero {g : List GN} {r : Nat} (j : Nat) : cameK g r 0 j = if j = r then true else false := by
  unfold cameK hasK
  by_cases e : j = r
  · subst e; simp
  · rw [if_neg e]; simp [e]
theorem reachL_at {g : List GN} {r : Int} {k : Nat} {x : Int} (h : (reachL g r)[k]? = some x) : ∃ y : Nat, x = y ∧ y < g.length := by
  unfold reachL at h
  split at h
  · obtain ⟨y, h1, h2, _⟩ := listN_at h
    exact ⟨y, h1, h2⟩
  · cases h
theorem chain_self {g : List GN} {r i : Nat} (hr : r < g.length) (hi : i < g.length) : domM g r i i = cameM g r i := by
  rw [domM_eq hr hi]; exact dom_self
theorem chain_root {g : List GN} {r i : Nat} (hr : r < g.length) : domM g r i r = cameM g r i := by
  rw [domM_eq hr hr]; exact dom_by_root
theorem chain_trans {g : List GN} {r i k j : Nat} (hr : r < g.length) (hk : k < g.length) (hj : j < g.length) (h1 : domM g r i k = true) (h2 : domM g r k j = true) : domM g r i j = true := by
  rw [domM_eq hr hk] at h1
  rw [domM_eq hr hj] at h2
  rw [domM_eq hr hj]
  exact dom_trans (fun e he => (graphE_lt e he).2) h1 h2
theorem But.setHigh {w W : World} {p q b i : Nat} (h : But w W p q) (hb : w.heap.size ≤ b) (v : Value) : But w (W.setCell ⟨b, i, none⟩ v) p q :=
  ⟨h.os, h.tape, h.output, by have := h.size; simpa [World.setCell] using this, fun k hk h1 h2 => (Below.heap_setCell W ⟨b, i, none⟩ v k (by intro e; have e2 : k = b := e; omega)).trans (h.block k hk h1 h2)⟩
/-- places that are read -/
theorem MatAt.at {w : World} {mb n i : Nat} {V : Nat → Value} {M : Nat → Nat → Bool} (h : MatAt w mb n i V M) {k : Nat} (hk : k < i) (hkn : k < n) :
    ∃ rb, w.cell? ⟨mb, k, none⟩ = some (.slice (some ⟨rb, 0, none⟩) n n) ∧ ∀ j, j < n → w.cell? ⟨rb, j, none⟩ = some (.bool (M k j)) := by
  obtain ⟨rb, h1, h2, h3, h4⟩ := h.each k hk
  exact ⟨rb, by rw [← h1]; exact h.row.c k hkn, fun j hj => h4.c j hj⟩
theorem root_mod (a : Int) {n : Nat} (h0 : n ≠ 0) (hn : n ≤ 100) : ∃ r : Nat, wrap64 ((IntKind.u64.wrap a).tmod n) = r ∧ r < n := by
  have h1 : 0 ≤ IntKind.u64.wrap a := wrap_u64_nonneg a
  have h2 := Int.tmod_eq_emod_of_nonneg (b := (n : Int)) h1
  have h3 := Int.emod_nonneg (IntKind.u64.wrap a) (b := (n : Int)) (by omega)
  have h4 := Int.emod_lt_of_pos (IntKind.u64.wrap a) (b := (n : Int)) (by omega)
  refine ⟨((IntKind.u64.wrap a).tmod n).toNat, ?_, by omega⟩
  rw [IntWalk.wrap64_in _ (by omega)]
  omega
end Go.Proofs.Ytedajbpjokmlaaa
