/- No program: a table of rows of numbers that grow, each in a block of its own. -/
import Derived.Test.YtedajbpjokmlaaaCome
import Derived.Test.YtedajbpjokmlaaaWithout
namespace Go.Proofs.Ytedajbpjokmlaaa
open Go Go.RowKit
set_option linter.unusedVariables false

section
variable {P : Program} {ops : Array Oper} {rest : List Oper} {o : Oper} {a : Act} {w : World} {Q : Exit → Act → World → Prop}
/-- one element is put behind a list, and where the list lies then -/
theorem wl_pushb {α : Type} (hgd : o.guard = none) (s x : Operand) (t : TypeId) (ho : o.op = .call { callee := .builtin .append, args := #[s, x], argTypes := #[t, t] })
    (base : Nat) (e : TypeId) (i : TypeInfo) (z : Value) (k bytes : Nat) (enc : α → List Value) (ht : P.underlying t = some (.slice e)) (hi : P.info? e = some i) (hz : i.zero = some z)
    (hsize : i.size = k) (hby : i.bytes = bytes) (hzs : z.cells.size = k) (hsz : 0 < k) (hk : ∀ x, (enc x).length = k) (h1 : ∀ x, ∀ u ∈ enc x, u.oneCell' = true)
    (v : Value) (l : List α) (hs : a.eval s = v) (hown : OwnSl e k enc w base v l) (nb c : Nat) (y : α) (hx : a.eval x = .slice (some ⟨nb, 0, none⟩) 1 c)
    (hc : ∀ j u, (enc y)[j]? = some u → w.cell? ⟨nb, j, none⟩ = some u) (h63 : l.length + 1 ≤ maxLen) (hbytes : (l.length + 1) * bytes ≤ 140737488355328) (hbase : base ≤ w.heap.size)
    (h : ∀ v' w', OwnSl e k enc w' base v' (l ++ [y]) → w.grownBy w' v.ownBlock → (v'.ownBlock = v.ownBlock ∨ v'.ownBlock = some w.heap.size) → wpList P ops Q rest (a.put o.dst v') w') : wpList P ops Q (o :: rest) a w := by
  obtain ⟨v', w', hrun, k2, k3, _, k5⟩ := run_append_own_at (P := P) w base t o.type e i z k bytes ht hi hz hsize hby hzs hsz v l.length (flat enc l) hown ⟨nb, 0, none⟩ 1 c (enc y) (by rw [hk]; omega)
    (fun j u hu => by rw [Addr.add_mid, Nat.zero_add]; exact hc j u hu) (h1 y) h63 hbytes hbase
  refine wpList_plain hgd fun _ hK => ?_
  unfold Oper.wp execOp
  simp only [ho, resolve, invoke, builtin, Sem.run_bind, Sem.run_pure, Result.andThen_ok, List.map_toArray, List.map_cons, List.map_nil, hs, hx, hrun]
  exact hK _ _ (h v' w' (by unfold OwnSl; rw [flat_snoc, List.length_append]; exact k2) k3 k5)
end
structure Rows1 (w : World) (sb B n : Nat) (V : Nat → Value) (L : Nat → List Int) : Prop where
  row : RowF w sb n V
  lt : sb < w.heap.size
  ltB : sb < B
  own : ∀ k, k < n → OwnSl 3 1 encI w B (V k) (L k)
  apart : ∀ k l, k < n → l < n → k ≠ l → (V k).ownBlock = none ∨ (V k).ownBlock ≠ (V l).ownBlock
section
variable {w w1 : World} {sb B n : Nat} {V : Nat → Value} {L : Nat → List Int}
theorem Rows1.below (h : Rows1 w sb B n V L) (hb : Below w.heap.size w w1) : Rows1 w1 sb B n V L :=
  ⟨h.row.below hb h.lt, Nat.lt_of_lt_of_le h.lt hb.size, h.ltB, fun k hk => (h.own k hk).below hb, h.apart⟩
theorem Rows1.congr {L' : Nat → List Int} (h : Rows1 w sb B n V L) (hL : ∀ i, i < n → L' i = L i) : Rows1 w sb B n V L' :=
  ⟨h.row, h.lt, h.ltB, fun k hk => by rw [hL k hk]; exact h.own k hk, h.apart⟩
theorem Rows1.sb_ne (h : Rows1 w sb B n V L) {k : Nat} (hk : k < n) : some sb ≠ (V k).ownBlock := fun e => by
  have := (h.own k hk).block e.symm
  have := h.ltB
  omega
/-- one row grows, and is put back into the table -/
theorem Rows1.push (h : Rows1 w sb B n V L) {k : Nat} (hk : k < n) {x : Int} {v' : Value} (hown : OwnSl 3 1 encI w1 B v' (L k ++ [x])) (hg : w.grownBy w1 (V k).ownBlock)
    (hb : v'.ownBlock = (V k).ownBlock ∨ v'.ownBlock = some w.heap.size) :
    Rows1 (w1.setCell ⟨sb, k, none⟩ v') sb B n (fun j => if j = k then v' else V j) (fun j => if j = k then L k ++ [x] else L j) := by
  have hs1 : w1.heap[sb]? = w.heap[sb]? := hg.block sb h.lt (h.sb_ne hk)
  have own1 : ∀ l, l < n → l ≠ k → OwnSl 3 1 encI w1 B (V l) (L l) := fun l hl hne => World.ownsRow.kept (h.own l hl) hg (h.apart l k hl hk hne)
  refine ⟨(h.row.keep hs1).set hk v', ?_, h.ltB, fun l hl => ?_, fun x y hx hy hxy => ?_⟩
  · have := Nat.lt_of_lt_of_le h.lt hg.size
    simpa [World.setCell] using this
  · by_cases e : l = k
    · subst e; rw [if_pos rfl, if_pos rfl]; exact own_put hown h.ltB _
    · rw [if_neg e, if_neg e]; exact own_put (own1 l hl e) h.ltB _
  · by_cases ea : x = k
    · subst ea
      rw [if_pos rfl, if_neg (fun h => hxy h.symm)]
      rcases hb with hb | hb
      · rw [hb]; exact h.apart x y hx hy hxy
      · right
        rw [hb]
        intro e
        have := (h.own y hy).lt e.symm
        omega
    · rw [if_neg ea]
      by_cases eb : y = k
      · subst eb
        rw [if_pos rfl]
        rcases hb with hb | hb
        · rw [hb]; exact h.apart x y hx hy hxy
        · right
          rw [hb]
          intro e
          have := (h.own x hx).lt e
          omega
      · rw [if_neg eb]; exact h.apart x y hx hy hxy
theorem Rows1.rows (h : Rows1 w sb B n V L) (hl : ∀ i, i < n → (L i).length ≤ 10000) : RowsV w (.slice (some ⟨sb, 0, none⟩) n n) n L :=
  ⟨_, _, V, rfl, fun i hi => (h.own i hi).ints (hl i hi), fun _ => ⟨sb, 0, rfl, h.lt, fun i hi => by rw [Nat.zero_add]; exact h.row.c i hi⟩⟩
/-- what else there is stays -/
theorem But.pushed {W : World} (h : But W w sb sb) (r : Rows1 w sb B n V L) (hB : W.heap.size ≤ B) {k : Nat} (hk : k < n) (hg : w.grownBy w1 (V k).ownBlock) (v' : Value) : But W (w1.setCell ⟨sb, k, none⟩ v') sb sb := by
  have hp := push_below (B := W.heap.size) (Below.refl _ w) h.size (r.own k hk) hB hg
  exact ⟨hp.os.trans h.os, hp.tape.trans h.tape, hp.output.trans h.output, by
    have h1 := h.size
    have h2 := hg.size
    have : (w1.setCell ⟨sb, k, none⟩ v').heap.size = w1.heap.size := by simp [World.setCell]
    omega, fun b hb h1 h2 => (Below.heap_setCell w1 ⟨sb, k, none⟩ v' b h1).trans ((hp.block b hb).trans (h.block b hb h1 h2))⟩
end
/-- the dominators of a node, as far as they have been gone through -/
def domK (g : List GN) (a : Int) (j i : Nat) : List Int := if isN g.length a = true then listN (fun d => domOf g.length (graphE g) a.toNat d i) j else []
theorem domK_end (g : List GN) (a : Int) (i : Nat) : domK g a g.length i = domsOf g a i := rfl
theorem domK_zero (g : List GN) (a : Int) (i : Nat) : domK g a 0 i = [] := by unfold domK; split <;> rfl
theorem domK_no {g : List GN} {a : Int} {j : Nat} (h : (comeL g a).contains (j : Int) = false) (hj : j < g.length) (i : Nat) : domK g a (j + 1) i = domK g a j i := by
  unfold domK
  by_cases hn : isN g.length a = true
  · rw [if_pos hn, if_pos hn, listN_succ]
    obtain ⟨r, hr, hrn⟩ : ∃ r : Nat, a = r ∧ r < g.length := by unfold isN at hn; simp at hn; exact ⟨a.toNat, by omega, by omega⟩
    subst hr
    rw [comeL_has hrn hj] at h
    have : domOf g.length (graphE g) ((r : Int).toNat) j i = false := by
      rw [Int.toNat_natCast]; unfold domOf; rw [h]; simp
    rw [this]; simp
  · rw [if_neg hn, if_neg hn]
theorem domK_yes {g : List GN} {r j i : Nat} (hr : r < g.length) : domK g (r : Int) (j + 1) i = domK g (r : Int) j i ++ if domOf g.length (graphE g) r j i = true then [(j : Int)] else [] := by
  have hN : isN g.length (r : Int) = true := by unfold isN; simp; omega
  unfold domK
  rw [if_pos hN, if_pos hN, listN_succ, Int.toNat_natCast]
theorem domK_len (g : List GN) (a : Int) (j i : Nat) : (domK g a j i).length ≤ j := by
  unfold domK
  split
  · exact listN_len _ _
  · simp
theorem come_isN {g : List GN} {a : Int} {j : Nat} (h : (comeL g a).contains (j : Int) = true) : ∃ r : Nat, a = r ∧ r < g.length := by
  cases hn : isN g.length a with
  | false => rw [comeL_none hn] at h; cases h
  | true => unfold isN at hn; simp at hn; exact ⟨a.toNat, by omega, by omega⟩
/-- what the inner test asks -/
theorem dom_test {g : List GN} {r j i : Nat} (hr : r < g.length) (hj : j < g.length) (hi : i < g.length) (hc : (comeL g (r : Int)).contains (j : Int) = true) :
    domOf g.length (graphE g) r j i = ((comeL g (r : Int)).contains (i : Int) && ((j == r) || (i == j) || !(comeL (lessG g j) (r : Int)).contains (i : Int))) := by
  have h1 := comeL_has (g := lessG g j) (r := r) (i := i) (by rw [lessG_len]; exact hr) (by rw [lessG_len]; exact hi)
  rw [lessG_len, lessG_graph] at h1
  rw [comeL_has hr hj] at hc
  rw [comeL_has hr hi, h1]
  unfold domOf
  rw [hc]
  simp
def midK (g : List GN) (r j i m : Nat) : List Int := if m < i then domK g (r : Int) (j + 1) m else domK g (r : Int) j m
theorem midK_zero (g : List GN) (r j m : Nat) : midK g r j 0 m = domK g (r : Int) j m := rfl
theorem midK_end {g : List GN} {r j n m : Nat} (h : m < n) : midK g r j n m = domK g (r : Int) (j + 1) m := if_pos h
theorem midK_at (g : List GN) (r j i : Nat) : midK g r j i i = domK g (r : Int) j i := if_neg (Nat.lt_irrefl i)
theorem midK_no {g : List GN} {r j i : Nat} (hr : r < g.length) (h : domOf g.length (graphE g) r j i = false) (m : Nat) : midK g r j (i + 1) m = midK g r j i m := by
  unfold midK
  by_cases e : m = i
  · subst e
    rw [if_pos (Nat.lt_succ_self m), if_neg (Nat.lt_irrefl m), domK_yes hr, h]
    simp
  · by_cases h2 : m < i
    · rw [if_pos (by omega), if_pos h2]
    · rw [if_neg (by omega), if_neg h2]
theorem midK_yes {g : List GN} {r j i : Nat} (hr : r < g.length) (h : domOf g.length (graphE g) r j i = true) (m : Nat) : midK g r j (i + 1) m = if m = i then midK g r j i i ++ [(j : Int)] else midK g r j i m := by
  by_cases e : m = i
  · subst e
    rw [if_pos rfl, midK_at]
    unfold midK
    rw [if_pos (Nat.lt_succ_self m), domK_yes hr, h, if_pos rfl]
  · rw [if_neg e]
    unfold midK
    by_cases h2 : m < i
    · rw [if_pos (by omega), if_pos h2]
    · rw [if_neg (by omega), if_neg h2]
theorem Rows1.pushMid {w w1 : World} {sb B : Nat} {V : Nat → Value} {g : List GN} {r j i : Nat} (h : Rows1 w sb B g.length V (midK g r j i)) (hr : r < g.length) (hi : i < g.length) (hd : domOf g.length (graphE g) r j i = true) {v' : Value}
    (hown : OwnSl 3 1 encI w1 B v' (midK g r j i i ++ [(j : Int)])) (hg : w.grownBy w1 (V i).ownBlock) (hb : v'.ownBlock = (V i).ownBlock ∨ v'.ownBlock = some w.heap.size) :
    Rows1 (w1.setCell ⟨sb, i, none⟩ v') sb B g.length (fun m => if m = i then v' else V m) (midK g r j (i + 1)) :=
  (h.push hi hown hg hb).congr fun m _ => midK_yes hr hd m
end Go.Proofs.Ytedajbpjokmlaaa
