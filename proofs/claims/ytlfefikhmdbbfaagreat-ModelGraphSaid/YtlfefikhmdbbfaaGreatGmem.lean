/- A graph in memory: two tables of rows of numbers, each row in a block of its own. -/
import Derived.Test.YtlfefikhmdbbfaaGreatRow
import Derived.Maps.AppendAt
namespace Go.Proofs.YtlfefikhmdbbfaaGreat
open Go Go.RowKit
set_option linter.unusedVariables false

theorem OwnSl.lt {α : Type} {T : TypeId} {k base b : Nat} {enc : α → List Value} {w : World} {v : Value} {l : List α} (h : OwnSl T k enc w base v l) (hb : v.ownBlock = some b) : b < w.heap.size := by
  rcases h.2 with ⟨rfl, _⟩ | ⟨g, cap, cur, rfl, _, hg, _⟩
  · cases hb
  · have : g = b := by simpa [Value.ownBlock] using hb
    subst this
    rcases Nat.lt_or_ge g w.heap.size with h2 | h2
    · exact h2
    · rw [Array.getElem?_eq_none h2] at hg; cases hg
theorem Tag.keep {w w' : World} {b : Nat} {T : TypeId} (h : Tag w b T) (hb : w'.heap[b]? = w.heap[b]?) : Tag w' b T := by
  obtain ⟨c, hc⟩ := h; exact ⟨c, hb.trans hc⟩
structure Rows2 (w : World) (base tb fb n : Nat) (V : Nat → Value) (L : Nat → List Int) : Prop where
  ct : RowF w tb n V
  cf : RowF w fb n (fun i => V (n + i))
  own : ∀ k, k < 2 * n → OwnSl 3 1 encI w base (V k) (L k)
  apart : ∀ k l, k < 2 * n → l < 2 * n → k ≠ l → (V k).ownBlock = none ∨ (V k).ownBlock ≠ (V l).ownBlock
  tt : Tag w tb 32
  tf : Tag w fb 32
  ne : tb ≠ fb
  lt : tb < w.heap.size ∧ fb < w.heap.size
section
variable {w w1 : World} {base tb fb n : Nat} {V : Nat → Value} {L : Nat → List Int}
theorem Rows2.below (h : Rows2 w base tb fb n V L) (hb : Below w.heap.size w w1) : Rows2 w1 base tb fb n V L :=
  ⟨h.ct.below hb h.lt.1, h.cf.below hb h.lt.2, fun k hk => (h.own k hk).below hb, h.apart, h.tt.keep (hb.block _ h.lt.1), h.tf.keep (hb.block _ h.lt.2), h.ne, Nat.lt_of_lt_of_le h.lt.1 hb.size, Nat.lt_of_lt_of_le h.lt.2 hb.size⟩
/-- one row grows, and is put back into its table -/
theorem Rows2.push (h : Rows2 w base tb fb n V L) {k : Nat} (hk : k < 2 * n) {x : Int} {v' : Value} (hown : OwnSl 3 1 encI w1 base v' (L k ++ [x])) (hg : w.grownBy w1 (V k).ownBlock)
    (hb : v'.ownBlock = (V k).ownBlock ∨ v'.ownBlock = some w.heap.size) :
    Rows2 (w1.setCell ⟨if k < n then tb else fb, if k < n then k else k - n, none⟩ v') base tb fb n (fun j => if j = k then v' else V j) (fun j => if j = k then L k ++ [x] else L j) := by
  have ht1 : w1.heap[tb]? = w.heap[tb]? := hg.block tb h.lt.1 ((h.own k hk).apart h.tt (by decide))
  have hf1 : w1.heap[fb]? = w.heap[fb]? := hg.block fb h.lt.2 ((h.own k hk).apart h.tf (by decide))
  have tt1 := h.tt.keep ht1
  have tf1 := h.tf.keep hf1
  have ct1 := h.ct.keep ht1
  have cf1 := h.cf.keep hf1
  have own1 : ∀ l, l < 2 * n → l ≠ k → OwnSl 3 1 encI w1 base (V l) (L l) := fun l hl hne => World.ownsRow.kept (h.own l hl) hg (h.apart l k hl hk hne)
  have key : ∀ (l : Nat) (v : Value) (ls : List Int) (q o : Nat), OwnSl 3 1 encI w1 base v ls → Tag w1 q 32 → OwnSl 3 1 encI (w1.setCell ⟨q, o, none⟩ v') base v ls := fun l v ls q o ho htag => by
    refine World.ownsRow.kept ho (row := some q) (grown_set (grown_refl w1 _) v') ?_
    right
    intro e
    exact ho.apart htag (by decide) e.symm
  have apart' : ∀ k' l, k' < 2 * n → l < 2 * n → k' ≠ l → ((if k' = k then v' else V k').ownBlock = none ∨ (if k' = k then v' else V k').ownBlock ≠ (if l = k then v' else V l).ownBlock) := by
    intro a b ha hb2 hab
    by_cases ea : a = k
    · subst ea
      rw [if_pos rfl, if_neg (fun h => hab h.symm)]
      rcases hb with hb | hb
      · rw [hb]; exact h.apart a b ha hb2 hab
      · right
        rw [hb]
        intro e
        have := (h.own b hb2).lt e.symm
        omega
    · rw [if_neg ea]
      by_cases eb : b = k
      · subst eb
        rw [if_pos rfl]
        rcases hb with hb | hb
        · rw [hb]; exact h.apart a b ha hb2 hab
        · right
          rw [hb]
          intro e
          have := (h.own a ha).lt e
          omega
      · rw [if_neg eb]; exact h.apart a b ha hb2 hab
  have hsz : (w1.setCell ⟨if k < n then tb else fb, if k < n then k else k - n, none⟩ v').heap.size = w1.heap.size := by simp [World.setCell]
  by_cases hkn : k < n
  · rw [if_pos hkn, if_pos hkn] at *
    refine ⟨(ct1.set hkn v').congr fun i hi => rfl, ?_, fun l hl => ?_, apart', tt1.set _ _, tf1.set _ _, h.ne, by rw [hsz]; exact ⟨Nat.lt_of_lt_of_le h.lt.1 hg.size, Nat.lt_of_lt_of_le h.lt.2 hg.size⟩⟩
    · have : RowF (w1.setCell ⟨tb, k, none⟩ v') fb n (fun i => V (n + i)) := cf1.keep (Below.heap_setCell w1 ⟨tb, k, none⟩ v' fb (fun e => h.ne e.symm))
      exact this.congr fun i hi => by rw [if_neg (by omega)]
    · by_cases e : l = k
      · subst e; rw [if_pos rfl, if_pos rfl]; exact key l v' _ tb l hown tt1
      · rw [if_neg e, if_neg e]; exact key l _ _ tb k (own1 l hl e) tt1
  · rw [if_neg hkn, if_neg hkn] at *
    refine ⟨?_, ?_, fun l hl => ?_, apart', tt1.set _ _, tf1.set _ _, h.ne, by rw [hsz]; exact ⟨Nat.lt_of_lt_of_le h.lt.1 hg.size, Nat.lt_of_lt_of_le h.lt.2 hg.size⟩⟩
    · have : RowF (w1.setCell ⟨fb, k - n, none⟩ v') tb n V := ct1.keep (Below.heap_setCell w1 ⟨fb, k - n, none⟩ v' tb h.ne)
      exact this.congr fun i hi => by rw [if_neg (by omega)]
    · refine (cf1.set (i := k - n) (by omega) v').congr fun i hi => ?_
      by_cases e : i = k - n
      · rw [if_pos e, if_pos (by omega)]
      · rw [if_neg e, if_neg (by omega)]
    · by_cases e : l = k
      · subst e; rw [if_pos rfl, if_pos rfl]; exact key l v' _ fb (l - n) hown tf1
      · rw [if_neg e, if_neg e]; exact key l _ _ fb (k - n) (own1 l hl e) tf1
end
/-- every block of another type, but the two tables, is as it was -/
structure Kept (w u : World) (tb fb : Nat) : Prop where
  size : w.heap.size ≤ u.heap.size
  b : ∀ b T, Tag w b T → T ≠ 3 → b ≠ tb → b ≠ fb → u.heap[b]? = w.heap[b]?
theorem Tag.lt {w : World} {b : Nat} {T : TypeId} (h : Tag w b T) : b < w.heap.size := by
  obtain ⟨c, hc⟩ := h
  rcases Nat.lt_or_ge b w.heap.size with h2 | h2
  · exact h2
  · rw [Array.getElem?_eq_none h2] at hc; cases hc
theorem Kept.refl (w : World) (tb fb : Nat) : Kept w w tb fb := ⟨Nat.le_refl _, fun _ _ _ _ _ _ => rfl⟩
theorem Kept.below {w u z : World} {tb fb : Nat} (h : Kept w u tb fb) (hb : Below u.heap.size u z) : Kept w z tb fb :=
  ⟨Nat.le_trans h.size hb.size, fun b T ht h1 h2 h3 => (hb.block b (Nat.lt_of_lt_of_le ht.lt h.size)).trans (h.b b T ht h1 h2 h3)⟩
theorem Kept.push {w u w1 : World} {base tb fb n k : Nat} {V : Nat → Value} {L : Nat → List Int} (h : Kept w u tb fb) (hr : Rows2 u base tb fb n V L) (hk : k < 2 * n) (hg : u.grownBy w1 (V k).ownBlock) (o : Nat) (v : Value) :
    Kept w (w1.setCell ⟨if k < n then tb else fb, o, none⟩ v) tb fb := by
  refine ⟨Nat.le_trans h.size (Nat.le_trans hg.size (by simp [World.setCell])), fun b T ht h1 h2 h3 => ?_⟩
  have e1 := h.b b T ht h1 h2 h3
  have hap := (hr.own k hk).apart (ht.keep e1) (Ne.symm h1)
  have e2 := hg.block b (Nat.lt_of_lt_of_le ht.lt h.size) hap
  have e3 : (w1.setCell ⟨if k < n then tb else fb, o, none⟩ v).heap[b]? = w1.heap[b]? := Below.heap_setCell w1 _ v b (by
    show b ≠ if k < n then tb else fb
    split
    · exact h2
    · exact h3)
  rw [e3, e2, e1]
/-- an append of one element, in a drawn region of one's own order -/
theorem ord_push {P : Program} {ops : Array Oper} {S : World → Prop} {Q : Exit → Act → World → Prop} {i : Nat} {r : List (Nat × Bool)} {a : Act} {w : World} {α : Type} (d : Option Tmp) (o : Oper) (s x : Operand) (t : TypeId) (hi0 : ops[i]? = some o)
    (ho : o.op = .call { callee := .builtin .append, args := #[s, x], argTypes := #[t, t] }) (hd : o.dst = d) (hw : Region.wanted o (yielded ops a.tmps) = true)
    (base : Nat) (e : TypeId) (j : TypeInfo) (z : Value) (k bytes : Nat) (enc : α → List Value) (ht : P.underlying t = some (.slice e)) (hi : P.info? e = some j) (hz : j.zero = some z)
    (hsize : j.size = k) (hby : j.bytes = bytes) (hzs : z.cells.size = k) (hsz : 0 < k) (hk : ∀ x, (enc x).length = k) (h1 : ∀ x, ∀ u ∈ enc x, u.oneCell' = true)
    (v : Value) (l : List α) (hs : a.eval s = v) (hown : OwnSl e k enc w base v l) (nb c : Nat) (y : α) (hx : a.eval x = .slice (some ⟨nb, 0, none⟩) 1 c)
    (hc : ∀ j u, (enc y)[j]? = some u → w.cell? ⟨nb, j, none⟩ = some u) (h63 : l.length + 1 ≤ maxLen) (hbytes : (l.length + 1) * bytes ≤ 140737488355328) (hbase : base ≤ w.heap.size)
    (h : ∀ v' w', OwnSl e k enc w' base v' (l ++ [y]) → w.grownBy w' v.ownBlock → (v'.ownBlock = v.ownBlock ∨ v'.ownBlock = some w.heap.size) → S w' ∧ wpOrd P ops S Q r (a.put d v') w') : wpOrd P ops S Q ((i, false) :: r) a w := by
  obtain ⟨v', w', k1, k2, k3, _, k5⟩ := run_append_own_at (P := P) w base t o.type e j z k bytes ht hi hz hsize hby hzs hsz v l.length (flat enc l) hown ⟨nb, 0, none⟩ 1 c (enc y) (by rw [hk]; omega)
    (fun j u hu => by rw [Addr.add_mid, Nat.zero_add]; exact hc j u hu) (h1 y) h63 hbytes hbase
  obtain ⟨h4, h5⟩ := h v' w' (by unfold OwnSl; rw [flat_snoc, List.length_append]; exact k2) k3 k5
  refine ord_run d v' w' o hi0 hd hw ?_ h4 h5
  unfold execOp
  simp only [ho, resolve, invoke, builtin, Sem.run_bind, Sem.run_pure, Result.andThen_ok, List.map_toArray, List.map_cons, List.map_nil, hs, hx, k1]
end Go.Proofs.YtlfefikhmdbbfaaGreat
