/- No program: a region that draws its order: two operations of which one needs the other, and a third that is ready all the while; a literal of two structs; an append to a slice of one's own, told by its run. -/
import Derived.Test.YtlfefikhmdbbfaaGreatOrder4
import Derived.Test.YtlfefikhmdbbfaaGreatBuild1
namespace Go.Proofs.YtlfefikhmdbbfaaGreat
open Go
set_option linter.unusedVariables false

section
variable {P : Program} {ops : Array Oper} {S : World → Prop} {Q : Exit → Act → World → Prop} {i : Nat} {r : OrdT} {a : Act} {w : World}
theorem tree_three {k j d1 d2 d3 : Nat} (A B C : Value → World → Prop)
    (o1 o2 o3 : Oper) (hi : ops[i]? = some o1) (hk : ops[k]? = some o2) (hj : ops[j]? = some o3) (hd1 : o1.dst = some d1) (hd2 : o2.dst = some d2) (hd3 : o3.dst = some d3)
    (hw1 : Region.wanted o1 (yielded ops a.tmps) = true) (hw1' : ∀ v, Region.wanted o1 (yielded ops (a.put (some d3) v).tmps) = true)
    (hw2 : ∀ u, Region.wanted o2 (yielded ops (a.put (some d1) u).tmps) = true) (hw2' : ∀ u v, Region.wanted o2 (yielded ops ((a.put (some d1) u).put (some d3) v).tmps) = true)
    (hw3 : Region.wanted o3 (yielded ops a.tmps) = true) (hw3' : ∀ u, Region.wanted o3 (yielded ops (a.put (some d1) u).tmps) = true) (hw3'' : ∀ u v, Region.wanted o3 (yielded ops ((a.put (some d1) u).put (some d2) v).tmps) = true)
    (r1 : ∀ z : World, S z → ∃ v z', (execOp a.eval o1).run P z = .ok (.value v) z' ∧ S z' ∧ A v z' ∧ ∀ x, C x z → C x z')
    (r1' : ∀ x (z : World), S z → ∃ v z', (execOp (a.put (some d3) x).eval o1).run P z = .ok (.value v) z' ∧ S z' ∧ A v z' ∧ ∀ x, C x z → C x z')
    (r2 : ∀ u (z : World), S z → A u z → ∃ v z', (execOp (a.put (some d1) u).eval o2).run P z = .ok (.value v) z' ∧ S z' ∧ B v z' ∧ ∀ x, C x z → C x z')
    (r2' : ∀ u x (z : World), S z → A u z → ∃ v z', (execOp ((a.put (some d1) u).put (some d3) x).eval o2).run P z = .ok (.value v) z' ∧ S z' ∧ B v z' ∧ ∀ x, C x z → C x z')
    (r3 : ∀ z : World, S z → ∃ v z', (execOp a.eval o3).run P z = .ok (.value v) z' ∧ S z' ∧ C v z' ∧ (∀ u, A u z → A u z') ∧ ∀ u, B u z → B u z')
    (r3' : ∀ u (z : World), S z → ∃ v z', (execOp (a.put (some d1) u).eval o3).run P z = .ok (.value v) z' ∧ S z' ∧ C v z' ∧ (∀ u, A u z → A u z') ∧ ∀ u, B u z → B u z')
    (r3'' : ∀ u x (z : World), S z → ∃ v z', (execOp ((a.put (some d1) u).put (some d2) x).eval o3).run P z = .ok (.value v) z' ∧ S z' ∧ C v z' ∧ (∀ u, A u z → A u z') ∧ ∀ u, B u z → B u z')
    (h13 : d1 ≠ d3) (h23 : d2 ≠ d3) (hS : S w)
    (h : ∀ u v x z, S z → B v z → C x z → wpTree P ops S Q r (((a.put (some d1) u).put (some d2) v).put (some d3) x) z) :
    wpTree P ops S Q (.two i j (.two k j (.act j r) (.act k r)) (.act i (.act k r))) a w := by
  have hact : ∀ (u x : Value) (z : World), S z → A u z → C x z → wpTree P ops S Q (.act k r) ((a.put (some d1) u).put (some d3) x) z := by
    intro u x z hSz hAz hCz
    obtain ⟨v, z', hr, hS', hB', hC'⟩ := r2' u x z hSz hAz
    show wpOp P ops Q k _ _ z
    refine op_run o2 _ _ hk (hw2' u x) hr ⟨hS', ?_⟩
    rw [hd2, put_comm _ h23]
    exact h u v x z' hS' hB' (hC' x hCz)
  refine ⟨?_, ?_⟩
  · obtain ⟨u, z, hr, hSz, hAz, -⟩ := r1 w hS
    refine op_run o1 _ _ hi hw1 hr ⟨hSz, ?_⟩
    rw [hd1]
    refine ⟨?_, ?_⟩
    · obtain ⟨v, z', hr', hS', hB', -⟩ := r2 u z hSz hAz
      refine op_run o2 _ _ hk (hw2 _) hr' ⟨hS', ?_⟩
      rw [hd2]
      obtain ⟨x, z2, hr2, hS2, hC2, -, hB2⟩ := r3'' u v z' hS'
      show wpOp P ops Q j _ _ z'
      refine op_run o3 _ _ hj (hw3'' _ _) hr2 ⟨hS2, ?_⟩
      rw [hd3]
      exact h _ _ _ _ hS2 (hB2 v hB') hC2
    · obtain ⟨x, z', hr', hS', hC', hA', -⟩ := r3' u z hSz
      refine op_run o3 _ _ hj (hw3' _) hr' ⟨hS', ?_⟩
      rw [hd3]
      exact hact _ _ _ hS' (hA' u hAz) hC'
  · obtain ⟨x, z, hr, hSz, hCz, -, -⟩ := r3 w hS
    refine op_run o3 _ _ hj hw3 hr ⟨hSz, ?_⟩
    rw [hd3]
    obtain ⟨u, z', hr', hS', hA', hC'⟩ := r1' x z hSz
    show wpOp P ops Q i _ _ _
    refine op_run o1 _ _ hi (hw1' _) hr' ⟨hS', ?_⟩
    rw [hd1, put_comm _ h13]
    exact hact _ _ _ hS' hA' (hC' x hCz)
theorem tree_run (d : Option Tmp) (o : Oper) (v : Value) (w' : World) (hi : ops[i]? = some o) (hd : o.dst = d) (hw : Region.wanted o (yielded ops a.tmps) = true) (hrun : (execOp a.eval o).run P w = .ok (.value v) w') (hS : S w')
    (h : wpTree P ops S Q r (a.put d v) w') : wpTree P ops S Q (.act i r) a w := by
  subst hd
  show wpOp P ops Q i _ _ w
  exact op_run o v w' hi hw hrun ⟨hS, h⟩
end
/-! a literal of two structs -/
theorem fill_at : ∀ (ks : List Value) (n m : Nat) (pre mid post : List Value), mid.length = ks.length → n + m = pre.length →
    (ks.zipIdx m).foldl (fun (cs : Array Value) (p : Value × Nat) => cs.setIfInBounds (n + p.2) p.1) (pre ++ mid ++ post).toArray = (pre ++ ks ++ post).toArray
  | [], n, m, pre, mid, post, h, _ => by
    rw [List.eq_nil_of_length_eq_zero h]; rfl
  | k :: ks, n, m, pre, mid, post, h, hn => by
    cases mid with
    | nil => cases h
    | cons x mid =>
      rw [List.zipIdx_cons, List.foldl_cons]
      have h1 : (pre ++ x :: mid ++ post).toArray.setIfInBounds (n + m) k = ((pre ++ [k]) ++ mid ++ post).toArray := by
        rw [hn, List.setIfInBounds_toArray]
        congr 1
        simp
      show List.foldl _ ((pre ++ x :: mid ++ post).toArray.setIfInBounds (n + m) k) _ = _
      rw [h1]
      have := fill_at ks n (m + 1) (pre ++ [k]) mid post (by simpa using h) (by rw [List.length_append, List.length_singleton]; omega)
      rw [this]
      congr 1
      simp
theorem fill_two (size : Nat) (k1 k2 : List Value) (cells : Array Value) (h1 : k1.length = size) (h2 : k2.length = size) (hc : cells.size = 2 * size) :
    Instr.fill (fun i => some (i * size, size)) cells [(0, .agg k1.toArray), (1, .agg k2.toArray)] = some (k1 ++ k2).toArray := by
  have e1 : (Value.agg k1.toArray).cells = k1.toArray := rfl
  have e2 : (Value.agg k2.toArray).cells = k2.toArray := rfl
  obtain ⟨m1, m2, hm, hl1, hl2⟩ : ∃ m1 m2 : List Value, cells = (m1 ++ m2).toArray ∧ m1.length = size ∧ m2.length = size := by
    refine ⟨cells.toList.take size, cells.toList.drop size, by simp, ?_, ?_⟩
    · rw [List.length_take, Array.length_toList]; omega
    · rw [List.length_drop, Array.length_toList]; omega
  subst hm
  unfold Instr.fill
  simp only [e1]
  rw [if_neg (by simp [h1, hl1, hl2])]
  have f1 := fill_at k1 (0 * size) 0 [] m1 m2 (by rw [hl1, h1]) (by simp)
  rw [List.nil_append, List.nil_append] at f1
  have f1' : (k1.toArray.zipIdx).foldl (fun (cs : Array Value) (p : Value × Nat) => cs.setIfInBounds (0 * size + p.2) p.1) (m1 ++ m2).toArray = (k1 ++ m2).toArray := by
    rw [← f1]; simp
  rw [show (k1.toArray.zipIdx.foldl (fun cs x => match x with | (c, j) => cs.setIfInBounds (0 * size + j) c) (m1 ++ m2).toArray) = (k1 ++ m2).toArray from f1']
  unfold Instr.fill
  simp only [e2]
  rw [if_neg (by simp [h1, h2, hl2])]
  have f2 := fill_at k2 (1 * size) 0 k1 m2 [] (by rw [hl2, h2]) (by rw [h1]; simp)
  rw [List.append_nil, List.append_nil] at f2
  have f2' : (k2.toArray.zipIdx).foldl (fun (cs : Array Value) (p : Value × Nat) => cs.setIfInBounds (1 * size + p.2) p.1) (k1 ++ m2).toArray = (k1 ++ k2).toArray := by
    rw [← f2]; simp
  rw [show (k2.toArray.zipIdx.foldl (fun cs x => match x with | (c, j) => cs.setIfInBounds (1 * size + j) c) (k1 ++ m2).toArray) = (k1 ++ k2).toArray from f2']
  rfl
section
variable {P : Program}
theorem run_build2 (w : World) (t e : TypeId) (i : TypeInfo) (z : Value) (k1 k2 : List Value) (ht : P.underlying t = some (.slice e)) (hi : P.info? e = some i) (hz : i.zero = some z) (hsz : i.size = k1.length) (hs2 : k2.length = k1.length) (h0 : 0 < k1.length) (hmax : k1.length ≤ 1000) :
    (Instr.buildSlice t 2 #[(0, .agg k1.toArray), (1, .agg k2.toArray)]).run P w = .ok (.slice (some ⟨w.heap.size, 0, none⟩) 2 2) (w.alloc (.cells ⟨k1 ++ k2⟩ e)) := by
  have hs : (sizeOf e).run P w = .ok k1.length w := by simp [sizeOf, typeInfo, hi, hsz]
  have hzv : (zeroValue e).run P w = .ok z w := by simp [zeroValue, typeInfo, hi, hz]
  have hf : ∀ cells : Array Value, cells.size = 2 * k1.length → Instr.fill (fun i => some (i * k1.length, k1.length)) cells [(0, .agg k1.toArray), (1, .agg k2.toArray)] = some (k1 ++ k2).toArray := fun cells hc => fill_two k1.length k1 k2 cells rfl hs2 hc
  unfold Instr.buildSlice
  simp only [Sem.run_bind, run_underlying ht, Result.andThen_ok, hs]
  rw [if_neg (by omega), if_neg (by omega)]
  simp only [Sem.run_bind, Sem.run_pure, Result.andThen_ok, hzv]
  rw [hf _ (by simp)]
  simp [newRow]
theorem run_build0 (w : World) (t e : TypeId) (i : TypeInfo) (ht : P.underlying t = some (.slice e)) (hi : P.info? e = some i) :
    (Instr.buildSlice t 0 #[]).run P w = .ok (.slice (some ⟨w.heap.size, 0, none⟩) 0 0) (w.alloc (.cells #[] e)) := by
  have hs : (sizeOf e).run P w = .ok i.size w := by simp [sizeOf, typeInfo, hi]
  unfold Instr.buildSlice
  simp only [Sem.run_bind, run_underlying ht, Result.andThen_ok, hs]
  rw [if_neg (by omega), if_pos (by omega)]
  have h9 : ∀ f : Nat → Value, Array.map f (Array.range 0) = #[] := fun f => Array.eq_empty_of_size_eq_zero (by simp)
  simp only [Instr.fill, newRow, Nat.zero_mul, h9, Sem.run_bind, Sem.run_pure, Result.andThen_ok]
  simp
theorem run_append_opt (w : World) (base : Nat) (t ty e : TypeId) (i : TypeInfo) (z : Value) (size bytes : Nat) (ht : P.underlying t = some (.slice e)) (hi : P.info? e = some i) (hz : i.zero = some z)
    (hsize : i.size = size) (hby : i.bytes = bytes) (hzs : z.cells.size = size) (hsz : 0 < size) (v : Value) (n : Nat) (xs : List Value) (hown : w.ownsRow base e size v n xs)
    (A : Option Addr) (m c : Nat) (news : List Value) (hl : news.length = m * size) (hr : 0 < m → ∃ ad, A = some ad ∧ ∀ j u, news[j]? = some u → w.cell? (ad.add j) = some u) (h1 : ∀ u ∈ news, u.oneCell' = true)
    (h63 : n + m ≤ maxLen) (hbytes : (n + m) * bytes ≤ 140737488355328) (hbase : base ≤ w.heap.size) :
    ∃ v' w', (Builtin.append_ #[t, t] ty #[v, .slice A m c]).run P w = .ok v' w' ∧ w'.ownsRow base e size v' (n + m) (xs ++ news) ∧ w.grownBy w' v.ownBlock := by
  rcases Nat.eq_zero_or_pos m with h0 | h0
  · subst h0
    have hn : news = [] := List.eq_nil_of_length_eq_zero (by simpa using hl)
    subst hn
    cases A with
    | none => exact ⟨v, w, run_append_none w base t ty e i size ht hi v n xs hown c, by simpa using hown, World.grownBy.refl w _⟩
    | some ad =>
      obtain ⟨v', w', k1, k2, k3, _⟩ := run_append_own_at (P := P) w base t ty e i z size bytes ht hi hz hsize hby hzs hsz v n xs hown ad 0 c [] hl (fun j u hj => by simp at hj) h1 h63 hbytes hbase
      exact ⟨v', w', k1, k2, k3⟩
  · obtain ⟨ad, rfl, hc⟩ := hr h0
    obtain ⟨v', w', k1, k2, k3, _⟩ := run_append_own_at (P := P) w base t ty e i z size bytes ht hi hz hsize hby hzs hsz v n xs hown ad m c news hl hc h1 h63 hbytes hbase
    exact ⟨v', w', k1, k2, k3⟩
variable {o : Oper} {a : Act} {w : World}
theorem exec_build0 (t : TypeId) (ho : o.op = .buildSlice t 0 #[]) (e : TypeId) (i : TypeInfo) (ht : P.underlying t = some (.slice e)) (hi : P.info? e = some i) :
    (execOp a.eval o).run P w = .ok (.value (.slice (some ⟨w.heap.size, 0, none⟩) 0 0)) (w.alloc (.cells #[] e)) := by
  unfold execOp
  have hr := run_build0 (P := P) w t e i ht hi
  simp only [ho, List.map_toArray, List.map_nil, Sem.run_bind, Sem.run_pure, Result.andThen_ok, hr]
theorem exec_build2 (t : TypeId) (x y : Operand) (ho : o.op = .buildSlice t 2 #[(0, x), (1, y)]) (e : TypeId) (i : TypeInfo) (z : Value) (k1 k2 : List Value) (hx : a.eval x = .agg k1.toArray) (hy : a.eval y = .agg k2.toArray)
    (ht : P.underlying t = some (.slice e)) (hi : P.info? e = some i) (hz : i.zero = some z) (hsz : i.size = k1.length) (hs2 : k2.length = k1.length) (h0 : 0 < k1.length) (hmax : k1.length ≤ 1000) :
    (execOp a.eval o).run P w = .ok (.value (.slice (some ⟨w.heap.size, 0, none⟩) 2 2)) (w.alloc (.cells ⟨k1 ++ k2⟩ e)) := by
  unfold execOp
  have hr := run_build2 (P := P) w t e i z k1 k2 ht hi hz hsz hs2 h0 hmax
  simp only [ho, List.map_toArray, List.map_cons, List.map_nil, hx, hy, Sem.run_bind, Sem.run_pure, Result.andThen_ok, hr]
theorem exec_append (s x : Operand) (t : TypeId) (ho : o.op = .call { callee := .builtin .append, args := #[s, x], argTypes := #[t, t] }) (v : Value) (A : Option Addr) (m c : Nat) (v' : Value) (w' : World) (hs : a.eval s = v) (hx : a.eval x = .slice A m c)
    (hrun : (Builtin.append_ #[t, t] o.type #[v, .slice A m c]).run P w = .ok v' w') : (execOp a.eval o).run P w = .ok (.value v') w' := by
  unfold execOp
  simp only [ho, resolve, invoke, builtin, Sem.run_bind, Sem.run_pure, Result.andThen_ok, List.map_toArray, List.map_cons, List.map_nil, hs, hx, hrun]
end
end Go.Proofs.YtlfefikhmdbbfaaGreat
