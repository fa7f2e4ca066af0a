/- No program: a literal of one struct. -/
import Derived.Test.YtlfefikhmdbbfaaGreatWalk
namespace Go.Proofs.YtlfefikhmdbbfaaGreat
open Go
set_option linter.unusedVariables false

theorem fill_list : ∀ (ks pre rest : List Value), rest.length = ks.length →
    (ks.zipIdx pre.length).foldl (fun (cs : Array Value) (p : Value × Nat) => cs.setIfInBounds (0 + p.2) p.1) (pre ++ rest).toArray = (pre ++ ks).toArray
  | [], pre, rest, h => by
    rw [List.eq_nil_of_length_eq_zero h]; rfl
  | k :: ks, pre, rest, h => by
    cases rest with
    | nil => cases h
    | cons r rest =>
      rw [List.zipIdx_cons, List.foldl_cons]
      have h1 : (pre ++ r :: rest).toArray.setIfInBounds (0 + pre.length) k = ((pre ++ [k]) ++ rest).toArray := by
        rw [Nat.zero_add, List.setIfInBounds_toArray]
        congr 1
        simp
      show List.foldl _ ((pre ++ r :: rest).toArray.setIfInBounds (0 + pre.length) k) _ = _
      rw [h1]
      have := fill_list ks (pre ++ [k]) rest (by simpa using h)
      rw [List.length_append] at this
      rw [List.append_assoc] at this ⊢
      rw [List.append_assoc] at this
      exact this
theorem fill_one (size : Nat) (ks : List Value) (cells : Array Value) (h1 : ks.length = size) (h2 : cells.size = size) : Instr.fill (fun i => some (i * size, size)) cells [(0, .agg ks.toArray)] = some ks.toArray := by
  unfold Instr.fill
  simp only [Nat.zero_mul]
  have hc : (Value.agg ks.toArray).cells = ks.toArray := rfl
  rw [hc]
  rw [if_neg (by simp [h1, h2])]
  unfold Instr.fill
  congr 1
  have := fill_list ks [] cells.toList (by simpa [h1] using h2)
  simpa using this
section
variable {P : Program}
theorem run_build1 (w : World) (t e : TypeId) (i : TypeInfo) (z : Value) (ks : List Value) (ht : P.underlying t = some (.slice e)) (hi : P.info? e = some i) (hz : i.zero = some z) (hsz : i.size = ks.length) (h0 : 0 < ks.length) (hmax : ks.length ≤ 1000) :
    (Instr.buildSlice t 1 #[(0, .agg ks.toArray)]).run P w = .ok (.slice (some ⟨w.heap.size, 0, none⟩) 1 1) (w.alloc (.cells ⟨ks⟩ e)) := by
  have hs : (sizeOf e).run P w = .ok ks.length w := by simp [sizeOf, typeInfo, hi, hsz]
  have hzv : (zeroValue e).run P w = .ok z w := by simp [zeroValue, typeInfo, hi, hz]
  have hf : ∀ cells : Array Value, cells.size = ks.length → Instr.fill (fun i => some (i * ks.length, ks.length)) cells [(0, .agg ks.toArray)] = some ks.toArray := fun cells hc => fill_one ks.length ks cells rfl hc
  unfold Instr.buildSlice
  simp only [Sem.run_bind, run_underlying ht, Result.andThen_ok, hs, Nat.one_mul]
  rw [if_neg (by omega), if_neg (by omega)]
  simp only [Sem.run_bind, Sem.run_pure, Result.andThen_ok, hzv]
  rw [hf _ (by simp)]
  simp [newRow]
variable {ops : Array Oper} {rest : List Oper} {o : Oper} {a : Act} {w : World} {Q : Exit → Act → World → Prop}
theorem wl_build1 (t : TypeId) (x : Operand) (ho : o.op = .buildSlice t 1 #[(0, x)]) (hw : Region.wanted o (yielded ops a.tmps) = true) (e : TypeId) (i : TypeInfo) (z : Value) (ks : List Value) (hx : a.eval x = .agg ks.toArray)
    (ht : P.underlying t = some (.slice e)) (hi : P.info? e = some i) (hz : i.zero = some z) (hsz : i.size = ks.length) (h0 : 0 < ks.length) (hmax : ks.length ≤ 1000)
    (h : wpList P ops Q rest (a.put o.dst (.slice (some ⟨w.heap.size, 0, none⟩) 1 1)) (w.alloc (.cells ⟨ks⟩ e))) : wpList P ops Q (o :: rest) a w := by
  refine wpList_step fun K hK => ?_
  rw [if_pos hw]
  unfold Oper.wp execOp
  have hr := run_build1 (P := P) w t e i z ks ht hi hz hsz h0 hmax
  simp only [ho, List.map_toArray, List.map_cons, List.map_nil, hx, Sem.run_bind, Sem.run_pure, Result.andThen_ok, hr]
  exact hK _ _ h
end
end Go.Proofs.YtlfefikhmdbbfaaGreat
