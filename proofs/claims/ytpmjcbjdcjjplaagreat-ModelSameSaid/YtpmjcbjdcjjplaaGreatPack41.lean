/- Parts of a proof: MSameP, SamMP, TwoBox, MChg, OrdU, RSamT. -/
import Derived.Test.YtpmjcbjdcjjplaaGreatPack7
import Derived.Test.YtpmjcbjdcjjplaaGreatPack9
import Derived.Test.YtpmjcbjdcjjplaaGreatPack13
import Derived.Test.YtpmjcbjdcjjplaaGreatPack15
import Derived.Test.YtpmjcbjdcjjplaaGreatPack18
import Derived.Test.YtpmjcbjdcjjplaaGreatPack39
import Derived.Test.YtpmjcbjdcjjplaaGreatPack40
section
namespace Go.Proofs.YtpmjcbjdcjjplaaGreat
open Go Go.RowKit
set_option linter.unusedVariables false
def allB {α : Type} (f : α → α → Bool) : List α → List α → Bool
  | [], [] => true
  | a :: l, b :: r => f a b && allB f l r
  | _, _ => false
section
variable {α : Type} {f : α → α → Bool}
theorem allB_at {l r : List α} {k : Nat} {x y : α} (h : l[k]? = some x) (h' : r[k]? = some y) : allB f (l.drop k) (r.drop k) = (f x y && allB f (l.drop (k + 1)) (r.drop (k + 1))) := by
  obtain ⟨h1, h2⟩ := List.getElem?_eq_some_iff.1 h
  obtain ⟨h3, h4⟩ := List.getElem?_eq_some_iff.1 h'
  rw [List.drop_eq_getElem_cons h1, List.drop_eq_getElem_cons h3, h2, h4, allB]
theorem allB_end {l r : List α} (h : l.length = r.length) : allB f (l.drop l.length) (r.drop l.length) = true := by
  rw [List.drop_length, h, List.drop_length, allB]
theorem allB_len : ∀ {l r : List α}, l.length ≠ r.length → allB f l r = false
  | [], [], h => absurd rfl h
  | [], _ :: _, _ => by simp [allB]
  | _ :: _, [], _ => by simp [allB]
  | a :: l, b :: r, h => by rw [allB, allB_len (l := l) (r := r) (by simpa using h), Bool.and_false]
theorem allB_map (g : α → α) : ∀ (l : List α), (∀ x ∈ l, f (g x) x = true) → allB f (l.map g) l = true
  | [], _ => by simp [allB]
  | a :: l, h => by rw [List.map_cons, allB, h a (by simp), allB_map g l fun x hx => h x (by simp [hx])]; rfl
theorem allB_self (l : List α) (h : ∀ x ∈ l, f x x = true) : allB f l l = true := by
  have := allB_map id l h
  rwa [List.map_id] at this
end
def eqIn (a b : Int) : Bool := a == b
def eqPr (a b : Int × Int) : Bool := (a.1 == b.1) && (a.2 == b.2)
def sameVr (a b : VarT) : Bool := (a.name.toList == b.name.toList) && ((a.label == b.label) && (sameT a.type b.type && (ordV a.init b.init == 0)))
def sameMs (a b : MsgT) : Bool := (a.name.toList == b.name.toList) && ((a.label == b.label) && (sameT a.key b.key && sameT a.body b.body))
def sameNp (a b : NodeT) : Bool := (a.kind == b.kind) && ((a.label == b.label) && ((a.var == b.var) && ((a.msg == b.msg) && ((a.catch_ == b.catch_) && ((a.wait == b.wait) && (a.from_ == b.from_))))))
def sameNd (a b : NodeT) : Bool := sameNp a b && (allB eqIn a.next b.next && (sameEL a.conds b.conds && (sameE a.expr b.expr && sameE a.body b.body)))
def sameM (a b : ModelT) : Bool := (a.labels == b.labels) && (allB eqPr a.order b.order && (allB eqPr a.grants b.grants && (allB sameVr a.vars b.vars && (allB sameMs a.msgs b.msgs && allB sameNd a.nodes b.nodes))))
theorem sameEL_mapM : ∀ (l : List ET), (∀ x ∈ l, sameE (canE x) x = true) → sameEL (l.map canE) l = true
  | [], _ => by rw [List.map_nil, sameEL]
  | a :: l, h => by rw [List.map_cons, sameEL, h a (by simp), sameEL_mapM l fun x hx => h x (by simp [hx])]; rfl
theorem sameE_can (t : ET) : sameE (canE t) t = true := by
  induction t using ET.ind with
  | h k s v ns its ih =>
    rw [canE, canEL_map, sameE_prog, canon_same, eqN_iff.2 rfl, sameEL_mapM its ih]
    simp
theorem sameT_selfM (t : TT) : sameT t t = true := (sameT_iff t t).2 rfl
theorem sameVr_can (x : VarT) : sameVr (canVar x) x = true := by
  simp [sameVr, canVar, sameT_selfM, canon_same]
theorem sameMs_self (x : MsgT) : sameMs x x = true := by
  simp [sameMs, sameT_selfM]
theorem sameNd_can (x : NodeT) : sameNd (canNode x) x = true := by
  have h1 : allB eqIn x.next x.next = true := allB_self _ fun y _ => by simp [eqIn]
  simp [sameNd, sameNp, canNode, h1, sameE_can, sameEL_mapM x.conds fun y _ => sameE_can y]
theorem sameM_can (m : ModelT) : sameM (canM m) m = true := by
  have h1 : ∀ l : List (Int × Int), allB eqPr l l = true := fun l => allB_self l fun y _ => by simp [eqPr]
  have h2 : allB sameVr (m.vars.map canVar) m.vars = true := allB_map canVar _ fun x _ => sameVr_can x
  have h3 : allB sameMs m.msgs m.msgs = true := allB_self _ fun x _ => sameMs_self x
  have h4 : allB sameNd (m.nodes.map canNode) m.nodes = true := allB_map canNode _ fun x _ => sameNd_can x
  simp [sameM, canM, h1, h2, h3, h4]
end Go.Proofs.YtpmjcbjdcjjplaaGreat
end
section
namespace Go.Proofs.YtpmjcbjdcjjplaaGreat
open Go Go.RowKit
set_option linter.unusedVariables false
structure TwoP (T : TypeId) (w W : World) (pb : Nat) (X Y : List Value) : Prop where
  a : Whole T W w.heap.size X
  b : Whole T W pb Y
  bel : Below w.heap.size w W
  lt : pb < W.heap.size
  la : w.heap.size < W.heap.size
theorem twoP_start (T : TypeId) (w : World) (X Y : List Value) : TwoP T w ((w.alloc (.cells ⟨X⟩ T)).alloc (.cells ⟨Y⟩ T)) (w.heap.size + 1) X Y := by
  have h1 := Whole.new w X T
  have h2 := box_below w (.cells ⟨X⟩ T)
  have hs : (w.alloc (.cells ⟨X⟩ T)).heap.size = w.heap.size + 1 := by simp
  generalize w.alloc (.cells ⟨X⟩ T) = W1 at *
  have h3 := Whole.new W1 Y T
  have h4 := box_below W1 (.cells ⟨Y⟩ T)
  have h5 : (W1.alloc (.cells ⟨Y⟩ T)).heap.size = W1.heap.size + 1 := by simp
  rw [hs] at h3
  exact ⟨h1.keep (h4.block _ (by omega)), h3, h2.trans (h4.mono (by omega)), by omega, by omega⟩
section
variable {T : TypeId} {w W z : World} {pb : Nat} {X Y : List Value}
theorem TwoP.on (h : TwoP T w W pb X Y) (hb : Below W.heap.size W z) : TwoP T w z pb X Y :=
  ⟨h.a.keep (hb.block _ h.la), h.b.keep (hb.block _ h.lt), h.bel.trans (hb.mono h.bel.size), Nat.lt_of_lt_of_le h.lt hb.size, Nat.lt_of_lt_of_le h.la hb.size⟩
theorem TwoP.ca (h : TwoP T w W pb X Y) (i : Nat) {v : Value} (hv : X[i]? = some v) : W.cell? ⟨w.heap.size, i, none⟩ = some v := by
  have := h.a.range i v hv
  rwa [Nat.zero_add] at this
theorem TwoP.cb (h : TwoP T w W pb X Y) (i : Nat) {v : Value} (hv : Y[i]? = some v) : W.cell? ⟨pb, i, none⟩ = some v := by
  have := h.b.range i v hv
  rwa [Nat.zero_add] at this
theorem range_midM {u : World} {b o : Nat} {Z A B C : List Value} {d : Nat} (h : u.rangeAt b o Z) (he : Z = A ++ (B ++ C)) (hd : A.length = d) : u.rangeAt b (o + d) B := fun j v hv => by
  subst he hd
  have := h (A.length + j) v (by rw [List.getElem?_append_right (by omega), Nat.add_sub_cancel_left, List.getElem?_append_left (List.getElem?_eq_some_iff.1 hv).1]; exact hv)
  rw [show o + A.length + j = o + (A.length + j) by omega]
  exact this
theorem TwoP.ra (h : TwoP T w W pb X Y) {A B C : List Value} (d : Nat) (he : X = A ++ (B ++ C)) (hd : A.length = d) : W.rangeAt w.heap.size d B := by
  have := range_midM h.a.range he hd
  rwa [Nat.zero_add] at this
theorem TwoP.rb (h : TwoP T w W pb X Y) {A B C : List Value} (d : Nat) (he : Y = A ++ (B ++ C)) (hd : A.length = d) : W.rangeAt pb d B := by
  have := range_midM h.b.range he hd
  rwa [Nat.zero_add] at this
end
theorem sl_atM {α : Type} {w : World} {k : Nat} {R : List Value → α → Prop} {v : Value} {l : List α} (h : SlAt w w.heap.size k R v l) : ∃ A c, v = .slice A l.length c ∧ l.length ≤ 9223372036854775807 ∧
    (0 < l.length → ∃ b o, A = some ⟨b, o, none⟩ ∧ b < w.heap.size ∧ ∀ (i : Nat) x, l[i]? = some x → ∃ cs : List Value, w.rangeAt b (o + i * k) cs ∧ R cs x) := by
  obtain ⟨h0, A, c, h1, h2⟩ := h
  refine ⟨A, c, h1, h0, fun hp => ?_⟩
  obtain ⟨b, o, h3, h4, h5⟩ := h2 hp
  refine ⟨b, o, h3, h4, fun i x hx => ?_⟩
  obtain ⟨cs, _, h7, h8⟩ := h5 i x hx
  exact ⟨cs, h7, h8⟩
section
variable {w : World} {B : Nat} {cs : List Value}
theorem var_oneM {x : VarT} (h : VarAt w B cs x) : cs.length = 11 ∧ ∀ u ∈ cs, u.oneCell' = true := by
  have h9 := h.one
  obtain ⟨⟨ct, ci, rfl, h1, h2, _⟩, _⟩ := h
  exact ⟨by simp [h1, h2], h9⟩
theorem msg_oneM {x : MsgT} (h : MsgAt w B cs x) : cs.length = 8 ∧ ∀ u ∈ cs, u.oneCell' = true := by
  have h9 := h.one
  obtain ⟨⟨ct, ci, rfl, h1, h2, _⟩, _⟩ := h
  exact ⟨by simp [h1, h2], h9⟩
theorem node_oneM {x : NodeT} (h : NodeAt w B cs x) : cs.length = 29 ∧ ∀ u ∈ cs, u.oneCell' = true := by
  have h9 := h.one
  obtain ⟨⟨vn, vc, ce, cb, rfl, h1, h2, _⟩, _⟩ := h
  exact ⟨by simp [h1, h2], h9⟩
end
theorem tail_atM {Z A B C : List Value} {a b i : Nat} {v : Value} (h : Z = A ++ (B ++ C)) (ha : A.length = a) (hb : B.length = b) (hv : C[i]? = some v) : Z[a + b + i]? = some v := by
  subst h ha hb
  rw [List.getElem?_append_right (by omega), List.getElem?_append_right (by omega)]
  rw [show A.length + B.length + i - A.length - B.length = i by omega]
  exact hv
end Go.Proofs.YtpmjcbjdcjjplaaGreat
end
section
namespace Go.Proofs.YtpmjcbjdcjjplaaGreat
open Go Go.RowKit
set_option linter.unusedVariables false
section
variable {P : Program} {ops : Array Oper} {S : World → Prop} {Q : Exit → Act → World → Prop} {i : Nat} {r : OrdT} {o : Oper} {a : Act} {w : World}
theorem exec_allocM (T : TypeId) (ho : o.op = .alloc T) (j : TypeInfo) (z : Value) (hi : P.info? T = some j) (hz : j.zero = some z) :
    (execOp a.eval o).run P w = .ok (.value (.pointer (some ⟨w.heap.size, 0, none⟩))) (w.alloc (.cells z.cells T)) := by
  have hzv : (zeroValue T).run P w = .ok z w := by simp [zeroValue, typeInfo, hi, hz]
  unfold execOp
  simp only [ho, Instr.alloc, Sem.run_bind, hzv, Result.andThen_ok]
  simp [newVar, newRow]
theorem op_sstore {K : Act → World → Prop} (T : TypeId) {x y : Operand} (hi : ops[i]? = some o) (ho : o.op = .store T x y) (hd : o.dst = none) (hg : o.guard = none) (b ofs : Nat) (cs : List Value)
    (hx : a.eval x = .pointer (some ⟨b, ofs, none⟩)) (hy : a.eval y = .agg cs.toArray) (ht : w.there b ofs cs.length) (hi2 : (P.info? T).map (·.size) = some cs.length) (h1 : ∀ v ∈ cs, v.oneCell' = true)
    (h : K a (w.setCells b ofs cs)) : wpOp P ops Q i K a w := by
  have hw : Region.wanted o (yielded ops a.tmps) = true := wanted_none hg
  unfold wpOp
  simp only [hi, hw, if_true]
  refine .inl ?_
  exact wp_store_mid T x y ho b ofs cs.toArray hx hy (by simpa using ht) (by simpa using hi2) (all_oneCell_toArray h1) (by simpa [hd, Act.put] using h)
theorem box2 {T : TypeId} {w : World} {p q : Nat} {z z' cs cs' : List Value} (hp : Whole T w p z) (hq : Whole T w q z') (hne : p ≠ q) (hl : z.length = cs.length) (hl' : z'.length = cs'.length) :
    w.there p 0 cs.length ∧ (w.setCells p 0 cs).there q 0 cs'.length ∧ Whole T ((w.setCells p 0 cs).setCells q 0 cs') p cs ∧ Whole T ((w.setCells p 0 cs).setCells q 0 cs') q cs' ∧ But w (w.setCells p 0 cs) p q ∧ But w ((w.setCells p 0 cs).setCells q 0 cs') p q := by
  have b1 := but_sets p cs w 0
  have b1' : But w (w.setCells p 0 cs) p q := ⟨b1.os, b1.tape, b1.output, b1.size, fun b hb h1 h2 => b1.block b hb h1 h1⟩
  have hp1 : Whole T (w.setCells p 0 cs) p cs := heap_set_row p T cs [] z w hp hl
  have hq1 : Whole T (w.setCells p 0 cs) q z' := hq.keep (b1.block q hq.lt hne.symm hne.symm)
  have b2 := but_sets q cs' (w.setCells p 0 cs) 0
  have b2' : But (w.setCells p 0 cs) ((w.setCells p 0 cs).setCells q 0 cs') p q := ⟨b2.os, b2.tape, b2.output, b2.size, fun b hb h1 h2 => b2.block b hb h2 h2⟩
  refine ⟨by rw [← hl]; exact hp.there, by rw [← hl']; exact hq1.there, hp1.keep (b2.block p hp1.lt hne hne), heap_set_row q T cs' [] z' _ hq1 hl', b1', b1'.trans b2'⟩
structure Two3 (T : TypeId) (W Z : World) (p q : Nat) (X Y : List Value) : Prop where
  a : Whole T Z p X
  b : Whole T Z q Y
  bel : Below W.heap.size W Z
  wp : W.heap.size ≤ p
  wq : W.heap.size ≤ q
  ne : p ≠ q
  lp : p < Z.heap.size
  lq : q < Z.heap.size
theorem tree_two_boxes (T : TypeId) (j : TypeInfo) (z : Value) (hT : P.info? T = some j) (hz : j.zero = some z) {W : World} {i1 i2 i3 i4 d1 d2 e1 e2 : Nat} {o1 o2 o3 o4 : Oper} {X Y : List Value} (hS : S = fun u => Below W.heap.size W u) (hw : Below W.heap.size W w)
    (h1 : ops[i1]? = some o1) (h2 : ops[i2]? = some o2) (h3 : ops[i3]? = some o3) (h4 : ops[i4]? = some o4)
    (k1 : o1.op = .alloc T) (k2 : o2.op = .alloc T) (k3 : o3.op = .store T (.tmp d1) (.tmp e1)) (k4 : o4.op = .store T (.tmp d2) (.tmp e2))
    (g1 : o1.guard = none) (g2 : o2.guard = none) (g3 : o3.guard = none) (g4 : o4.guard = none) (t1 : o1.dst = some d1) (t2 : o2.dst = some d2) (t3 : o3.dst = none) (t4 : o4.dst = none) (hne : d1 ≠ d2)
    (v1 : ∀ u v, ((a.put (some d1) u).put (some d2) v).eval (.tmp d1) = u) (v2 : ∀ u v, ((a.put (some d1) u).put (some d2) v).eval (.tmp d2) = v)
    (v3 : ∀ u v, ((a.put (some d1) u).put (some d2) v).eval (.tmp e1) = .agg X.toArray) (v4 : ∀ u v, ((a.put (some d1) u).put (some d2) v).eval (.tmp e2) = .agg Y.toArray)
    (hlX : X.length = z.cells.size) (hlY : Y.length = z.cells.size) (hi : (P.info? T).map (·.size) = some z.cells.size) (oX : ∀ v ∈ X, v.oneCell' = true) (oY : ∀ v ∈ Y, v.oneCell' = true)
    (h : ∀ p q Z, Two3 T W Z p q X Y → Q .normal ((a.put (some d1) (.pointer (some ⟨p, 0, none⟩))).put (some d2) (.pointer (some ⟨q, 0, none⟩))) Z) :
    wpTree P ops S Q (.two i1 i2 (.act i2 (.act i3 (.act i4 .done))) (.act i1 (.act i3 (.act i4 .done)))) a w := by
  subst hS
  have al : ∀ u, Below W.heap.size W u → Below W.heap.size W (u.alloc (.cells z.cells T)) := fun u hu => hu.trans ((box_below u _).mono hu.size)
  have st : ∀ (p q : Nat) (u : World) (a' : Act), Below W.heap.size W u → a' = ((a.put (some d1) (.pointer (some ⟨p, 0, none⟩))).put (some d2) (.pointer (some ⟨q, 0, none⟩))) → Whole T u p z.cells.toList → Whole T u q z.cells.toList → p ≠ q → W.heap.size ≤ p → W.heap.size ≤ q →
      wpTree P ops (fun u => Below W.heap.size W u) Q (.act i3 (.act i4 .done)) a' u := fun p q u a' hu ha hp hq hpq wp wq => by
    subst ha
    obtain ⟨r1, r2, r3, r4, r5, r6⟩ := box2 (cs := X) (cs' := Y) hp hq hpq (by rw [hlX]; simp) (by rw [hlY]; simp)
    refine op_sstore T h3 k3 t3 g3 p 0 X (v1 _ _) (v3 _ _) r1 (by rw [hlX]; exact hi) oX ⟨hu.trans (r5.below hu.size wp wq), ?_⟩
    have hZ : Below W.heap.size W ((u.setCells p 0 X).setCells q 0 Y) := hu.trans (r6.below hu.size wp wq)
    exact op_sstore T h4 k4 t4 g4 q 0 Y (v2 _ _) (v4 _ _) r2 (by rw [hlY]; exact hi) oY ⟨hZ, h p q _ ⟨r3, r4, hZ, wp, wq, hpq, r3.lt, r4.lt⟩⟩
  have hs1 : (w.alloc (.cells z.cells T)).heap.size = w.heap.size + 1 := by simp
  have n1 : Whole T (w.alloc (.cells z.cells T)) w.heap.size z.cells.toList := Whole.new w z.cells.toList T
  have n2 : Whole T ((w.alloc (.cells z.cells T)).alloc (.cells z.cells T)) (w.heap.size + 1) z.cells.toList := by
    have := Whole.new (w.alloc (.cells z.cells T)) z.cells.toList T
    rwa [hs1] at this
  have n3 : Whole T ((w.alloc (.cells z.cells T)).alloc (.cells z.cells T)) w.heap.size z.cells.toList := n1.keep ((box_below (w.alloc (.cells z.cells T)) _).block _ (by omega))
  have hsz := hw.size
  refine ⟨?_, ?_⟩
  · refine op_run o1 _ _ h1 (wanted_none g1) (exec_allocM T k1 j z hT hz) ⟨al _ hw, ?_⟩
    rw [t1]
    refine op_run o2 _ _ h2 (wanted_none g2) (exec_allocM T k2 j z hT hz) ⟨al _ (al _ hw), ?_⟩
    rw [t2, hs1]
    exact st _ _ _ _ (al _ (al _ hw)) rfl n3 n2 (by omega) hsz (by omega)
  · refine op_run o2 _ _ h2 (wanted_none g2) (exec_allocM T k2 j z hT hz) ⟨al _ hw, ?_⟩
    rw [t2]
    refine op_run o1 _ _ h1 (wanted_none g1) (exec_allocM T k1 j z hT hz) ⟨al _ (al _ hw), ?_⟩
    rw [t1, hs1]
    exact st _ _ _ _ (al _ (al _ hw)) (put_comm a hne _ _) n2 n3 (by omega) (by omega) hsz
end
end Go.Proofs.YtpmjcbjdcjjplaaGreat
end
section
namespace Go.Proofs.YtpmjcbjdcjjplaaGreat
open Go Go.RowKit
set_option linter.unusedVariables false
def LikeV (v v' : Value) : Prop := v' = v ∨ (∃ k i j, v = .int k i ∧ v' = .int k j) ∨ ∃ s t, v = .string s ∧ v' = .string t
theorem LikeV.trans {u v w : Value} (h : LikeV u v) (k : LikeV v w) : LikeV u w := by
  rcases h with rfl | ⟨a, i, j, rfl, rfl⟩ | ⟨s, t, rfl, rfl⟩
  · exact k
  · rcases k with rfl | ⟨a', i', j', h1, rfl⟩ | ⟨s, t, h1, rfl⟩
    · exact .inr (.inl ⟨a, i, j, rfl, rfl⟩)
    · injection h1 with h1 h2
      subst h1
      exact .inr (.inl ⟨_, i, j', rfl, rfl⟩)
    · cases h1
  · rcases k with rfl | ⟨a', i', j', h1, rfl⟩ | ⟨s', t', h1, rfl⟩
    · exact .inr (.inr ⟨s, t, rfl, rfl⟩)
    · cases h1
    · exact .inr (.inr ⟨s, t', rfl, rfl⟩)
structure Chg (p : Nat → Prop) (w w' : World) : Prop where
  os : w'.os = w.os
  tape : w'.tape = w.tape
  output : w'.output = w.output
  size : w'.heap.size = w.heap.size
  block : ∀ b, ¬ p b → w'.heap[b]? = w.heap[b]?
  cell : ∀ a v, w.cell? a = some v → ∃ v', w'.cell? a = some v' ∧ LikeV v v'
  frozen : ∀ a, w'.frozen? a = w.frozen? a
section
variable {p : Nat → Prop} {w z : World}
theorem Chg.refl (p : Nat → Prop) (w : World) : Chg p w w := ⟨rfl, rfl, rfl, rfl, fun _ _ => rfl, fun a v h => ⟨v, h, .inl rfl⟩, fun _ => rfl⟩
theorem Chg.put (h : Chg p w z) {b o : Nat} {v u : Value} (ha : z.cell? ⟨b, o, none⟩ = some v) (hl : LikeV v u) (hp : p b) : Chg p w (z.setCell ⟨b, o, none⟩ u) := by
  refine ⟨h.os, h.tape, h.output, by simp [World.setCell, h.size], fun c hc => (Below.heap_setCell z ⟨b, o, none⟩ u c (by rintro rfl; exact hc hp)).trans (h.block c hc), fun a v0 h0 => ?_, fun a => by rw [World.frozen?_setCell]; exact h.frozen a⟩
  obtain ⟨v1, h1, l1⟩ := h.cell a v0 h0
  by_cases e : a = ⟨b, o, none⟩
  · subst e
    rw [ha] at h1
    injection h1 with h1
    subst h1
    exact ⟨u, World.cell?_setCell_same _ _ _ ha, l1.trans hl⟩
  · exact ⟨v1, (World.cell?_setCell_other _ _ _ _ (Ne.symm e)).trans h1, l1⟩
theorem Chg.int (h : Chg p w z) {a : Addr} {j : Int} (hc : w.cell? a = some (.int .i64 j)) : ∃ j', z.cell? a = some (.int .i64 j') := by
  obtain ⟨v, h1, h2⟩ := h.cell a _ hc
  rcases h2 with rfl | ⟨k, i, j', e, rfl⟩ | ⟨s, t, e, rfl⟩
  · exact ⟨_, h1⟩
  · injection e with e1 e2
    subst e1
    exact ⟨_, h1⟩
  · cases e
theorem Chg.str (h : Chg p w z) {a : Addr} {s : ByteArray} (hc : w.cell? a = some (.string s)) : ∃ s', z.cell? a = some (.string s') := by
  obtain ⟨v, h1, h2⟩ := h.cell a _ hc
  rcases h2 with rfl | ⟨k, i, j', e, rfl⟩ | ⟨s, t, e, rfl⟩
  · exact ⟨_, h1⟩
  · cases e
  · exact ⟨_, h1⟩
theorem Chg.sl (h : Chg p w z) {a : Addr} {A : Option Addr} {n c : Nat} (hc : w.cell? a = some (.slice A n c)) : z.cell? a = some (.slice A n c) := by
  obtain ⟨v, h1, h2⟩ := h.cell a _ hc
  rcases h2 with rfl | ⟨k, i, j', e, rfl⟩ | ⟨s, t, e, rfl⟩
  · exact h1
  · cases e
  · cases e
end
def FreeB (w : World) (p : Nat → Prop) (b : Nat) : Prop := p b ∧ ∀ i, w.frozen? ⟨b, i, none⟩ = false
def RowV (w : World) (p : Nat → Prop) (A : Option Addr) (n : Nat) : Prop := n ≤ 9223372036854775807 ∧ (0 < n → ∃ b o, A = some ⟨b, o, none⟩ ∧ FreeB w p b ∧ ∀ k, k < n → ∃ j, w.cell? ⟨b, o + k, none⟩ = some (.int .i64 j))
def HeadV (w : World) (p : Nat → Prop) (A : Option Addr) (n : Nat) : Prop := n ≤ 9223372036854775807 ∧ (0 < n → ∃ b o, A = some ⟨b, o, none⟩ ∧ FreeB w p b ∧ ∃ j, w.cell? ⟨b, o, none⟩ = some (.int .i64 j))
def NodeV (w : World) (p : Nat → Prop) (b o : Nat) : Prop := ∃ lab NA nl nc KA kl kc, w.cell? ⟨b, o + 1, none⟩ = some (.int .i64 lab) ∧ w.cell? ⟨b, o + 2, none⟩ = some (.slice NA nl nc) ∧ w.cell? ⟨b, o + 13, none⟩ = some (.slice KA kl kc) ∧ RowV w p NA nl ∧ HeadV w p KA kl
def VarV (w : World) (p : Nat → Prop) (b o : Nat) : Prop := ∃ KA kl kc, w.cell? ⟨b, o + 4, none⟩ = some (.slice KA kl kc) ∧ HeadV w p KA kl
section
variable {p : Nat → Prop} {w z : World} {b o : Nat}
theorem FreeB.chg (h : FreeB w p b) (hc : Chg p w z) : FreeB z p b := ⟨h.1, fun i => (hc.frozen _).trans (h.2 i)⟩
theorem RowV.chg {A : Option Addr} {n : Nat} (h : RowV w p A n) (hc : Chg p w z) : RowV z p A n := ⟨h.1, fun hn => by
  obtain ⟨b, o, e, h1, h2⟩ := h.2 hn
  refine ⟨b, o, e, h1.chg hc, fun k hk => ?_⟩
  obtain ⟨j, hj⟩ := h2 k hk
  exact hc.int hj⟩
theorem HeadV.chg {A : Option Addr} {n : Nat} (h : HeadV w p A n) (hc : Chg p w z) : HeadV z p A n := ⟨h.1, fun hn => by
  obtain ⟨b, o, e, h1, j, hj⟩ := h.2 hn
  exact ⟨b, o, e, h1.chg hc, hc.int hj⟩⟩
structure ModV (w : World) (p : Nat → Prop) (cs : List Value) (m : ModelT) : Prop where
  ex : ∃ v0 v1 v2 B3 c3 v4 B5 c5, cs = [v0, v1, v2, .slice B3 m.vars.length c3, v4, .slice B5 m.nodes.length c5] ∧
    (0 < m.vars.length → ∃ b o, B3 = some ⟨b, o, none⟩ ∧ FreeB w p b ∧ ∀ i x, m.vars[i]? = some x → w.cell? ⟨b, o + i * 11, none⟩ = some (.string x.name) ∧ VarV w p b (o + i * 11)) ∧
    (0 < m.nodes.length → ∃ b o, B5 = some ⟨b, o, none⟩ ∧ FreeB w p b ∧ ∀ i x, m.nodes[i]? = some x → NodeV w p b (o + i * 29))
theorem ThW.free {A : Option Addr} {n c : Nat} (h : ThW (only w p) (.slice A n c)) {a : Addr} (hA : A = some a) : FreeB w p a.block := by
  subst hA
  obtain ⟨cc, T, h1⟩ := h a.block rfl
  obtain ⟨h2, h3⟩ := only_block.1 h1
  refine ⟨h2, fun i => ?_⟩
  unfold World.frozen?
  rw [h3]
  simp
theorem row_of {v : Value} {l : List Int} {B : Nat} (h : SlAt (only w p) B 1 IntR v l) (ht : ThW (only w p) v) : ∃ A n c, v = .slice A n c ∧ RowV w p A n := by
  obtain ⟨h0, A, c, rfl, h1⟩ := h
  refine ⟨A, l.length, c, rfl, h0, fun hn => ?_⟩
  obtain ⟨b, o, rfl, _, h2⟩ := h1 hn
  refine ⟨b, o, rfl, ht.free rfl, fun k hk => ?_⟩
  obtain ⟨cs, _, h3, h4⟩ := h2 k _ (List.getElem?_eq_getElem hk)
  have := h3 0 _ (by rw [h4.1]; rfl)
  rw [Nat.mul_one, Nat.add_zero] at this
  exact ⟨_, (only_cell.1 this).2⟩
theorem head_of {α : Type} {v : Value} {l : List α} {B k : Nat} {R : List Value → α → Prop} (h : SlAt (only w p) B k R v l) (ht : ThW (only w p) v) (hR : ∀ cs x, R cs x → ∃ j, cs[0]? = some (.int .i64 j)) : ∃ A n c, v = .slice A n c ∧ HeadV w p A n := by
  obtain ⟨h0, A, c, rfl, h1⟩ := h
  refine ⟨A, l.length, c, rfl, h0, fun hn => ?_⟩
  obtain ⟨b, o, rfl, _, h2⟩ := h1 hn
  obtain ⟨cs, _, h3, h4⟩ := h2 0 _ (List.getElem?_eq_getElem hn)
  obtain ⟨j, hj⟩ := hR cs _ h4
  have := h3 0 _ hj
  simp only [Nat.zero_mul, Nat.add_zero] at this
  exact ⟨b, o, rfl, ht.free rfl, j, (only_cell.1 this).2⟩
theorem exp_head {W : World} {B : Nat} {cs : List Value} {t : ET} (h : ExpAt W B cs t) : ∃ j, cs[0]? = some (.int .i64 j) := by
  cases t
  obtain ⟨c0, c1, c2, c3, c4, c5, vn, vi, rfl, _⟩ := h.inv
  exact ⟨_, rfl⟩
theorem typ_head {W : World} {B : Nat} {cs : List Value} {t : TT} (h : TypAt W B cs t) : ∃ j, cs[0]? = some (.int .i64 j) := by
  cases t
  obtain ⟨vn, vi, rfl, _⟩ := h.inv
  exact ⟨_, rfl⟩
theorem ThM.view {cs : List Value} {m : ModelT} {B : Nat} (h : ThM (only w p) B cs m) : ModV w p cs m := by
  obtain ⟨v0, v1, v2, v3, v4, v5, rfl, h3, h5, t3, t5⟩ := h
  obtain ⟨_, B3, c3, rfl, k3⟩ := h3
  obtain ⟨_, B5, c5, rfl, k5⟩ := h5
  refine ⟨v0, v1, v2, B3, c3, v4, B5, c5, rfl, fun hn => ?_, fun hn => ?_⟩
  · obtain ⟨b, o, rfl, _, k⟩ := k3 hn
    refine ⟨b, o, rfl, t3.free rfl, fun i x hx => ?_⟩
    obtain ⟨cs, hl, hr, ⟨⟨ct, ci, hcs, hct, hci, hty, hin⟩, _, _⟩, hth⟩ := k i x hx
    have hname : cs[0]? = some (.string x.name) := by rw [hcs]; rfl
    have c0 := (only_cell.1 (hr 0 _ hname)).2
    rw [Nat.add_zero] at c0
    refine ⟨c0, ?_⟩
    cases hxt : x.type with
    | mk tk ns its =>
      have hty' : TypAt (only w p) B ct (.mk tk ns its) := by rw [← hxt]; exact hty
      obtain ⟨vn, vi, rfl, _, _, _, hi⟩ := hty'.inv
      have h4 : cs[4]? = some vi := by rw [hcs]; rfl
      obtain ⟨A, n, c, rfl, hh⟩ := head_of hi (hth vi h4) fun _ _ h => typ_head h
      exact ⟨A, n, c, (only_cell.1 (hr 4 _ h4)).2, hh⟩
  · obtain ⟨b, o, rfl, _, k⟩ := k5 hn
    refine ⟨b, o, rfl, t5.free rfl, fun i x hx => ?_⟩
    obtain ⟨cs, hl, hr, ⟨⟨vn, vc, ce, cb, hcs, hce, hcb, hnx, hcn, hcl, hex, hbd⟩, _⟩, hth1, hth2⟩ := k i x hx
    have h1 : cs[1]? = some (.int .i64 x.label) := by rw [hcs]; rfl
    have h2 : cs[2]? = some vn := by rw [hcs]; rfl
    obtain ⟨A, n, c, rfl, hh⟩ := row_of hnx (hth1 vn h2)
    cases hxe : (canNode x).expr with
    | mk ek es ev ens its =>
      have hex' : ExpAt (only w p) B ce (.mk ek es ev ens its) := by rw [← hxe]; exact hex
      obtain ⟨c0, c1, c2, c3, c4, c5, vns, vi, rfl, _, _, _, _, _, hi⟩ := hex'.inv
      have h13 : cs[13]? = some vi := by rw [hcs]; rfl
      obtain ⟨A', n', c', rfl, hh'⟩ := head_of hi (hth2 vi h13) fun _ _ h => exp_head h
      exact ⟨x.label, A, n, c, A', n', c', (only_cell.1 (hr 1 _ h1)).2, (only_cell.1 (hr 2 _ h2)).2, (only_cell.1 (hr 13 _ h13)).2, hh, hh'⟩
end
theorem NodeV.chg {p : Nat → Prop} {w z : World} {b o : Nat} (h : NodeV w p b o) (hc : Chg p w z) : NodeV z p b o := by
  obtain ⟨lab, NA, nl, nc, KA, kl, kc, h1, h2, h3, h4, h5⟩ := h
  obtain ⟨j, hj⟩ := hc.int h1
  exact ⟨j, NA, nl, nc, KA, kl, kc, hj, hc.sl h2, hc.sl h3, h4.chg hc, h5.chg hc⟩
theorem VarV.chg {p : Nat → Prop} {w z : World} {b o : Nat} (h : VarV w p b o) (hc : Chg p w z) : VarV z p b o := by
  obtain ⟨KA, kl, kc, h1, h2⟩ := h
  exact ⟨KA, kl, kc, hc.sl h1, h2.chg hc⟩
theorem ThM.to {p q : Nat → Prop} {w w' : World} {cs : List Value} {m : ModelT} (h : ThM (only w p) w.heap.size cs m) (hb : ∀ b, p b → b < w.heap.size → q b ∧ w'.heap[b]? = w.heap[b]?) (hs : w.heap.size ≤ w'.heap.size) : ThM (only w' q) w'.heap.size cs m := by
  obtain ⟨v0, v1, v2, v3, v4, v5, rfl, h3, h5, t3, t5⟩ := h
  exact ⟨_, _, _, _, _, _, rfl, sl_to keeps_var h3 hb hs, sl_to keeps_node h5 hb hs, t3.mono (only_toB hb), t5.mono (only_toB hb)⟩
theorem str_stays {z : World} {a : Addr} {b o : Nat} {s : ByteArray} {j k : Int} (h : z.cell? a = some (.string s)) (hn : z.cell? ⟨b, o, none⟩ = some (.int .i64 j)) : (z.setCell ⟨b, o, none⟩ (.int .i64 k)).cell? a = some (.string s) :=
  (World.cell?_setCell_other _ _ _ _ (by intro e; subst e; rw [hn] at h; injection h with h; cases h)).trans h
end Go.Proofs.YtpmjcbjdcjjplaaGreat
end
section
namespace Go.Proofs.YtpmjcbjdcjjplaaGreat
open Go
inductive OrdU where
  | done
  | take (i : Nat) (r : OrdU)
  | act (i : Nat) (r : OrdU)
  | two (i j : Nat) (r s : OrdU)
  | three (i j k : Nat) (r s t : OrdU)
def OrdU.len : OrdU → Nat
  | .done => 0
  | .take _ r => r.len + 1
  | .act _ r => r.len + 1
  | .two _ _ r _ => r.len + 1
  | .three _ _ _ r _ _ => r.len + 1
def OrdU.ok (md : Region.Mode) (ops : Array Oper) : OrdU → Array Bool → Bool
  | .done, listed => (Region.ready md ops listed).isEmpty
  | .take i r, listed => Region.free md ops listed i && (Region.ready md ops listed).contains i && r.ok md ops (listed.setIfInBounds i true)
  | .act i r, listed => (Region.ready md ops listed == [i]) && r.ok md ops (listed.setIfInBounds i true)
  | .two i j r s, listed => (Region.ready md ops listed == [i, j]) && r.ok md ops (listed.setIfInBounds i true) && s.ok md ops (listed.setIfInBounds j true) && (r.len == s.len)
  | .three i j k r s t, listed => (Region.ready md ops listed == [i, j, k]) && r.ok md ops (listed.setIfInBounds i true) && s.ok md ops (listed.setIfInBounds j true) && t.ok md ops (listed.setIfInBounds k true) && (r.len == s.len) && (r.len == t.len)
def wpTreU (P : Program) (ops : Array Oper) (S : World → Prop) (Q : Exit → Act → World → Prop) : OrdU → Act → World → Prop
  | .done, a, w => Q .normal a w
  | .take i r, a, w => S w ∧ ∃ o v, ops[i]? = some o ∧ YieldsIf P ops S o v a ∧ wpTreU P ops S Q r (a.put o.dst v) w
  | .act i r, a, w => wpOp P ops Q i (fun a' w' => S w' ∧ wpTreU P ops S Q r a' w') a w
  | .two i j r s, a, w => wpOp P ops Q i (fun a' w' => S w' ∧ wpTreU P ops S Q r a' w') a w ∧ wpOp P ops Q j (fun a' w' => S w' ∧ wpTreU P ops S Q s a' w') a w
  | .three i j k r s t, a, w => wpOp P ops Q i (fun a' w' => S w' ∧ wpTreU P ops S Q r a' w') a w ∧ wpOp P ops Q j (fun a' w' => S w' ∧ wpTreU P ops S Q s a' w') a w ∧ wpOp P ops Q k (fun a' w' => S w' ∧ wpTreU P ops S Q t a' w') a w
def OrdU.of : List (Nat × Bool) → OrdU → OrdU
  | [], t => t
  | (i, true) :: r, t => .take i (OrdU.of r t)
  | (i, false) :: r, t => .act i (OrdU.of r t)
section
variable {P : Program} {ops : Array Oper} {S : World → Prop} {Q : Exit → Act → World → Prop}
theorem wpAnyH_of_treu (hs : Region.noSelect ops = true) (hQ : ∀ c a d v w, Q (.panic c) (a.put d v) w → Q (.panic c) a w) :
    ∀ (t : OrdU) (listed : Array Bool) (a : Act) (w : World), t.ok .any ops listed = true → wpTreU P ops S Q t a w → wpAnyH P .any ops Q S t.len listed a w
  | .done, listed, a, w, hB, h => wpAnyH_done (by simpa [OrdU.ok] using hB) h _
  | .take i r, listed, a, w, hB, h => by
    simp only [OrdU.ok, Bool.and_eq_true] at hB
    obtain ⟨hS, o, v, hi, hy, hr⟩ := h
    exact wpAnyH_take hi hs hB.1.1 hB.1.2 (fun c a w hq => hQ c a _ _ w hq) hy hS (wpAnyH_of_treu hs hQ r _ _ _ hB.2 hr)
  | .act i r, listed, a, w, hB, h => by
    simp only [OrdU.ok, Bool.and_eq_true, beq_iff_eq] at hB
    refine wpAnyH_all hB.1 (by simp) fun j hj => ?_
    obtain rfl : j = i := by simpa using hj
    exact wpOp_mono (fun a' w' hh => ⟨hh.1, wpAnyH_of_treu hs hQ r _ _ _ hB.2 hh.2⟩) h
  | .two i j r s, listed, a, w, hB, h => by
    simp only [OrdU.ok, Bool.and_eq_true, beq_iff_eq] at hB
    obtain ⟨⟨⟨h1, h2⟩, h3⟩, h4⟩ := hB
    refine wpAnyH_all h1 (by simp) fun k hk => ?_
    rcases List.mem_cons.1 hk with rfl | hk
    · exact wpOp_mono (fun a' w' hh => ⟨hh.1, wpAnyH_of_treu hs hQ r _ _ _ h2 hh.2⟩) h.1
    · obtain rfl : k = j := by simpa using hk
      refine wpOp_mono (fun a' w' hh => ⟨hh.1, ?_⟩) h.2
      have := wpAnyH_of_treu hs hQ s _ _ _ h3 hh.2
      rw [← h4] at this
      exact this
  | .three i j k r s t, listed, a, w, hB, h => by
    simp only [OrdU.ok, Bool.and_eq_true, beq_iff_eq] at hB
    obtain ⟨⟨⟨⟨⟨h1, h2⟩, h3⟩, h4⟩, h5⟩, h6⟩ := hB
    refine wpAnyH_all h1 (by simp) fun q hq => ?_
    rcases List.mem_cons.1 hq with rfl | hq
    · exact wpOp_mono (fun a' w' hh => ⟨hh.1, wpAnyH_of_treu hs hQ r _ _ _ h2 hh.2⟩) h.1
    · rcases List.mem_cons.1 hq with rfl | hq
      · refine wpOp_mono (fun a' w' hh => ⟨hh.1, ?_⟩) h.2.1
        have := wpAnyH_of_treu hs hQ s _ _ _ h3 hh.2
        rw [← h5] at this
        exact this
      · obtain rfl : q = k := by simpa using hq
        refine wpOp_mono (fun a' w' hh => ⟨hh.1, ?_⟩) h.2.2
        have := wpAnyH_of_treu hs hQ t _ _ _ h4 hh.2
        rw [← h6] at this
        exact this
theorem wp_region_treu {id : Nat} {a : Act} {w : World} {l : List Oper} (t : OrdU) (S : World → Prop) (hm : P.follows .mixedOrders = true) (hs : Region.noSelect l.toArray = true)
    (hB : t.ok .any l.toArray (Array.replicate l.toArray.size false) = true) (hlen : t.len = l.toArray.size)
    (hQ : ∀ c a d v w, Q (.panic c) (a.put d v) w → Q (.panic c) a w) (h : wpTreU P l.toArray S Q t a w.drew) : (Code.region id l.toArray true).wp P Q a w := by
  refine wp_region_held (S := S) hm ?_
  have := wpAnyH_of_treu hs hQ t _ a w.drew hB h
  rw [hlen] at this
  exact this
end
section
variable {P : Program} {ops : Array Oper} {S : World → Prop} {Q : Exit → Act → World → Prop} {i : Nat} {r : OrdU} {a : Act} {w : World}
theorem treu_val (o : Oper) (v : Value) (hi : ops[i]? = some o) (hw : Region.wanted o (yielded ops a.tmps) = true) (hS : S w) (hv : ∀ w, S w → (execOp a.eval o).run P w = .ok (.value v) w)
    (h : wpTreU P ops S Q r (a.put o.dst v) w) : wpTreU P ops S Q (.take i r) a w :=
  ⟨hS, o, v, hi, .inl ⟨hw, hv⟩, h⟩
theorem treu_load (d : Option Tmp) (v : Value) (o : Oper) (hi : ops[i]? = some o) (hd : o.dst = d) (hw : Region.wanted o (yielded ops a.tmps) = true) (hS : S w) (hv : ∀ w, S w → (execOp a.eval o).run P w = .ok (.value v) w)
    (h : wpTreU P ops S Q r (a.put d v) w) : wpTreU P ops S Q (.take i r) a w := by
  subst hd; exact treu_val o v hi hw hS hv h
theorem treu_end (h : Q .normal a w) : wpTreU P ops S Q .done a w := h
end
open Go.RowKit
section
variable {P : Program} {ops : Array Oper} {S : World → Prop} {Q : Exit → Act → World → Prop} {i : Nat} {a : Act} {w : World}
theorem op_to {K : Act → World → Prop} (d : Nat) (f : FuncId) {fn : Func} (hf : P.funcs[f]? = some fn) (hn : (fn.name == "runtime.NumGoroutine") = false) (hb : fn.body.isNone = false) (vals : List Value)
    {o : Oper} {args : List Operand} {ts : Array TypeId} (hi : ops[i]? = some o) (ho : o.op = .call { callee := .value (.func f), args := args.toArray, argTypes := ts })
    (hd : o.dst = some d) (hw : Region.wanted o (yielded ops a.tmps) = true) (hv : args.map a.eval = vals)
    (h : Calls P f vals.toArray w fun e w' => ∃ v, e = .returned v ∧ K (a.put (some d) v) w') : wpOp P ops Q i K a w := by
  refine op_call o f vals.toArray hi hw (by rw [← hv, ← List.map_toArray]; exact exec_call hf hn hb o args.toArray ts ho) ?_
  rw [hd]
  exact h
theorem op_boxM {K : Act → World → Prop} (d : Nat) (T : TypeId) (j : TypeInfo) (z : Value) (zc : List Value) {o : Oper} (hi : ops[i]? = some o) (ho : o.op = .alloc T) (hd : o.dst = some d) (hw : Region.wanted o (yielded ops a.tmps) = true)
    (hj : P.info? T = some j) (hz : j.zero = some z) (hzc : z.cells = ⟨zc⟩) (h : K (a.put (some d) (.pointer (some ⟨w.heap.size, 0, none⟩))) (w.alloc (.cells ⟨zc⟩ T))) : wpOp P ops Q i K a w := by
  refine op_run o _ _ hi hw (exec_allocM T ho j z hj hz) ?_
  rw [hd, hzc]
  exact h
end
structure Ran (m : ModelT) (W u w' : World) (cs : List Value) : Prop where
  on : Below W.heap.size W u
  bel : Below u.heap.size u w'
  kept : KeptM (fun b => u.heap.size ≤ b) w' cs (canM m)
  th : ThM (only w' fun b => u.heap.size ≤ b) w'.heap.size cs m
def At2 (U u w' : World) : Prop := w'.heap.size ≤ U.heap.size ∧ ∀ b, u.heap.size ≤ b → b < w'.heap.size → U.heap[b]? = w'.heap[b]?
def Out2 (p : Nat) (u w' : World) : Prop := p < u.heap.size ∨ w'.heap.size ≤ p
theorem At2.on {U V u w' : World} (h : At2 U u w') (hb : Below U.heap.size U V) : At2 V u w' := ⟨Nat.le_trans h.1 hb.size, fun b h1 h2 => (hb.block b (Nat.lt_of_lt_of_le h2 h.1)).trans (h.2 b h1 h2)⟩
structure OwnS (m : ModelT) (T : TypeId) (zc : List Value) (W U : World) (c : Nat) (u1 w1 u2 w2 : World) (cs1 cs2 : List Value) (A B : Bool) (p q : Nat) : Prop where
  bel : Below W.heap.size W U
  r1 : 1 ≤ c → Ran m W u1 w1 cs1 ∧ At2 U u1 w1
  r2 : 2 ≤ c → Ran m W u2 w2 cs2 ∧ At2 U u2 w2 ∧ w1.heap.size ≤ u2.heap.size
  a : A = true → Whole T U p zc ∧ W.heap.size ≤ p ∧ (1 ≤ c → Out2 p u1 w1) ∧ (2 ≤ c → Out2 p u2 w2)
  b : B = true → Whole T U q zc ∧ W.heap.size ≤ q ∧ (1 ≤ c → Out2 q u1 w1) ∧ (2 ≤ c → Out2 q u2 w2)
  ne : A = true → B = true → p ≠ q
section
variable {m : ModelT} {T : TypeId} {zc cs1 cs2 cs : List Value} {W U V u1 w1 u2 w2 : World} {c p q : Nat} {A B : Bool}
theorem OwnS.start (m : ModelT) (T : TypeId) (zc : List Value) (W U : World) (h : Below W.heap.size W U) : OwnS m T zc W U 0 W W W W [] [] false false 0 0 :=
  ⟨h, fun h => absurd h (by decide), fun h => absurd h (by decide), fun h => (by cases h), fun h => (by cases h), fun h => (by cases h)⟩
theorem OwnS.call1 (h : OwnS m T zc W U 0 u1 w1 u2 w2 cs1 cs2 A B p q) (hb : Below U.heap.size U V) (hk : KeptM (fun b => U.heap.size ≤ b) V cs (canM m)) (ht : ThM (only V fun b => U.heap.size ≤ b) V.heap.size cs m) :
    OwnS m T zc W V 1 U V u2 w2 cs cs2 A B p q :=
  ⟨h.bel.trans (hb.mono h.bel.size), fun _ => ⟨⟨h.bel, hb, hk, ht⟩, Nat.le_refl _, fun _ _ _ => rfl⟩, fun h => absurd h (by decide),
    fun e => ⟨(h.a e).1.keep (hb.block p (h.a e).1.lt), (h.a e).2.1, fun _ => .inl (h.a e).1.lt, fun h => absurd h (by decide)⟩,
    fun e => ⟨(h.b e).1.keep (hb.block q (h.b e).1.lt), (h.b e).2.1, fun _ => .inl (h.b e).1.lt, fun h => absurd h (by decide)⟩, h.ne⟩
theorem OwnS.call2 (h : OwnS m T zc W U 1 u1 w1 u2 w2 cs1 cs2 A B p q) (hb : Below U.heap.size U V) (hk : KeptM (fun b => U.heap.size ≤ b) V cs (canM m)) (ht : ThM (only V fun b => U.heap.size ≤ b) V.heap.size cs m) :
    OwnS m T zc W V 2 u1 w1 U V cs1 cs A B p q :=
  ⟨h.bel.trans (hb.mono h.bel.size), fun _ => ⟨(h.r1 (by decide)).1, (h.r1 (by decide)).2.on hb⟩, fun _ => ⟨⟨h.bel, hb, hk, ht⟩, ⟨Nat.le_refl _, fun _ _ _ => rfl⟩, (h.r1 (by decide)).2.1⟩,
    fun e => ⟨(h.a e).1.keep (hb.block p (h.a e).1.lt), (h.a e).2.1, fun _ => (h.a e).2.2.1 (by decide), fun _ => .inl (h.a e).1.lt⟩,
    fun e => ⟨(h.b e).1.keep (hb.block q (h.b e).1.lt), (h.b e).2.1, fun _ => (h.b e).2.2.1 (by decide), fun _ => .inl (h.b e).1.lt⟩, h.ne⟩
theorem OwnS.on (h : OwnS m T zc W U c u1 w1 u2 w2 cs1 cs2 A B p q) (hb : Below U.heap.size U V) : OwnS m T zc W V c u1 w1 u2 w2 cs1 cs2 A B p q :=
  ⟨h.bel.trans (hb.mono h.bel.size), fun e => ⟨(h.r1 e).1, (h.r1 e).2.on hb⟩, fun e => ⟨(h.r2 e).1, (h.r2 e).2.1.on hb, (h.r2 e).2.2⟩,
    fun e => ⟨(h.a e).1.keep (hb.block p (h.a e).1.lt), (h.a e).2⟩, fun e => ⟨(h.b e).1.keep (hb.block q (h.b e).1.lt), (h.b e).2⟩, h.ne⟩
theorem OwnS.boxA (h : OwnS m T zc W U c u1 w1 u2 w2 cs1 cs2 false B p q) : OwnS m T zc W (U.alloc (.cells ⟨zc⟩ T)) c u1 w1 u2 w2 cs1 cs2 true B U.heap.size q := by
  have k := h.on (box_below U (.cells ⟨zc⟩ T))
  refine ⟨k.bel, k.r1, k.r2, fun _ => ⟨Whole.new U zc T, h.bel.size, fun e => .inr (h.r1 e).2.1, fun e => .inr (h.r2 e).2.1.1⟩, k.b, fun _ e => ?_⟩
  have := (h.b e).1.lt
  omega
theorem OwnS.boxB (h : OwnS m T zc W U c u1 w1 u2 w2 cs1 cs2 A false p q) : OwnS m T zc W (U.alloc (.cells ⟨zc⟩ T)) c u1 w1 u2 w2 cs1 cs2 A true p U.heap.size := by
  have k := h.on (box_below U (.cells ⟨zc⟩ T))
  refine ⟨k.bel, k.r1, k.r2, k.a, fun _ => ⟨Whole.new U zc T, h.bel.size, fun e => .inr (h.r1 e).2.1, fun e => .inr (h.r2 e).2.1.1⟩, fun e _ => ?_⟩
  have := (h.a e).1.lt
  omega
end
structure FinO (m : ModelT) (T : TypeId) (W Z : World) (p q : Nat) (u1 w1 u2 w2 : World) (cs1 cs2 : List Value) : Prop where
  bel : Below W.heap.size W Z
  r1 : Ran m W u1 w1 cs1
  r2 : Ran m W u2 w2 cs2
  k1 : At2 Z u1 w1
  k2 : At2 Z u2 w2
  s : w1.heap.size ≤ u2.heap.size
  a : Whole T Z p cs1
  b : Whole T Z q cs2
  pa : Out2 p u1 w1
  qa : Out2 q u1 w1
  qb : Out2 q u2 w2
  ne : p ≠ q
theorem OwnS.fin {m : ModelT} {T : TypeId} {zc cs1 cs2 : List Value} {W U u1 w1 u2 w2 : World} {p q : Nat} (h : OwnS m T zc W U 2 u1 w1 u2 w2 cs1 cs2 true true p q) (l1 : zc.length = cs1.length) (l2 : zc.length = cs2.length) :
    U.there p 0 cs1.length ∧ (U.setCells p 0 cs1).there q 0 cs2.length ∧ Below W.heap.size W (U.setCells p 0 cs1) ∧ FinO m T W ((U.setCells p 0 cs1).setCells q 0 cs2) p q u1 w1 u2 w2 cs1 cs2 := by
  obtain ⟨ha, wp, oa1, oa2⟩ := h.a rfl
  obtain ⟨hb, wq, ob1, ob2⟩ := h.b rfl
  obtain ⟨t1, t2, wa, wb, b1, b2⟩ := box2 ha hb (h.ne rfl rfl) l1 l2
  have key : ∀ {u w'}, At2 U u w' → Out2 p u w' → Out2 q u w' → At2 ((U.setCells p 0 cs1).setCells q 0 cs2) u w' := fun k hp hq => ⟨Nat.le_trans k.1 b2.size, fun b h1 h2 => (b2.block b (Nat.lt_of_lt_of_le h2 k.1) (by rintro rfl; rcases hp with h | h <;> omega) (by rintro rfl; rcases hq with h | h <;> omega)).trans (k.2 b h1 h2)⟩
  have r1 := h.r1 (by decide)
  have r2 := h.r2 (by decide)
  exact ⟨t1, t2, h.bel.trans (b1.below h.bel.size wp wq), h.bel.trans (b2.below h.bel.size wp wq), r1.1, r2.1, key r1.2 (oa1 (by decide)) (ob1 (by decide)), key r2.2.1 (oa2 (by decide)) (ob2 (by decide)), r2.2.2, wa, wb, oa1 (by decide), ob1 (by decide), ob2 (by decide), h.ne rfl rfl⟩
theorem mod_lenM {w : World} {B : Nat} {cs : List Value} {m : ModelT} (h : ModelAt w B cs m) : cs.length = 6 := by
  obtain ⟨⟨v1, v2, v3, v4, v5, rfl, _⟩, _⟩ := h
  rfl
theorem mod_oneM {w : World} {B : Nat} {cs : List Value} {m : ModelT} (h : ModelAt w B cs m) : ∀ u ∈ cs, u.oneCell' = true := by
  obtain ⟨⟨v1, v2, v3, v4, v5, rfl, ⟨_, _, _, rfl, _⟩, ⟨_, _, _, rfl, _⟩, ⟨_, _, _, rfl, _⟩, ⟨_, _, _, rfl, _⟩, ⟨_, _, _, rfl, _⟩⟩, _⟩ := h
  intro u hu
  simp only [List.mem_cons, List.not_mem_nil, or_false] at hu
  rcases hu with rfl | rfl | rfl | rfl | rfl | rfl <;> rfl
end Go.Proofs.YtpmjcbjdcjjplaaGreat
end
section
namespace Go.Proofs.YtpmjcbjdcjjplaaGreat
open Go Go.RowKit
set_option linter.unusedVariables false
set_option linter.unusedSimpArgs false
theorem sameTL_lenC (l r : List TT) : sameTL l r = (((l.length : Int) == r.length) && sameTL l r) := by
  by_cases h : l.length = r.length
  · rw [h, beq_self_eq_true, Bool.true_and]
  · rw [sameTL_len h, Bool.and_false]
theorem eqN_lenC (l r : List ByteArray) : eqN l r = (((l.length : Int) == r.length) && eqN l r) := by
  by_cases h : l.length = r.length
  · rw [h, beq_self_eq_true, Bool.true_and]
  · cases e : eqN l r with
    | false => rw [Bool.and_false]
    | true => exact absurd (eqN_len e) h
theorem sameT_ref {k k' : Int} {ns ns' : List ByteArray} {its its' : List TT} : sameT (.mk k ns its) (.mk k' ns' its') = ((k == k') && (((ns.length : Int) == ns'.length) && (((its.length : Int) == its'.length) && (eqN ns ns' && sameTL its its')))) := by
  rw [sameT]
  conv => lhs; rw [eqN_lenC, sameTL_lenC]
  ac_rfl
set_option maxHeartbeats 8000000 in
set_option maxRecDepth 100000 in
theorem rtsame_any : ∀ (t t' : TT) (X Y : List Value) (w : World), TypAt w w.heap.size X t → TypAt w w.heap.size Y t' →
    Calls Tryz.prog 25 #[.agg ⟨X⟩, .agg ⟨Y⟩] w fun e w' => e = .returned (.bool (sameT t t')) ∧ Below w.heap.size w w' := by
  intro t
  induction t using TT.ind with
  | h k ns its ih =>
  intro t' X Y w hv hv'
  cases t' with
  | mk k' ns' its' =>
  have IH := Lib.hid ih
  obtain ⟨vn, vi, hX, _, hns, hil, hi⟩ := hv.inv
  obtain ⟨vn', vi', hY, _, hns', hil', hi'⟩ := hv'.inv
  obtain ⟨_, A, c, rfl, hA⟩ := hi
  obtain ⟨hnl, NA, nc, rfl, hN⟩ := hns
  obtain ⟨_, D, d, rfl, hA'⟩ := hi'
  obtain ⟨hnl', NB, nd, rfl, hN'⟩ := hns'
  have HX := Lib.hid hX
  have HY := Lib.hid hY
  have HA := Lib.hid hA
  have HA' := Lib.hid hA'
  have HN := Lib.hid hN
  have HN' := Lib.hid hN'
  have HO := Lib.hid (sameT_ref (k := k) (k' := k') (ns := ns) (ns' := ns') (its := its) (its' := its'))
  generalize sameT (.mk k ns its) (.mk k' ns' its') = res at HO ⊢
  unfold maxLen at hil hil'
  clear ih hv hv' hX hY hA hA' hN hN'
  go_enter Tryz.func25, Tryz.ntmps25
  go_upto_region 1 with (fail)
  have HTB := Lib.hid (twoP_start 45 w X Y)
  generalize (w.alloc (.cells ⟨X⟩ 45)).alloc (.cells ⟨Y⟩ 45) = W at *
  obtain ⟨pb, hpb⟩ : ∃ pb, w.heap.size + 1 = pb := ⟨_, rfl⟩
  rw [hpb] at HTB
  rw [hpb]
  clear hpb
  have d0 := HTB.out.ca 0 (v := .int .i64 k) (by rw [HX.out]; rfl)
  have e0 := HTB.out.cb 0 (v := .int .i64 k') (by rw [HY.out]; rfl)
  have d1 := HTB.out.ca 1 (v := .slice NA ns.length nc) (by rw [HX.out]; rfl)
  have e1 := HTB.out.cb 1 (v := .slice NB ns'.length nd) (by rw [HY.out]; rfl)
  have d2 := HTB.out.ca 2 (v := .slice A its.length c) (by rw [HX.out]; rfl)
  have e2 := HTB.out.cb 2 (v := .slice D its'.length d) (by rw [HY.out]; rfl)
  cases hk0 : (k == k') with
  | false =>
    have hn0 : (k != k') = true := by rw [bne, hk0]; rfl
    have HV : Hid (res = false) := Lib.hid (by rw [HO.out, hk0]; rfl)
    go_wp2
    go_ret
    exact ⟨ret_bool HV.out.symm, HTB.out.bel⟩
  | true =>
  have hn0 : (k != k') = false := by rw [bne, hk0]; rfl
  cases hk1 : ((ns.length : Int) == ns'.length) with
  | false =>
    have hn1 : ((ns.length : Int) != ns'.length) = true := by rw [bne, hk1]; rfl
    have HV : Hid (res = false) := Lib.hid (by rw [HO.out, hk0, hk1]; rfl)
    go_wp2
    go_ret
    exact ⟨ret_bool HV.out.symm, HTB.out.bel⟩
  | true =>
  have hn1 : ((ns.length : Int) != ns'.length) = false := by rw [bne, hk1]; rfl
  cases hk2 : ((its.length : Int) == its'.length) with
  | false =>
    have hn2 : ((its.length : Int) != its'.length) = true := by rw [bne, hk2]; rfl
    have HV : Hid (res = false) := Lib.hid (by rw [HO.out, hk0, hk1, hk2]; rfl)
    go_wp2
    go_ret
    exact ⟨ret_bool HV.out.symm, HTB.out.bel⟩
  | true =>
  have hn2 : ((its.length : Int) != its'.length) = false := by rw [bne, hk2]; rfl
  have HLN : Hid (ns.length = ns'.length) := Lib.hid (by have := eq_of_beq hk1; omega)
  have HLI : Hid (its.length = its'.length) := Lib.hid (by have := eq_of_beq hk2; omega)
  obtain ⟨rn, hrn⟩ : ∃ b, eqN ns ns' = b := ⟨_, rfl⟩
  have H0 : Hid (eqN (ns.drop 0) (ns'.drop 0) = rn) := Lib.hid hrn
  have HO1 : Hid (res = (rn && sameTL its its')) := Lib.hid (by rw [HO.out, hk0, hk1, hk2, hrn]; rfl)
  have HTP := Lib.hid HTB.out
  clear hrn hk0 hk1 hk2
  go_upto_region 4 with (fail)
  clear d0 d1 d2 e0 e1 e2 hn0 hn1 hn2
  go_loopg [5] ns.length (fun g i u => ∃ j : Nat, j + g = ns.length ∧ i = .int .i64 j ∧ Below W.heap.size W u ∧ eqN (ns.drop j) (ns'.drop j) = rn)
  case atStart => exact ⟨0, by omega, rfl, Below.refl _ _, H0.out⟩
  case round =>
    obtain ⟨j, hj, rfl, hb, hres⟩ := hrel
    have HR := Lib.hid hres
    have HBW := Lib.hid hb
    have HTR := Lib.hid (HTP.out.on hb)
    have x1 := HTR.out.ca 1 (v := .slice NA ns.length nc) (by rw [HX.out]; rfl)
    have y1 := HTR.out.cb 1 (v := .slice NB ns'.length nd) (by rw [HY.out]; rfl)
    clear hb hres
    cases gk with
    | zero =>
      obtain rfl : j = ns.length := by omega
      have hge : ¬ ((ns.length : Int) < (ns.length : Int)) := by omega
      have HV := Lib.hid (HR.out.symm.trans (eqN_end HLN.out))
      clear HR
      have HRR : Hid (res = sameTL its its') := Lib.hid (by rw [HO1.out, HV.out]; exact Bool.true_and _)
      obtain ⟨rt, hrt⟩ : ∃ b, sameTL its its' = b := ⟨_, rfl⟩
      have H1 : Hid (sameTL (its.drop 0) (its'.drop 0) = rt) := Lib.hid hrt
      have HO2 : Hid (res = rt) := Lib.hid (HRR.out.trans hrt)
      clear hrt HRR HO1 HO
      go_upto_region 9 with (fail)
      clear x1 y1
      go_loopg [6] its.length (fun g i u => ∃ j : Nat, j + g = its.length ∧ i = .int .i64 j ∧ Below W.heap.size W u ∧ sameTL (its.drop j) (its'.drop j) = rt)
      case atStart => exact ⟨0, by omega, rfl, HBW.out, H1.out⟩
      case round =>
        obtain ⟨j, hj, rfl, hb, hres⟩ := hrel
        have HR := Lib.hid hres
        have HBW := Lib.hid hb
        have HTR := Lib.hid (HTP.out.on hb)
        have x1 := HTR.out.ca 2 (v := .slice A its.length c) (by rw [HX.out]; rfl)
        have y1 := HTR.out.cb 2 (v := .slice D its'.length d) (by rw [HY.out]; rfl)
        clear hb hres
        cases gk with
        | zero =>
          obtain rfl : j = its.length := by omega
          have hge : ¬ ((its.length : Int) < (its.length : Int)) := by omega
          have HV := Lib.hid (HR.out.symm.trans (sameTL_end HLI.out))
          clear HR
          go_wp2
          go_ret
          exact ⟨ret_bool (HO2.out.trans HV.out).symm, HTR.out.bel⟩
        | succ g =>
          have hlt : (j : Int) < (its.length : Int) := by omega
          have hlt2 : (j : Int) < (its'.length : Int) := by have := HLI.out; omega
          obtain ⟨x5, hx⟩ : ∃ x, its[j]? = some x := ⟨_, List.getElem?_eq_getElem (by omega)⟩
          obtain ⟨y5, hy⟩ : ∃ x, its'[j]? = some x := ⟨_, List.getElem?_eq_getElem (by have := HLI.out; omega)⟩
          obtain ⟨b1, o1, rfl, hb1, hc1⟩ := HA.out (by omega)
          obtain ⟨b2, o2, rfl, hb2, hc2⟩ := HA'.out (by have := HLI.out; omega)
          obtain ⟨ks, hl1, hks, hvx⟩ := hc1 j x5 hx
          obtain ⟨ks', hl2, hks', hvy⟩ := hc2 j y5 hy
          have HL1 := Lib.hid hl1
          have HL2 := Lib.hid hl2
          have HK1 := Lib.hid (rangeAt_below hks HTR.out.bel hb1)
          have HK2 := Lib.hid (rangeAt_below hks' HTR.out.bel hb2)
          have HST := Lib.hid (HR.out.symm.trans (sameTL_at hx hy))
          have HMX := Lib.hid (List.mem_of_getElem? hx)
          have HVX := Lib.hid hvx
          have HVY := Lib.hid hvy
          have HBB : Hid (b1 < wr.heap.size ∧ b2 < wr.heap.size) := Lib.hid ⟨Nat.lt_of_lt_of_le hb1 HTR.out.bel.size, Nat.lt_of_lt_of_le hb2 HTR.out.bel.size⟩
          clear hx hy hc1 hc2 hks hks' hvx hvy hb1 hb2 hl1 hl2 HR
          obtain ⟨sx, hsx⟩ : ∃ b, sameT x5 y5 = b := ⟨_, rfl⟩
          rw [hsx] at HST
          have HSX := Lib.hid hsx
          clear hsx
          go_upto_region 11 with (fail)
          clear x1 y1
          go_cut [66] (fun q z => q = .bool (!sx) ∧ Below wr.heap.size wr z)
          case first =>
            refine wp_region_ord [(0, true), (1, true), (2, true), (3, true), (4, true), (5, true), (6, true), (7, true), (8, true), (9, true), (10, false), (11, true)] (fun z => Below wr.heap.size wr z) (by kernel_rfl) (by kernel_rfl) (by kernel_rfl) rfl (by intro c a d v w h; cases d <;> exact h) ?_
            have hs : Below wr.heap.size wr wr.drew := (Below.refl _ _).drew
            generalize wr.drew = wd at hs ⊢
            refine ord_load (some 55) (.pointer (some ⟨w.heap.size, 2, none⟩)) _ rfl rfl (by exact wantA rfl) hs (fun z hz => by go_simp) ?_
            go_frame
            refine ord_load (some 56) (.slice (some ⟨b1, o1, none⟩) its.length c) _ rfl rfl (by exact wantA rfl) hs (fun z hz => by have dd := ((HTR.out.on hz).ca 2 (v := .slice (some ⟨b1, o1, none⟩) its.length c) (by rw [HX.out]; rfl)); go_simp) ?_
            go_frame
            refine ord_move (some 57) (.int .i64 j) _ _ rfl rfl rfl (by exact wantA rfl) hs rfl ?_
            go_frame
            refine ord_load (some 58) (.pointer (some ⟨b1, o1 + j * 3, none⟩)) _ rfl rfl (by exact wantA rfl) hs (fun z hz => by go_simp) ?_
            go_frame
            refine ord_load (some 59) (.agg ⟨ks⟩) _ rfl rfl (by exact wantA rfl) hs (fun z hz => exec_sload 45 rfl b1 (o1 + j * 3) ks _ rfl (rangeAt_below HK1.out hz HBB.out.1) Tryz.underlying45 rfl (by rw [HL1.out]; kernel_rfl)) ?_
            go_frame
            refine ord_load (some 60) (.pointer (some ⟨pb, 2, none⟩)) _ rfl rfl (by exact wantA rfl) hs (fun z hz => by go_simp) ?_
            go_frame
            refine ord_load (some 61) (.slice (some ⟨b2, o2, none⟩) its'.length d) _ rfl rfl (by exact wantA rfl) hs (fun z hz => by have dd := ((HTR.out.on hz).cb 2 (v := .slice (some ⟨b2, o2, none⟩) its'.length d) (by rw [HY.out]; rfl)); go_simp) ?_
            go_frame
            refine ord_move (some 62) (.int .i64 j) _ _ rfl rfl rfl (by exact wantA rfl) hs rfl ?_
            go_frame
            refine ord_load (some 63) (.pointer (some ⟨b2, o2 + j * 3, none⟩)) _ rfl rfl (by exact wantA rfl) hs (fun z hz => by go_simp) ?_
            go_frame
            refine ord_load (some 64) (.agg ⟨ks'⟩) _ rfl rfl (by exact wantA rfl) hs (fun z hz => exec_sload 45 rfl b2 (o2 + j * 3) ks' _ rfl (rangeAt_below HK2.out hz HBB.out.2) Tryz.underlying45 rfl (by rw [HL2.out]; kernel_rfl)) ?_
            go_frame
            refine ord_to (some 65) 25 Tryz.func25 (by kernel_rfl) (by kernel_rfl) [.agg ⟨ks⟩, .agg ⟨ks'⟩] _ _ _ rfl rfl rfl (by exact wantA rfl) rfl ?_
            refine (IH.out x5 HMX.out y5 ks ks' wd ((HVX.out.under (HTR.out.bel.trans (hs.mono HTR.out.bel.size))).more (HTR.out.bel.trans (hs.mono HTR.out.bel.size)).size) ((HVY.out.under (HTR.out.bel.trans (hs.mono HTR.out.bel.size))).more (HTR.out.bel.trans (hs.mono HTR.out.bel.size)).size)).mono ?_
            rintro e z2 ⟨rfl, hb⟩
            rw [HSX.out]
            have hs2 : Below wr.heap.size wr z2 := hs.trans (hb.mono hs.size)
            refine ⟨_, rfl, hs2, ?_⟩
            go_frame
            clear hb hs
            have hs := hs2
            clear hs2
            refine ord_load (some 66) (.bool (!sx)) _ rfl rfl (by exact wantA rfl) hs (fun z hz => by go_simp) ?_
            go_frame
            refine ord_end ?_
            have HZ2 := Lib.hid hs
            clear hs
            go_wp2
            go_meet
            case rel => exact ⟨rfl, HZ2.out⟩
          case rest =>
          obtain ⟨rfl, hbc⟩ := hcut
          have HBC := Lib.hid hbc
          clear hbc
          cases sx with
          | false =>
            have HV : Hid (rt = false) := Lib.hid (HST.out.trans (Bool.false_and _))
            have HV2 : Hid (res = false) := Lib.hid (HO2.out.trans HV.out)
            go_wp2
            go_ret
            exact ⟨ret_bool HV2.out.symm, HTR.out.bel.trans (HBC.out.mono HTR.out.bel.size)⟩
          | true =>
            have HV := Lib.hid (HST.out.trans (Bool.true_and _))
            go_wp2
            go_roundg g
            case measure => omega
            case rel => exact ⟨j + 1, by omega, by go_num, HBW.out.trans (HBC.out.mono HBW.out.size), HV.out.symm⟩
    | succ g =>
      have hlt : (j : Int) < (ns.length : Int) := by omega
      have hlt2 : (j : Int) < (ns'.length : Int) := by have := HLN.out; omega
      obtain ⟨x, hx⟩ : ∃ x, ns[j]? = some x := ⟨_, List.getElem?_eq_getElem (by omega)⟩
      obtain ⟨y, hy⟩ : ∃ x, ns'[j]? = some x := ⟨_, List.getElem?_eq_getElem (by have := HLN.out; omega)⟩
      obtain ⟨b1, o1, rfl, hb1, hc1⟩ := HN.out (by omega)
      obtain ⟨b2, o2, rfl, hb2, hc2⟩ := HN'.out (by have := HLN.out; omega)
      have dx := (HTR.out.bel.cell (p := ⟨b1, o1 + j, none⟩) hb1).trans (strcell hc1 hx)
      have dy := (HTR.out.bel.cell (p := ⟨b2, o2 + j, none⟩) hb2).trans (strcell hc2 hy)
      have HST := Lib.hid (HR.out.symm.trans (eqN_at hx hy))
      clear hx hy hc1 hc2 HR hb1 hb2
      cases hxy : (x.toList == y.toList) with
      | false =>
        have HV : Hid (rn = false) := Lib.hid (by rw [HST.out, hxy]; rfl)
        have HV2 : Hid (res = false) := Lib.hid (by rw [HO1.out, HV.out]; rfl)
        go_upto_region 6 with (fail)
        go_quiet (fail)
        go_wp2
        go_ret
        exact ⟨ret_bool HV2.out.symm, below_drewN HTR.out.bel _⟩
      | true =>
        have HV : Hid (eqN (ns.drop (j + 1)) (ns'.drop (j + 1)) = rn) := Lib.hid (by rw [HST.out, hxy, Bool.true_and])
        go_upto_region 6 with (fail)
        go_quiet (fail)
        go_wp2
        go_roundg g
        case measure => omega
        case rel => exact ⟨j + 1, by omega, by go_num, below_drewN HBW.out _, HV.out⟩
end Go.Proofs.YtpmjcbjdcjjplaaGreat
end
