/- Parts of a proof: Row, Reach, Gmem, GraphOf. -/
import Derived.Laws.MakeOwn
import Derived.Maps.AppendAt
import Derived.Test.YtpmjcbjdcjjplaaGreatPack9
section
namespace Go.Proofs.YtpmjcbjdcjjplaaGreat
open Go Go.RowKit
set_option linter.unusedVariables false
theorem grown_refl (w : World) (r : Option Nat) : w.grownBy w r := World.grownBy.refl w r
theorem grown_set {a w : World} {g o : Nat} (h : a.grownBy w (some g)) (u : Value) : a.grownBy (w.setCell ⟨g, o, none⟩ u) (some g) :=
  ⟨h.os, h.tape, h.output, by simpa [World.setCell] using h.size, fun i hi hne => (Below.heap_setCell w ⟨g, o, none⟩ u i (by
    rintro rfl
    exact hne rfl)).trans (h.block i hi hne)⟩
theorem below_is_grown {a b : World} (h : Below a.heap.size a b) (r : Option Nat) : a.grownBy b r := ⟨h.os, h.tape, h.output, h.size, fun k hk _ => h.block k hk⟩
structure RowF (w : World) (g n : Nat) (f : Nat → Value) : Prop where
  c : ∀ i, i < n → w.cell? ⟨g, i, none⟩ = some (f i)
  fz : ∀ i, i < n → w.frozen? ⟨g, i, none⟩ = false
theorem RowF.keep {w w' : World} {g n : Nat} {f : Nat → Value} (h : RowF w g n f) (hb : w'.heap[g]? = w.heap[g]?) : RowF w' g n f :=
  ⟨fun i hi => (World.cell?_of_block (a := ⟨g, i, none⟩) hb).trans (h.c i hi), fun i hi => (World.frozen?_of_block (a := ⟨g, i, none⟩) hb).trans (h.fz i hi)⟩
theorem RowF.below {w w' : World} {g n B : Nat} {f : Nat → Value} (h : RowF w g n f) (hb : Below B w w') (hg : g < B) : RowF w' g n f := h.keep (hb.block g hg)
theorem RowF.drewN {w : World} {g n : Nat} {f : Nat → Value} (h : RowF w g n f) (k : Nat) : RowF (w.drewN k) g n f := ⟨h.c, h.fz⟩
theorem RowF.congr {w : World} {g n : Nat} {f f' : Nat → Value} (h : RowF w g n f) (hf : ∀ i, i < n → f i = f' i) : RowF w g n f' :=
  ⟨fun i hi => by rw [← hf i hi]; exact h.c i hi, h.fz⟩
theorem RowF.set {w : World} {g n : Nat} {f : Nat → Value} (h : RowF w g n f) {i : Nat} (hi : i < n) (v : Value) : RowF (w.setCell ⟨g, i, none⟩ v) g n (fun j => if j = i then v else f j) := by
  refine ⟨fun j hj => ?_, fun j hj => ?_⟩
  · by_cases e : j = i
    · subst e
      rw [World.cell?_setCell_same _ _ _ (h.c j hj), if_pos rfl]
    · rw [World.cell?_setCell_other _ _ _ _ (by intro h; injection h with _ h _; exact e h.symm), if_neg e]
      exact h.c j hj
  · rw [World.frozen?_setCell]; exact h.fz j hj
end Go.Proofs.YtpmjcbjdcjjplaaGreat
end
section
namespace Go.Proofs.YtpmjcbjdcjjplaaGreat
open Go.RowKit
set_option linter.unusedVariables false
theorem info_intR : (Tryz.prog.info? 3).map (fun i => (i.zero, i.size, i.bytes)) = some (some (.int .i64 0), 1, 8) := by kernel_rfl
def listN (S : Nat → Bool) (n : Nat) : List Int := ((List.range n).filter S).map fun i : Nat => (i : Int)
theorem listN_len (S : Nat → Bool) (n : Nat) : (listN S n).length ≤ n := by
  unfold listN; rw [List.length_map]; exact Nat.le_trans (List.length_filter_le ..) (by simp)
theorem encI_len (i : Int) : (encI i).length = 1 := rfl
theorem encI_one (i : Int) : ∀ u ∈ encI i, u.oneCell' = true := by
  intro u hu
  simp only [encI, List.mem_cons, List.not_mem_nil, or_false] at hu
  subst hu; rfl
def IntsPost (w : World) (l : List Int) (e : Ending) (w' : World) : Prop := ∃ v, e = .returned v ∧ OwnSl 3 1 encI w' w.heap.size v l ∧ Below w.heap.size w w'
def isN (n : Nat) (a : Int) : Bool := decide (0 ≤ a) && decide (a < n)
def reachL (g : List GN) (a : Int) : List Int := if isN g.length a = true then listN (reach g.length (graphE g) a.toNat) g.length else []
end Go.Proofs.YtpmjcbjdcjjplaaGreat
end
section
namespace Go.Proofs.YtpmjcbjdcjjplaaGreat
open Go Go.RowKit
set_option linter.unusedVariables false
theorem OwnSl.lt {α : Type} {T : TypeId} {k base b : Nat} {enc : α → List Value} {w : World} {v : Value} {l : List α} (h : OwnSl T k enc w base v l) (hb : v.ownBlock = some b) : b < w.heap.size := by
  rcases h.2 with ⟨rfl, _⟩ | ⟨g, cap, cur, rfl, _, hg, _⟩
  · cases hb
  · have : g = b := by simpa [Value.ownBlock] using hb
    subst this
    rcases Nat.lt_or_ge g w.heap.size with h2 | h2
    · exact h2
    · rw [Array.getElem?_eq_none h2] at hg; cases hg
theorem Tag.keep {w w' : World} {b : Nat} {T : TypeId} (h : Tag w b T) (hb : w'.heap[b]? = w.heap[b]?) : Tag w' b T := by
  obtain ⟨c, hc⟩ := h; exact ⟨c, hb.trans hc⟩
structure Rows2 (w : World) (base tb fb n : Nat) (V : Nat → Value) (L : Nat → List Int) : Prop where
  ct : RowF w tb n V
  cf : RowF w fb n (fun i => V (n + i))
  own : ∀ k, k < 2 * n → OwnSl 3 1 encI w base (V k) (L k)
  apart : ∀ k l, k < 2 * n → l < 2 * n → k ≠ l → (V k).ownBlock = none ∨ (V k).ownBlock ≠ (V l).ownBlock
  tt : Tag w tb 32
  tf : Tag w fb 32
  ne : tb ≠ fb
  lt : tb < w.heap.size ∧ fb < w.heap.size
section
variable {w w1 : World} {base tb fb n : Nat} {V : Nat → Value} {L : Nat → List Int}
theorem Rows2.below (h : Rows2 w base tb fb n V L) (hb : Below w.heap.size w w1) : Rows2 w1 base tb fb n V L :=
  ⟨h.ct.below hb h.lt.1, h.cf.below hb h.lt.2, fun k hk => (h.own k hk).below hb, h.apart, h.tt.keep (hb.block _ h.lt.1), h.tf.keep (hb.block _ h.lt.2), h.ne, Nat.lt_of_lt_of_le h.lt.1 hb.size, Nat.lt_of_lt_of_le h.lt.2 hb.size⟩
theorem Rows2.push (h : Rows2 w base tb fb n V L) {k : Nat} (hk : k < 2 * n) {x : Int} {v' : Value} (hown : OwnSl 3 1 encI w1 base v' (L k ++ [x])) (hg : w.grownBy w1 (V k).ownBlock)
    (hb : v'.ownBlock = (V k).ownBlock ∨ v'.ownBlock = some w.heap.size) :
    Rows2 (w1.setCell ⟨if k < n then tb else fb, if k < n then k else k - n, none⟩ v') base tb fb n (fun j => if j = k then v' else V j) (fun j => if j = k then L k ++ [x] else L j) := by
  have ht1 : w1.heap[tb]? = w.heap[tb]? := hg.block tb h.lt.1 ((h.own k hk).apart h.tt (by decide))
  have hf1 : w1.heap[fb]? = w.heap[fb]? := hg.block fb h.lt.2 ((h.own k hk).apart h.tf (by decide))
  have tt1 := h.tt.keep ht1
  have tf1 := h.tf.keep hf1
  have ct1 := h.ct.keep ht1
  have cf1 := h.cf.keep hf1
  have own1 : ∀ l, l < 2 * n → l ≠ k → OwnSl 3 1 encI w1 base (V l) (L l) := fun l hl hne => World.ownsRow.kept (h.own l hl) hg (h.apart l k hl hk hne)
  have key : ∀ (l : Nat) (v : Value) (ls : List Int) (q o : Nat), OwnSl 3 1 encI w1 base v ls → Tag w1 q 32 → OwnSl 3 1 encI (w1.setCell ⟨q, o, none⟩ v') base v ls := fun l v ls q o ho htag => by
    refine World.ownsRow.kept ho (row := some q) (grown_set (grown_refl w1 _) v') ?_
    right
    intro e
    exact ho.apart htag (by decide) e.symm
  have apart' : ∀ k' l, k' < 2 * n → l < 2 * n → k' ≠ l → ((if k' = k then v' else V k').ownBlock = none ∨ (if k' = k then v' else V k').ownBlock ≠ (if l = k then v' else V l).ownBlock) := by
    intro a b ha hb2 hab
    by_cases ea : a = k
    · subst ea
      rw [if_pos rfl, if_neg (fun h => hab h.symm)]
      rcases hb with hb | hb
      · rw [hb]; exact h.apart a b ha hb2 hab
      · right
        rw [hb]
        intro e
        have := (h.own b hb2).lt e.symm
        omega
    · rw [if_neg ea]
      by_cases eb : b = k
      · subst eb
        rw [if_pos rfl]
        rcases hb with hb | hb
        · rw [hb]; exact h.apart a b ha hb2 hab
        · right
          rw [hb]
          intro e
          have := (h.own a ha).lt e
          omega
      · rw [if_neg eb]; exact h.apart a b ha hb2 hab
  have hsz : (w1.setCell ⟨if k < n then tb else fb, if k < n then k else k - n, none⟩ v').heap.size = w1.heap.size := by simp [World.setCell]
  by_cases hkn : k < n
  · rw [if_pos hkn, if_pos hkn] at *
    refine ⟨(ct1.set hkn v').congr fun i hi => rfl, ?_, fun l hl => ?_, apart', tt1.set _ _, tf1.set _ _, h.ne, by rw [hsz]; exact ⟨Nat.lt_of_lt_of_le h.lt.1 hg.size, Nat.lt_of_lt_of_le h.lt.2 hg.size⟩⟩
    · have : RowF (w1.setCell ⟨tb, k, none⟩ v') fb n (fun i => V (n + i)) := cf1.keep (Below.heap_setCell w1 ⟨tb, k, none⟩ v' fb (fun e => h.ne e.symm))
      exact this.congr fun i hi => by rw [if_neg (by omega)]
    · by_cases e : l = k
      · subst e; rw [if_pos rfl, if_pos rfl]; exact key l v' _ tb l hown tt1
      · rw [if_neg e, if_neg e]; exact key l _ _ tb k (own1 l hl e) tt1
  · rw [if_neg hkn, if_neg hkn] at *
    refine ⟨?_, ?_, fun l hl => ?_, apart', tt1.set _ _, tf1.set _ _, h.ne, by rw [hsz]; exact ⟨Nat.lt_of_lt_of_le h.lt.1 hg.size, Nat.lt_of_lt_of_le h.lt.2 hg.size⟩⟩
    · have : RowF (w1.setCell ⟨fb, k - n, none⟩ v') tb n V := ct1.keep (Below.heap_setCell w1 ⟨fb, k - n, none⟩ v' tb h.ne)
      exact this.congr fun i hi => by rw [if_neg (by omega)]
    · refine (cf1.set (i := k - n) (by omega) v').congr fun i hi => ?_
      by_cases e : i = k - n
      · rw [if_pos e, if_pos (by omega)]
      · rw [if_neg e, if_neg (by omega)]
    · by_cases e : l = k
      · subst e; rw [if_pos rfl, if_pos rfl]; exact key l v' _ fb (l - n) hown tf1
      · rw [if_neg e, if_neg e]; exact key l _ _ fb (k - n) (own1 l hl e) tf1
end
structure KeptGm (w u : World) (tb fb : Nat) : Prop where
  size : w.heap.size ≤ u.heap.size
  b : ∀ b T, Tag w b T → T ≠ 3 → b ≠ tb → b ≠ fb → u.heap[b]? = w.heap[b]?
theorem Tag.lt {w : World} {b : Nat} {T : TypeId} (h : Tag w b T) : b < w.heap.size := by
  obtain ⟨c, hc⟩ := h
  rcases Nat.lt_or_ge b w.heap.size with h2 | h2
  · exact h2
  · rw [Array.getElem?_eq_none h2] at hc; cases hc
theorem KeptGm.refl (w : World) (tb fb : Nat) : KeptGm w w tb fb := ⟨Nat.le_refl _, fun _ _ _ _ _ _ => rfl⟩
theorem KeptGm.below {w u z : World} {tb fb : Nat} (h : KeptGm w u tb fb) (hb : Below u.heap.size u z) : KeptGm w z tb fb :=
  ⟨Nat.le_trans h.size hb.size, fun b T ht h1 h2 h3 => (hb.block b (Nat.lt_of_lt_of_le ht.lt h.size)).trans (h.b b T ht h1 h2 h3)⟩
theorem KeptGm.push {w u w1 : World} {base tb fb n k : Nat} {V : Nat → Value} {L : Nat → List Int} (h : KeptGm w u tb fb) (hr : Rows2 u base tb fb n V L) (hk : k < 2 * n) (hg : u.grownBy w1 (V k).ownBlock) (o : Nat) (v : Value) :
    KeptGm w (w1.setCell ⟨if k < n then tb else fb, o, none⟩ v) tb fb := by
  refine ⟨Nat.le_trans h.size (Nat.le_trans hg.size (by simp [World.setCell])), fun b T ht h1 h2 h3 => ?_⟩
  have e1 := h.b b T ht h1 h2 h3
  have hap := (hr.own k hk).apart (ht.keep e1) (Ne.symm h1)
  have e2 := hg.block b (Nat.lt_of_lt_of_le ht.lt h.size) hap
  have e3 : (w1.setCell ⟨if k < n then tb else fb, o, none⟩ v).heap[b]? = w1.heap[b]? := Below.heap_setCell w1 _ v b (by
    show b ≠ if k < n then tb else fb
    split
    · exact h2
    · exact h3)
  rw [e3, e2, e1]
end Go.Proofs.YtpmjcbjdcjjplaaGreat
end
section
namespace Go.Proofs.YtpmjcbjdcjjplaaGreat
open Go.RowKit
set_option linter.unusedVariables false
theorem own_slice {α : Type} {T : TypeId} {k base : Nat} {enc : α → List Value} {w : World} {v : Value} {l : List α} (h : OwnSl T k enc w base v l) : ∃ A n c, v = .slice A n c := by
  rcases h.2 with ⟨rfl, _⟩ | ⟨g, cap, cur, rfl, _⟩
  · exact ⟨_, _, _, rfl⟩
  · exact ⟨_, _, _, rfl⟩
theorem Rows2.congr {w : World} {base tb fb n : Nat} {V : Nat → Value} {L L' : Nat → List Int} (h : Rows2 w base tb fb n V L) (hl : ∀ k, k < 2 * n → L' k = L k) : Rows2 w base tb fb n V L' :=
  ⟨h.ct, h.cf, fun k hk => by rw [hl k hk]; exact h.own k hk, h.apart, h.tt, h.tf, h.ne, h.lt⟩
end Go.Proofs.YtpmjcbjdcjjplaaGreat
end
