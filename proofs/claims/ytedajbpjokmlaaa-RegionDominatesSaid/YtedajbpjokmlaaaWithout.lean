/- ref15.without: a model of which no edge leads to a node any more. -/
import Derived.Test.YtedajbpjokmlaaaHas
import Derived.Test.YtedajbpjokmlaaaShape
import Derived.Test.YtedajbpjokmlaaaBuild1
namespace Go.Proofs.Ytedajbpjokmlaaa
open Go Go.RowKit
set_option linter.unusedVariables false

def nodeZ (i : Nat) : Value := (encN (.slice none 0 0, [])).getD i undef
theorem encN_at (v : Value) (l : List Int) : ∀ i, i < 29 → (encN (v, l)).getD i undef = if i = 2 then v else nodeZ i := by
  intro i hi
  have : i = 0 ∨ i = 1 ∨ i = 2 ∨ i = 3 ∨ i = 4 ∨ i = 5 ∨ i = 6 ∨ i = 7 ∨ i = 8 ∨ i = 9 ∨ i = 10 ∨ i = 11 ∨ i = 12 ∨ i = 13 ∨ i = 14 ∨ i = 15 ∨ i = 16 ∨ i = 17 ∨ i = 18 ∨ i = 19 ∨ i = 20 ∨ i = 21 ∨ i = 22 ∨ i = 23 ∨ i = 24 ∨ i = 25 ∨ i = 26 ∨ i = 27 ∨ i = 28 := by omega
  rcases this with rfl | rfl | rfl | rfl | rfl | rfl | rfl | rfl | rfl | rfl | rfl | rfl | rfl | rfl | rfl | rfl | rfl | rfl | rfl | rfl | rfl | rfl | rfl | rfl | rfl | rfl | rfl | rfl | rfl <;> rfl
theorem encN_range {w : World} {nb : Nat} {v : Value} (h : RowF w nb 29 (fun i => if i = 2 then v else nodeZ i)) (l : List Int) : w.rangeAt nb 0 (encN (v, l)) := fun i u hu => by
  have hi : i < 29 := (List.getElem?_eq_some_iff.1 hu).1
  rw [Nat.zero_add, h.c i hi, ← encN_at v l i hi, List.getD_eq_getElem?_getD, hu]
  rfl
theorem row_node {w Z : World} (h : Boxed 55 w Z (encN (.slice none 0 0, []))) (hf : ∀ i, Z.frozen? ⟨w.heap.size, i, none⟩ = false) : RowF Z w.heap.size 29 (fun i => if i = 2 then .slice none 0 0 else nodeZ i) := by
  refine ⟨fun i hi => ?_, fun i hi => hf i⟩
  rw [← encN_at (.slice none 0 0) [] i hi]
  have hl : i < (encN (.slice none 0 0, [])).length := hi
  refine h.cell i ?_
  rw [List.getD_eq_getElem?_getD, List.getElem?_eq_getElem hl]
  rfl
theorem encN_ones {A : Option Addr} {n c : Nat} {l : List Int} : ∀ u ∈ encN (.slice A n c, l), u.oneCell' = true := by
  intro u hu
  simp only [encN, encC, encX, List.mem_append, List.mem_cons, List.not_mem_nil, or_false] at hu
  rcases hu with (((rfl | rfl | rfl | rfl) | (rfl | rfl | rfl | rfl | rfl | rfl | rfl | rfl | rfl | rfl)) | (rfl | rfl | rfl | rfl | rfl | rfl | rfl | rfl | rfl | rfl)) | (rfl | rfl | rfl | rfl | rfl) <;> rfl
theorem ints_wf {w : World} {v : Value} {l : List Int} (h : IntsV w v l) (hw : ∀ t ∈ l, wfI t) : SlAt w w.heap.size 1 IntR v l := by
  obtain ⟨h0, A, c, hv, h1⟩ := h
  refine ⟨h0, A, c, hv, fun hp => ?_⟩
  obtain ⟨b, o, hb, hlt, h2⟩ := h1 hp
  refine ⟨b, o, hb, hlt, fun i x hx => ?_⟩
  obtain ⟨cs, h3, h4, h5⟩ := h2 i x hx
  have h5' : cs = encI x := h5
  exact ⟨cs, h3, h4, h5', hw x (List.mem_of_getElem? hx)⟩
theorem frozen_sets (b o : Nat) : ∀ (cs : List Value) (w : World) (i : Nat), (w.setCells b i cs).frozen? ⟨b, o, none⟩ = w.frozen? ⟨b, o, none⟩
  | [], _, _ => rfl
  | v :: cs, w, i => by
    show ((w.setCell ⟨b, i, none⟩ v).setCells b (i + 1) cs).frozen? ⟨b, o, none⟩ = _
    rw [frozen_sets b o cs, World.frozen?_setCell]
section
variable {P : Program} {ops : Array Oper} {rest : List Oper} {o : Oper} {a : Act} {w : World} {Q : Exit → Act → World → Prop}
theorem wl_sboxF (T : TypeId) (x y : Operand) (ho : o.op = .store T x y) (hw : Region.wanted o (yielded ops a.tmps) = true) (w0 : World) (z : Array Value) (cs : List Value) (hwld : w = w0.alloc (.cells z T)) (hz : cs.length = z.size)
    (hx : a.eval x = .pointer (some ⟨w0.heap.size, 0, none⟩)) (hy : a.eval y = .agg cs.toArray) (hi : (P.info? T).map (·.size) = some cs.length) (h1 : ∀ v ∈ cs, v.oneCell' = true)
    (h : ∀ Z, Boxed T w0 Z cs → (∀ i, Z.frozen? ⟨w0.heap.size, i, none⟩ = false) → wpList P ops Q rest (a.put o.dst undef) Z) : wpList P ops Q (o :: rest) a w := by
  subst hwld
  exact wl_sstore T x y ho hw w0.heap.size 0 cs hx hy (by rw [hz]; exact there_box w0 z T) hi h1 (h _ (boxed_store w0 z T cs hz) fun i => by rw [frozen_sets, frozen_box])
end
theorem put_size (w : World) (p : Addr) (v : Value) : (w.setCell p v).heap.size = w.heap.size := by simp [World.setCell]
theorem heap_sets (b k : Nat) (hk : k ≠ b) : ∀ (cs : List Value) (w : World) (i : Nat), (w.setCells b i cs).heap[k]? = w.heap[k]?
  | [], _, _ => rfl
  | v :: cs, w, i => by
    show ((w.setCell ⟨b, i, none⟩ v).setCells b (i + 1) cs).heap[k]? = _
    rw [heap_sets b k hk cs]
    exact Below.heap_setCell w ⟨b, i, none⟩ v k hk
theorem OwnSl.keepB {α : Type} {T : TypeId} {k base : Nat} {enc : α → List Value} {w W : World} {v : Value} {l : List α} (h : OwnSl T k enc w base v l) (hb : ∀ b, v.ownBlock = some b → W.heap[b]? = w.heap[b]?) : OwnSl T k enc W base v l := by
  refine ⟨h.1, ?_⟩
  rcases h.2 with h1 | ⟨g, cap, cur, h1, h2, h3, h4⟩
  · exact .inl h1
  · exact .inr ⟨g, cap, cur, h1, h2, (hb g (by rw [h1]; rfl)).trans h3, h4⟩
theorem own_tag {α : Type} {T : TypeId} {k base b : Nat} {enc : α → List Value} {w : World} {v : Value} {l : List α} (h : OwnSl T k enc w base v l) (hb : v.ownBlock = some b) : Tag w b T := by
  rcases h.2 with ⟨rfl, _⟩ | ⟨g, cap, cur, rfl, _, h3, _⟩
  · cases hb
  · have : g = b := by simpa [Value.ownBlock] using hb
    subst this
    exact ⟨_, h3⟩
theorem tos_edges {g : List GN} {i : Nat} {y : GN} (h : g[i]? = some y) (hl : (edgesOf g).length ≤ 10000) : (tos y).length ≤ 10000 := by
  have h1 := (edges_room h (Nat.le_refl y.next.length)).1
  have h2 := (edges_room h (Nat.le_refl y.next.length)).2.1
  rw [List.length_append, nextE_len, List.take_length] at h1
  simp only [List.length_append, nextE_len] at h2
  unfold tos
  rw [List.length_append]
  split
  · rename_i hc
    have := h2 hc
    simp only [List.length_singleton]
    omega
  · simp only [List.length_nil]; omega
structure NodesIn (w : World) (B : Nat) (v : Value) (L : List (Value × List Int)) : Prop where
  own : OwnSl 55 29 encN w B v L
  row : ∀ x ∈ L, OwnSl 3 1 encI w B x.1 x.2
  wf : ∀ x ∈ L, ∀ t ∈ x.2, wfI t
theorem NodesIn.below {w w' : World} {B : Nat} {v : Value} {L : List (Value × List Int)} (h : NodesIn w B v L) (hb : Below w.heap.size w w') : NodesIn w' B v L :=
  ⟨h.own.below hb, fun x hx => (h.row x hx).below hb, h.wf⟩
theorem NodesIn.graph {w : World} {B : Nat} {v : Value} {L : List (Value × List Int)} (h : NodesIn w B v L) (hl : L.length ≤ 100) (hx : ∀ x ∈ L, x.2.length ≤ 10000) : GraphAt w w.heap.size v (L.map fun x => ⟨x.2, -1, 0⟩) := by
  refine own_graph h.own hl fun x hxx => ?_
  obtain ⟨A, c, hv⟩ := own_sl (h.row x hxx)
  obtain ⟨xv, xl⟩ := x
  simp only at hv
  subst hv
  exact ⟨encN_ones, ints_wf ((h.row _ hxx).ints (hx _ hxx)) (h.wf _ hxx)⟩
theorem NodesIn.push {w W : World} {B mb i : Nat} {v v' z : Value} {L : List (Value × List Int)} {x : Value × List Int} (h : NodesIn w B v L) (hmb : mb < B) (hx : OwnSl 3 1 encI w B x.1 x.2) (hw : ∀ t ∈ x.2, wfI t)
    (hown : OwnSl 55 29 encN W B v' (L ++ [x])) (hg : w.grownBy W v.ownBlock) : NodesIn (W.setCell ⟨mb, i, none⟩ z) B v' (L ++ [x]) := by
  have key : ∀ y : Value × List Int, OwnSl 3 1 encI w B y.1 y.2 → OwnSl 3 1 encI (W.setCell ⟨mb, i, none⟩ z) B y.1 y.2 := fun y hy => by
    refine own_put (World.ownsRow.kept hy hg ?_) hmb z
    cases hb : y.1.ownBlock with
    | none => exact .inl rfl
    | some b => exact .inr (h.own.apart (own_tag hy hb) (by decide))
  refine ⟨own_put hown hmb z, fun y hy => ?_, fun y hy => ?_⟩
  · rcases List.mem_append.1 hy with hy | hy
    · exact key y (h.row y hy)
    · rw [List.mem_singleton.1 hy]; exact key x hx
  · rcases List.mem_append.1 hy with hy | hy
    · exact h.wf y hy
    · rw [List.mem_singleton.1 hy]; exact hw
theorem NodesIn.sets {w : World} {B rb : Nat} {v : Value} {L : List (Value × List Int)} (h : NodesIn w B v L) (hrb : rb < B) (cs : List Value) (i : Nat) : NodesIn (w.setCells rb i cs) B v L :=
  ⟨h.own.keepB fun b hb => heap_sets rb b (by have := h.own.block hb; omega) cs w i, fun x hx => (h.row x hx).keepB fun b hb => heap_sets rb b (by have := (h.row x hx).block hb; omega) cs w i, h.wf⟩
theorem less_list {g : List GN} {d : Nat} {L : List (Value × List Int)} (h : L.map (fun x => x.2) = g.map (lessN d)) : L.map (fun x => (⟨x.2, -1, 0⟩ : GN)) = lessG g d := by
  have h1 : (L.map (fun x => x.2)).map (fun l => (⟨l, -1, 0⟩ : GN)) = (g.map (lessN d)).map (fun l => (⟨l, -1, 0⟩ : GN)) := by rw [h]
  rw [List.map_map, List.map_map] at h1
  exact h1

set_option maxHeartbeats 4000000 in
set_option maxRecDepth 100000 in
theorem without_any (g : List GN) (d : Nat) (c0 c1 c2 c3 c4 v5 : Value) (w : World) (hg : GraphAt w w.heap.size v5 g) (hlen : (edgesOf g).length ≤ 10000) (hgn : g.length ≤ 100) (hd : d < g.length) :
    Calls Try.prog 41 #[.agg ⟨[c0, c1, c2, c3, c4, v5]⟩, .int .i64 d] w (ModelPost w (lessG g d)) := by
  obtain ⟨hgl, A, c, rfl, hA⟩ := hg
  have HA := Lib.hid hA
  have HGX := Lib.hid (fun i y (h : g[i]? = some y) => tos_edges h hlen)
  clear hgl hA hlen
  obtain ⟨i0, hi, hz0, hz1, hz2⟩ := info_parts' info_int
  have HI0 := Lib.hid hi
  have HZ0 := Lib.hid hz0
  have HZ1 := Lib.hid hz1
  have HZ2 := Lib.hid hz2
  clear hi hz0 hz1 hz2
  obtain ⟨j0, hi, hz0, hz1, hz2⟩ := info_parts' info_node
  have HJ0 := Lib.hid hi
  have HY0 := Lib.hid hz0
  have HY1 := Lib.hid hz1
  have HY2 := Lib.hid hz2
  clear hi hz0 hz1 hz2
  have hn2 : (g.length : Int) ≤ 100 := by omega
  go_enter Try.func41, Try.ntmps41
  go_upto_region 1 with (fail)
  have HB1 := Lib.hid (box_below w (.cells ⟨[c0, c1, c2, c3, c4, .slice A g.length c]⟩ 27))
  have HS1 := Lib.hid (box_size w (.cells ⟨[c0, c1, c2, c3, c4, .slice A g.length c]⟩ 27))
  have HC1 := Lib.hid (cells_box w [c0, c1, c2, c3, c4, .slice A g.length c] 27 5 _ rfl)
  have HSE : Hid ((w.alloc (.cells ⟨[c0, c1, c2, c3, c4, .slice A g.length c]⟩ 27)).heap.size = w.heap.size + 1) := Lib.hid (by simp)
  generalize w.alloc (.cells ⟨[c0, c1, c2, c3, c4, .slice A g.length c]⟩ 27) = W1 at *
  have HRZ := Lib.hid (row_zM W1)
  have HB2 := Lib.hid (box_below W1 (.cells #[.int .i64 0, .slice none 0 0, .slice none 0 0, .slice none 0 0, .slice none 0 0, .slice none 0 0] 27))
  have HS2 := Lib.hid (box_size W1 (.cells #[.int .i64 0, .slice none 0 0, .slice none 0 0, .slice none 0 0, .slice none 0 0, .slice none 0 0] 27))
  have HC2 := Lib.hid ((HB2.out.cell (p := ⟨w.heap.size, 5, none⟩) HS1.out).trans HC1.out)
  have HBW2 := Lib.hid (HB1.out.trans (HB2.out.mono HB1.out.size))
  rw [HSE.out] at HRZ HS2
  obtain ⟨rb, hrb⟩ : ∃ rb, w.heap.size + 1 = rb := ⟨_, rfl⟩
  have HWR : Hid (w.heap.size < rb) := Lib.hid (by omega)
  rw [hrb] at HRZ HS2
  rw [hrb]
  generalize W1.alloc (.cells #[.int .i64 0, .slice none 0 0, .slice none 0 0, .slice none 0 0, .slice none 0 0, .slice none 0 0] 27) = W2 at *
  clear HB1 HS1 HC1 HSE HB2 hrb
  have HMZ := Lib.hid (row_zM W2)
  have HB3 := Lib.hid (box_below W2 (.cells #[.int .i64 0, .slice none 0 0, .slice none 0 0, .slice none 0 0, .slice none 0 0, .slice none 0 0] 27))
  have HS3 := Lib.hid (box_size W2 (.cells #[.int .i64 0, .slice none 0 0, .slice none 0 0, .slice none 0 0, .slice none 0 0, .slice none 0 0] 27))
  go_upto_region 2 with (fail)
  obtain ⟨mb, hmb⟩ : ∃ mb, W2.heap.size = mb := ⟨_, rfl⟩
  have HRM : Hid (rb < mb) := Lib.hid (by have := HS2.out; omega)
  have HRZ3 := Lib.hid (HRZ.out.below HB3.out HS2.out)
  have HC3 := Lib.hid ((HB3.out.cell (p := ⟨w.heap.size, 5, none⟩) (Nat.lt_trans HWR.out HS2.out)).trans HC2.out)
  have HBW3 := Lib.hid (HBW2.out.trans (HB3.out.mono HBW2.out.size))
  rw [hmb] at HMZ HS3
  rw [hmb]
  generalize W2.alloc (.cells #[.int .i64 0, .slice none 0 0, .slice none 0 0, .slice none 0 0, .slice none 0 0, .slice none 0 0] 27) = W3 at *
  clear HRZ HB3 HS2 HC2 HBW2 hmb
  have HM0 : Hid (RowF W3 mb 6 (fun i => if i = 5 then .slice none 0 0 else zM i)) := Lib.hid (HMZ.out.congr fun i hi => by split; (rename_i h; subst h; rfl); rfl)
  clear HMZ
  go_wp2
  go_loopg [6] g.length (fun q x u => ∃ (j : Nat) (vN : Value) (L : List (Value × List Int)), j + q = g.length ∧ x = .int .i64 j ∧ RowF u mb 6 (fun i => if i = 5 then vN else zM i) ∧ NodesIn u W3.heap.size vN L ∧ L.map (fun x => x.2) = (g.take j).map (lessN d) ∧ Below mb W3 u ∧ W3.heap.size ≤ u.heap.size)
  case atStart => exact ⟨0, .slice none 0 0, [], by omega, rfl, HM0.out, ⟨OwnSl.nil _ _, fun x hx => absurd hx List.not_mem_nil, fun x hx => absurd hx List.not_mem_nil⟩, rfl, Below.refl _ _, Nat.le_refl _⟩
  case round =>
    obtain ⟨j, vN, L, hj, rfl, hrm, hnodes, hmap, hbel, hsz⟩ := hrel
    clear HM0
    have HRMW := Lib.hid hrm
    have HNO := Lib.hid hnodes
    have HMAP := Lib.hid hmap
    have HBE := Lib.hid hbel
    have HSU := Lib.hid hsz
    clear hrm hnodes hmap hbel hsz
    have HCU := Lib.hid ((HBE.out.cell (p := ⟨w.heap.size, 5, none⟩) (Nat.lt_trans HWR.out HRM.out)).trans HC3.out)
    have HBWU := Lib.hid (HBW3.out.trans (HBE.out.mono (Nat.le_of_lt (Nat.lt_trans HWR.out HRM.out))))
    have dm := HCU.out
    cases gk with
    | zero =>
      obtain rfl : j = g.length := by omega
      have hge : ¬ ((g.length : Int) < (g.length : Int)) := by omega
      rw [List.take_of_length_le (Nat.le_refl _)] at HMAP
      have HLX : Hid (∀ x ∈ L, x.2.length ≤ 10000) := Lib.hid fun x hx => by
        have h1 : x.2 ∈ g.map (lessN d) := by rw [← HMAP.out]; exact List.mem_map_of_mem hx
        obtain ⟨y, hy, h2⟩ := List.mem_map.1 h1
        obtain ⟨i, hi⟩ := List.mem_iff_getElem?.1 hy
        rw [← h2]
        exact Nat.le_trans (List.length_filter_le _ _) (HGX.out i y hi)
      have HLG : Hid (L.length ≤ 100) := Lib.hid (by have := congrArg List.length HMAP.out; rw [List.length_map, List.length_map] at this; omega)
      have HEQ := Lib.hid (less_list HMAP.out)
      obtain ⟨A6, c6, hv6⟩ := own_sl HNO.out.own
      subst hv6
      have HRG : Hid (wr.rangeAt mb 0 [.int .i64 0, .slice none 0 0, .slice none 0 0, .slice none 0 0, .slice none 0 0, .slice A6 L.length c6]) := Lib.hid fun i u hu => by
        have hi := (List.getElem?_eq_some_iff.1 hu).1
        simp only [List.length_cons, List.length_nil] at hi
        rw [Nat.zero_add, HRMW.out.c i hi, ← hu]
        match i, hi with
        | 0, _ => rfl
        | 1, _ => rfl
        | 2, _ => rfl
        | 3, _ => rfl
        | 4, _ => rfl
        | 5, _ => rfl
      have HRR := Lib.hid (HRZ3.out.below HBE.out HRM.out)
      have r0 := HRR.out.c 0 (by omega)
      have r1 := HRR.out.c 1 (by omega)
      have r2 := HRR.out.c 2 (by omega)
      have r3 := HRR.out.c 3 (by omega)
      have r4 := HRR.out.c 4 (by omega)
      have r5 := HRR.out.c 5 (by omega)
      have f0 := HRR.out.fz 0 (by omega)
      have f1 := HRR.out.fz 1 (by omega)
      have f2 := HRR.out.fz 2 (by omega)
      have f3 := HRR.out.fz 3 (by omega)
      have f4 := HRR.out.fz 4 (by omega)
      have f5 := HRR.out.fz 5 (by omega)
      go_wp2_with ((with_reducible refine wl_sload 27 _ rfl ?hw2 mb 0 [.int .i64 0, .slice none 0 0, .slice none 0 0, .slice none 0 0, .slice none 0 0, .slice A6 L.length c6] _ rfl HRG.out Try.underlying27 rfl ?hi2 ?_); (case hw2 => first | exact wanted_none rfl | exact wanted_if rfl rfl rfl rfl); (case hi2 => kernel_rfl))
      have hth : wr.there rb 0 6 := fun i hi => by rw [Nat.zero_add, HRR.out.c i hi]; exact ⟨rfl, HRR.out.fz i hi⟩
      have hres := World.rangeAt_setCells_same wr rb 0 [.int .i64 0, .slice none 0 0, .slice none 0 0, .slice none 0 0, .slice none 0 0, .slice A6 L.length c6] hth
      have hbl : Below w.heap.size w (wr.setCells rb 0 [.int .i64 0, .slice none 0 0, .slice none 0 0, .slice none 0 0, .slice none 0 0, .slice A6 L.length c6]) := below_sets HBWU.out (Nat.le_of_lt HWR.out) _ 0
      refine bodyPost_ret (results_model rfl _ _ rb _ rfl rfl hres) rfl ?_
      have hnn := HNO.out.sets (Nat.lt_trans HRM.out HS3.out) [.int .i64 0, .slice none 0 0, .slice none 0 0, .slice none 0 0, .slice none 0 0, .slice A6 L.length c6] 0
      have hgr := hnn.graph HLG.out HLX.out
      rw [HEQ.out] at hgr
      exact ⟨.slice A6 L.length c6, rfl, hgr, hbl⟩
    | succ q =>
      have hlt : (j : Int) < (g.length : Int) := by omega
      obtain ⟨y, hy⟩ : ∃ y, g[j]? = some y := ⟨_, List.getElem?_eq_getElem (by omega)⟩
      obtain ⟨b, o, rfl, hbb, hc⟩ := HA.out (by omega)
      obtain ⟨ks, hcl, hr, hR⟩ := hc j y hy
      obtain ⟨vn, hvn, hns⟩ := hR.next
      obtain ⟨hnl, NA, nc, rfl, hna⟩ := hns
      have dk0 := range_cell hr 26 hR.catch_
      have dn0 := range_cell hr 2 hvn
      have HGY := Lib.hid (HGX.out j y hy)
      have HWF := Lib.hid hR.wf.1
      have HNA := Lib.hid hna
      have HYY := Lib.hid hy
      have HDN : Hid (∀ u, Below w.heap.size w u → u.cell? ⟨b, o + j * 29 + 2, none⟩ = some (.slice NA y.next.length nc)) := Lib.hid fun u hu => (hu.cell (p := ⟨b, o + j * 29 + 2, none⟩) hbb).trans dn0
      have HDK : Hid (∀ u, Below w.heap.size w u → u.cell? ⟨b, o + j * 29 + 26, none⟩ = some (.int .i64 y.catch_)) := Lib.hid fun u hu => (hu.cell (p := ⟨b, o + j * 29 + 26, none⟩) hbb).trans dk0
      have HBB := Lib.hid hbb
      have HNX : Hid (y.next.length ≤ 10000) := Lib.hid (by have := HGY.out; unfold tos at this; rw [List.length_append] at this; omega)
      have HWN : Hid (∀ t ∈ y.next, wfI t) := Lib.hid fun t ht => by
        obtain ⟨i, hi⟩ := List.mem_iff_getElem?.1 ht
        obtain ⟨_, _, _, _, h2⟩ := hna (by have := (List.getElem?_eq_some_iff.1 hi).1; omega)
        obtain ⟨_, _, _, h3⟩ := h2 i t hi
        exact h3.2
      have HNC : Hid (0 < y.next.length → ∃ b2 o2, NA = some ⟨b2, o2, none⟩ ∧ b2 < w.heap.size ∧ ∀ (i : Nat) t, y.next[i]? = some t → ∀ u, Below w.heap.size w u → u.cell? ⟨b2, o2 + i, none⟩ = some (.int .i64 t)) := Lib.hid fun h0 => by
        obtain ⟨b2, o2, h1, h2, h3⟩ := hna h0
        refine ⟨b2, o2, h1, h2, fun i t ht u hu => ?_⟩
        obtain ⟨cs, h4, h5, h6⟩ := h3 i t ht
        have h7 := h6.1
        subst h7
        have := h5 0 (.int .i64 t) rfl
        refine (hu.cell (p := ⟨b2, o2 + i, none⟩) h2).trans ?_
        simpa using this
      have HWL : Hid (∀ t ∈ lessN d y, wfI t) := Lib.hid fun t ht => by
        unfold lessN tos at ht
        rcases List.mem_append.1 (List.mem_filter.1 ht).1 with h1 | h1
        · exact HWN.out t h1
        · split at h1
          · rw [List.mem_singleton.1 h1]; exact HWF.out
          · cases h1
      have HLE := Lib.hid (lessN_end d y)
      have HLT := Lib.hid (fun k t (h : y.next[k]? = some t) => less_take h d)
      have HMP : Hid (∀ v : Value, (L ++ [(v, lessN d y)]).map (fun (x : Value × List Int) => x.2) = (g.take (j + 1)).map (lessN d)) := Lib.hid fun v => by rw [List.map_append, HMAP.out, take_at HYY.out, List.map_append]; rfl
      have HLN : Hid (L.length = j) := Lib.hid (by have := congrArg List.length HMAP.out; rw [List.length_map, List.length_map, List.length_take] at this; omega)
      have HLM1 : Hid (L.length + 1 ≤ maxLen) := Lib.hid (by have := HLN.out; unfold maxLen; omega)
      have HLM2 : Hid ((L.length + 1) * 424 ≤ 140737488355328) := Lib.hid (by have := HLN.out; omega)
      obtain ⟨AN, cN, hvN⟩ := own_sl HNO.out.own
      subst hvN
      rw [HLN.out] at HNO HRMW
      have hnx2 : (y.next.length : Int) ≤ 10000 := by have := HNX.out; omega
      have hj3 : (j : Int) + 1 ≤ 100 := by omega
      clear hc hcl hr hR hvn hna dk0 dn0 hy hnl HGY HWF HNA HYY HMAP HWN
      go_upto_region 6 with ((with_reducible refine wl_sboxF 55 _ _ rfl ?hw wr ?z (encN (.slice none 0 0, [])) ?hwld ?hz ?hx ?hy ?hi ?h1 ?_); (case hwld => rfl); (case hx => rfl); (case hy => rfl); (case hw => first | exact wanted_none rfl | exact wanted_if rfl rfl rfl rfl); (case hz => rfl); (case hi => kernel_rfl); (case h1 => exact encN_ones); intro Z hbx hfz; have HX := Lib.hid hbx; have HXF := Lib.hid hfz; clear hbx hfz)
      obtain ⟨N0, hN0⟩ : ∃ N0, Value.agg #[Value.int .i64 0, Value.int .i64 0, Value.slice none 0 0, Value.slice none 0 0, Value.int .i64 0, Value.string ⟨#[]⟩, Value.int .i64 0, Value.int .i64 0, Value.float .f64 0, Value.string ⟨#[]⟩, Value.slice none 0 0, Value.slice none 0 0, Value.slice none 0 0, Value.slice none 0 0, Value.int .i64 0, Value.string ⟨#[]⟩, Value.int .i64 0, Value.int .i64 0, Value.float .f64 0, Value.string ⟨#[]⟩, Value.slice none 0 0, Value.slice none 0 0, Value.slice none 0 0, Value.slice none 0 0, Value.int .i64 0, Value.int .i64 0, Value.int .i64 (-1), Value.int .i64 0, Value.int .i64 0] = N0 := ⟨_, rfl⟩
      rw [hN0]
      clear hN0
      have HRN0 := Lib.hid (row_node HX.out HXF.out)
      have HBZ := Lib.hid HX.out.below
      have HNZ := Lib.hid HX.out.size
      clear HX HXF dm
      obtain ⟨w8, rfl⟩ : ∃ w8, w8 = wr := ⟨_, rfl⟩
      obtain ⟨nb, hnb⟩ : ∃ nb, w8.heap.size = nb := ⟨_, rfl⟩
      have HNB8 : Hid (w8.heap.size = nb) := Lib.hid hnb
      have HMB3 : Hid (mb < W3.heap.size) := Lib.hid HS3.out
      have HWM : Hid (w.heap.size < nb) := Lib.hid (by have := HWR.out; have := HRM.out; have := HS3.out; have := HSU.out; omega)
      rw [hnb] at HRN0 HBZ HNZ
      rw [hnb]
      clear hnb
      go_wp2
      go_loopg [8] y.next.length (fun q2 x u => ∃ (k : Nat) (v : Value), k + q2 = y.next.length ∧ x = .int .i64 k ∧ RowF u nb 29 (fun i => if i = 2 then v else nodeZ i) ∧ OwnSl 3 1 encI u (nb + 1) v ((y.next.take k).filter (fun t => !(t == (d : Int)))) ∧ Below nb w8 u ∧ nb < u.heap.size)
      case atStart => exact ⟨0, .slice none 0 0, by omega, rfl, HRN0.out, OwnSl.nil _ _, HBZ.out, HNZ.out⟩
      case round =>
        obtain ⟨k, v, hk, rfl, hrn, hov, hbw, hnb⟩ := hrel
        clear HRN0 HBZ HNZ
        have HRN := Lib.hid hrn
        have HOV := Lib.hid hov
        have HBW := Lib.hid hbw
        have HNB := Lib.hid hnb
        clear hrn hov hbw hnb
        have HBR := Lib.hid (HBWU.out.trans (HBW.out.mono (Nat.le_of_lt HWM.out)))
        have dm := (HBW.out.cell (p := ⟨w.heap.size, 5, none⟩) HWM.out).trans HCU.out
        have dn := HDN.out wr HBR.out
        have HLV : Hid (((y.next.take k).filter (fun t => !(t == (d : Int)))).length ≤ 10000) := Lib.hid (Nat.le_trans (List.length_filter_le _ _) (by rw [List.length_take]; have := HNX.out; omega))
        cases gk with
        | zero =>
          obtain rfl : k = y.next.length := by omega
          have hge : ¬ ((y.next.length : Int) < (y.next.length : Int)) := by omega
          rw [List.take_of_length_le (Nat.le_refl _)] at HOV HLV
          have dk := HDK.out wr HBR.out
          have HLL : Hid (lessN d y = y.next.filter (fun t => !(t == (d : Int))) ++ if 0 ≤ y.catch_ ∧ y.catch_ ≠ d then [y.catch_] else []) := HLE
          generalize y.next.filter (fun t => !(t == (d : Int))) = LV at *
          generalize lessN d y = LL at *
          generalize y.catch_ = t at *
          have HM1 : Hid (LV.length + 1 ≤ maxLen) := Lib.hid (by have := HLV.out; unfold maxLen; omega)
          have HM2 : Hid ((LV.length + 1) * 8 ≤ 140737488355328) := Lib.hid (by have := HLV.out; omega)
          by_cases hc0 : 0 ≤ t
          · have t1 : decide (0 ≤ t) = true := by simpa using hc0
            by_cases hcd : t = (d : Int)
            · have t2 : (t != (d : Int)) = false := by simp [hcd]
              rw [if_neg (fun h => h.2 hcd), List.append_nil] at HLL
              have HR9 := HRN
              have HO9 := HOV
              have HB9 := HBW
              have HN9 := HNB
              clear hc0 hcd
              go_upto_region 13 with (fail)
              clear dm dn dk t1 t2
              obtain ⟨WX, rfl⟩ : ∃ WX, WX = wr := ⟨_, rfl⟩
              obtain ⟨Av, cv, hv⟩ := own_sl HO9.out
              rw [← HLL.out] at HO9 hv
              have HR10 : Hid (RowF WX nb 29 (fun i => if i = 2 then .slice Av LL.length cv else nodeZ i)) := Lib.hid (hv ▸ HR9.out)
              have HO10 : Hid (OwnSl 3 1 encI WX W3.heap.size (.slice Av LL.length cv) LL) := Lib.hid (hv ▸ HO9.out.mono (by have := HSU.out; have := HNB8.out; omega))
              obtain ⟨ks, hks⟩ : ∃ ks, (encN (.slice Av LL.length cv, LL)) = ks := ⟨_, rfl⟩
              have HRG : Hid (WX.rangeAt nb 0 ks) := Lib.hid (hks ▸ encN_range HR10.out LL)
              have HKL : Hid (ks.length = 29) := Lib.hid (by rw [← hks]; rfl)
              have HB10 : Hid (Below w8.heap.size w8 WX) := Lib.hid (HNB8.out ▸ HB9.out)
              have HNW := Lib.hid (HNO.out.below HB10.out)
              have HRW := Lib.hid (HRMW.out.below HB10.out (Nat.lt_of_lt_of_le HMB3.out HSU.out))
              have d5 := HRW.out.c 5 (by omega)
              simp only [if_true] at d5
              have HBX := Lib.hid (box_below WX (.cells ⟨ks⟩ 55))
              have HWZ := Lib.hid (HNW.out.below HBX.out)
              have HCE : Hid (∀ (j : Nat) u, (encN (.slice Av LL.length cv, LL))[j]? = some u → (WX.alloc (.cells ⟨ks⟩ 55)).cell? ⟨WX.heap.size, j, none⟩ = some u) := Lib.hid (by rw [hks]; exact cells_box WX ks 55)
              have HRWX := Lib.hid (HRW.out.below HBX.out (Nat.lt_of_lt_of_le HMB3.out (Nat.le_trans HSU.out HB10.out.size)))
              have HOX := Lib.hid (OwnSl.below HO10.out HBX.out)
              have HSB : Hid (W3.heap.size ≤ (WX.alloc (.cells ⟨ks⟩ 55)).heap.size) := Lib.hid (Nat.le_trans (Nat.le_trans HSU.out HB10.out.size) HBX.out.size)
              have HBEX := Lib.hid ((HBE.out.trans (HB10.out.mono (Nat.le_of_lt (Nat.lt_of_lt_of_le HMB3.out HSU.out)))).trans (HBX.out.mono (Nat.le_of_lt (Nat.lt_of_lt_of_le HMB3.out (Nat.le_trans HSU.out HB10.out.size)))))
              clear HR9 HO9 HB9 HN9 hv HR10 HRW HO10 hks
              go_wp2_with (first | ((with_reducible refine wl_sload 55 _ rfl ?hw2 nb 0 ks _ rfl HRG.out Try.underlying55 rfl ?hi2 ?_); (case hw2 => first | exact wanted_none rfl | exact wanted_if rfl rfl rfl rfl); (case hi2 => rw [HKL.out]; kernel_rfl)) | ((with_reducible refine wl_build1 25 _ rfl ?hw3 55 j0 _ ks rfl Try.underlying25 HJ0.out HY0.out ?hs3 ?h03 ?hm3 ?_); (case hw3 => first | exact wanted_none rfl | exact wanted_if rfl rfl rfl rfl); (case hs3 => rw [HKL.out]; exact HY1.out); (case h03 => rw [HKL.out]; decide); (case hm3 => rw [HKL.out]; decide)) | (at_builtin; (refine wl_push' rfl _ _ 25 rfl W3.heap.size 55 j0 (.agg ⟨encC (.slice none 0 0) 0⟩) 29 424 encN Try.underlying25 HJ0.out HY0.out HY1.out HY2.out rfl (by decide) encN_len _ _ rfl HWZ.out.own WX.heap.size 1 (.slice Av LL.length cv, LL) encN_ones rfl HCE.out HLM1.out HLM2.out HSB.out ?_; intro v' W4 hown hg; obtain ⟨A7, n7, c7, hv7⟩ := own_slice hown; subst hv7; have HO3 := Lib.hid hown; have HG3 := Lib.hid hg; clear hown hg; have HR3 := Lib.hid (HRWX.out.keep (HG3.out.block mb (Nat.lt_of_lt_of_le HMB3.out HSB.out) (fun h => by have := HWZ.out.own.block h.symm; have := HMB3.out; omega))); have d3 := HR3.out.c 5 (by omega); simp only [if_true] at d3; have f3 := HR3.out.fz 5 (by omega); have HR4 : Hid (RowF (W4.setCell ⟨mb, 5, none⟩ (.slice A7 n7 c7)) mb 6 (fun i => if i = 5 then .slice A7 n7 c7 else zM i)) := Lib.hid ((HR3.out.set (i := 5) (by omega) (.slice A7 n7 c7)).congr (fun i hi => by by_cases h : i = 5 <;> simp [h])); have HN4 := Lib.hid (HWZ.out.push (x := (.slice Av LL.length cv, LL)) (z := .slice A7 n7 c7) (i := 5) HMB3.out HOX.out HWL.out HO3.out HG3.out); have HB4 := Lib.hid (below_put (i := 5) (push_below HBEX.out (Nat.le_trans (Nat.le_of_lt HMB3.out) HBEX.out.size) HWZ.out.own (Nat.le_of_lt HMB3.out) HG3.out) (Nat.le_refl mb) (.slice A7 n7 c7)); have HS4 : Hid (W3.heap.size ≤ (W4.setCell ⟨mb, 5, none⟩ (.slice A7 n7 c7)).heap.size) := Lib.hid (by rw [put_size]; exact Nat.le_trans HSB.out HG3.out.size))))
              go_roundg q
              case measure => omega
              case rel => exact ⟨j + 1, .slice A7 n7 c7, _, by omega, by go_num, HR4.out, HN4.out, HMP.out _, HB4.out, HS4.out⟩
            · have t2 : (t != (d : Int)) = true := by simpa using hcd
              rw [if_pos ⟨hc0, hcd⟩] at HLL
              have HLB : Hid (w.heap.size < nb ∧ b < nb) := Lib.hid ⟨HWM.out, Nat.lt_trans HBB.out HWM.out⟩
              clear hc0 hcd
              go_upto_region 12 with (fail)
              have d1 : wr.drew.cell? ⟨nb, 2, none⟩ = some v := by have := HRN.out.c 2 (by omega); exact this
              have d2 : wr.drew.cell? ⟨w.heap.size, 5, none⟩ = some (.slice (some ⟨b, o, none⟩) g.length c) := dm
              have d3 : wr.drew.cell? ⟨b, o + j * 29 + 26, none⟩ = some (.int .i64 t) := dk
              clear dm dn dk t1 t2
              refine wp_region_ord_tail 11 [(0, true), (1, true), (2, true), (3, true), (4, true), (5, true), (6, true), (7, true), (8, false), (9, false), (10, true)]
                (fun z => z.cell? ⟨nb, 2, none⟩ = some v ∧ z.cell? ⟨w.heap.size, 5, none⟩ = some (.slice (some ⟨b, o, none⟩) g.length c) ∧ z.cell? ⟨b, o + j * 29 + 26, none⟩ = some (.int .i64 t)) (by kernel_rfl) (by kernel_rfl) rfl (by intro c a d v w h; cases d <;> exact h) ?_
              have hs : wr.drew.cell? ⟨nb, 2, none⟩ = some v ∧ wr.drew.cell? ⟨w.heap.size, 5, none⟩ = some (.slice (some ⟨b, o, none⟩) g.length c) ∧ wr.drew.cell? ⟨b, o + j * 29 + 26, none⟩ = some (.int .i64 t) := ⟨d1, d2, d3⟩
              have HBD := Lib.hid HBW.out.drew
              have HVD := Lib.hid (OwnSl.below HOV.out (Below.refl _ wr).drew)
              have HRD := Lib.hid (HRN.out.below (Below.refl _ wr).drew HNB.out)
              have HND : Hid (nb < wr.drew.heap.size) := Lib.hid HNB.out
              clear HBW HOV HRN HNB d1 d2 d3
              generalize wr.drew = wd at *
              refine ord_load (some 70) (.pointer (some ⟨nb, 2, none⟩)) _ rfl rfl (by first | exact wanted_none rfl | exact wanted_if rfl rfl rfl rfl) hs (fun z hz => by go_simp) ?_
              go_frame
              refine ord_load (some 71) v _ rfl rfl (by first | exact wanted_none rfl | exact wanted_if rfl rfl rfl rfl) hs (fun z hz => by have dd := hz.1; go_simp) ?_
              go_frame
              refine ord_load (some 72) (.pointer (some ⟨w.heap.size, 5, none⟩)) _ rfl rfl (by first | exact wanted_none rfl | exact wanted_if rfl rfl rfl rfl) hs (fun z hz => by go_simp) ?_
              go_frame
              refine ord_load (some 73) (.slice (some ⟨b, o, none⟩) g.length c) _ rfl rfl (by first | exact wanted_none rfl | exact wanted_if rfl rfl rfl rfl) hs (fun z hz => by have dd := hz.2.1; go_simp) ?_
              go_frame
              refine ord_move (some 74) (.int .i64 j) _ _ rfl rfl rfl (by first | exact wanted_none rfl | exact wanted_if rfl rfl rfl rfl) hs rfl ?_
              go_frame
              refine ord_load (some 75) (.pointer (some ⟨b, o + j * 29, none⟩)) _ rfl rfl (by first | exact wanted_none rfl | exact wanted_if rfl rfl rfl rfl) hs (fun z hz => by go_simp) ?_
              go_frame
              refine ord_load (some 76) (.pointer (some ⟨b, o + j * 29 + 26, none⟩)) _ rfl rfl (by first | exact wanted_none rfl | exact wanted_if rfl rfl rfl rfl) hs (fun z hz => by go_simp) ?_
              go_frame
              refine ord_load (some 77) (.int .i64 t) _ rfl rfl (by first | exact wanted_none rfl | exact wanted_if rfl rfl rfl rfl) hs (fun z hz => by have dd := hz.2.2; go_simp) ?_
              go_frame
              have hbx := box_below wd (.cells ⟨encI t⟩ 3)
              have hs2 : (wd.alloc (.cells ⟨encI t⟩ 3)).cell? ⟨nb, 2, none⟩ = some v ∧ (wd.alloc (.cells ⟨encI t⟩ 3)).cell? ⟨w.heap.size, 5, none⟩ = some (.slice (some ⟨b, o, none⟩) g.length c) ∧ (wd.alloc (.cells ⟨encI t⟩ 3)).cell? ⟨b, o + j * 29 + 26, none⟩ = some (.int .i64 t) := ⟨(hbx.cell (p := ⟨nb, 2, none⟩) (World.block_lt_of_cell? wd _ hs.1)).trans hs.1, (hbx.cell (p := ⟨w.heap.size, 5, none⟩) (World.block_lt_of_cell? wd _ hs.2.1)).trans hs.2.1, (hbx.cell (p := ⟨b, o + j * 29 + 26, none⟩) (World.block_lt_of_cell? wd _ hs.2.2)).trans hs.2.2⟩
              have HVX := Lib.hid (OwnSl.below HVD.out hbx)
              have HRX := Lib.hid (HRD.out.below hbx HND.out)
              have HBX := Lib.hid (HBD.out.trans (hbx.mono (Nat.le_of_lt HND.out)))
              have HNX : Hid (nb + 1 ≤ (wd.alloc (.cells ⟨encI t⟩ 3)).heap.size) := Lib.hid (Nat.le_of_lt (Nat.lt_of_le_of_lt HND.out (box_size _ _)))
              refine ord_run (some 78) (.slice (some ⟨wd.heap.size, 0, none⟩) 1 1) (wd.alloc (.cells ⟨encI t⟩ 3)) _ rfl rfl (by first | exact wanted_none rfl | exact wanted_if rfl rfl rfl rfl) (by go_simp; rfl) hs2 ?_
              go_frame
              have hce := cells_box wd (encI t) 3
              clear hbx hs
              generalize (wd.alloc (.cells ⟨encI t⟩ 3)) = wx at *
              refine ord_push (some 79) _ _ _ 34 rfl rfl rfl (by first | exact wanted_none rfl | exact wanted_if rfl rfl rfl rfl) (nb + 1) 3 i0 (.int .i64 0) 1 8 encI Try.underlying34 HI0.out HZ0.out HZ1.out HZ2.out rfl (by decide) encI_len encI_one v LV rfl HVX.out wd.heap.size 1 t rfl hce HM1.out HM2.out HNX.out ?_
              intro v' wy hown hg hblk
              obtain ⟨s1, s2, s3, rfl⟩ := own_slice hown
              have hpb := push_below (Below.refl (nb + 1) wx) HNX.out HVX.out (Nat.le_refl _) hg
              have hs3 : wy.cell? ⟨nb, 2, none⟩ = some v ∧ wy.cell? ⟨w.heap.size, 5, none⟩ = some (.slice (some ⟨b, o, none⟩) g.length c) ∧ wy.cell? ⟨b, o + j * 29 + 26, none⟩ = some (.int .i64 t) := ⟨(hpb.cell (p := ⟨nb, 2, none⟩) (Nat.lt_succ_self nb)).trans hs2.1, (hpb.cell (p := ⟨w.heap.size, 5, none⟩) (Nat.lt_succ_of_lt HLB.out.1)).trans hs2.2.1, (hpb.cell (p := ⟨b, o + j * 29 + 26, none⟩) (Nat.lt_succ_of_lt HLB.out.2)).trans hs2.2.2⟩
              refine ⟨hs3, ?_⟩
              go_frame
              refine ord_load (some 80) (.pointer (some ⟨nb, 2, none⟩)) _ rfl rfl (by first | exact wanted_none rfl | exact wanted_if rfl rfl rfl rfl) hs3 (fun z hz => by go_simp) ?_
              go_frame
              refine ord_tail ?_
              simp only [List.drop_succ_cons, List.drop_zero]
              have hry := HRX.out.below hpb (Nat.lt_succ_self nb)
              have ffz := hry.fz 2 (by omega)
              have dcz := hs3.1
              have HR9 : Hid (RowF (wy.setCell ⟨nb, 2, none⟩ (.slice s1 s2 s3)) nb 29 (fun i => if i = 2 then .slice s1 s2 s3 else nodeZ i)) := Lib.hid ((hry.set (i := 2) (by omega) (.slice s1 s2 s3)).congr fun i hi => by by_cases h : i = 2 <;> simp [h])
              have HO9 : Hid (OwnSl 3 1 encI (wy.setCell ⟨nb, 2, none⟩ (.slice s1 s2 s3)) (nb + 1) (.slice s1 s2 s3) (LV ++ [t])) := Lib.hid (own_put hown (Nat.lt_succ_self nb) _)
              have HB9 : Hid (Below nb w8 (wy.setCell ⟨nb, 2, none⟩ (.slice s1 s2 s3))) := Lib.hid (below_put (HBX.out.trans (hpb.mono (Nat.le_succ nb))) (Nat.le_refl nb) _)
              have HN9 : Hid (nb < (wy.setCell ⟨nb, 2, none⟩ (.slice s1 s2 s3)).heap.size) := Lib.hid (by rw [put_size]; exact Nat.lt_of_lt_of_le HNX.out hpb.size)
              clear hs2 hs3 hown hg hblk hpb hce hry HVD HRD HBD HND HVX HRX HBX HNX
              go_upto_region 13 with (fail)
              clear ffz dcz
              generalize wy.setCell ⟨nb, 2, none⟩ (.slice s1 s2 s3) = W9 at *
              obtain ⟨WX, rfl⟩ : ∃ WX, WX = W9 := ⟨_, rfl⟩
              obtain ⟨Av, cv, hv⟩ := own_sl HO9.out
              rw [← HLL.out] at HO9 hv
              have HR10 : Hid (RowF WX nb 29 (fun i => if i = 2 then .slice Av LL.length cv else nodeZ i)) := Lib.hid (hv ▸ HR9.out)
              have HO10 : Hid (OwnSl 3 1 encI WX W3.heap.size (.slice Av LL.length cv) LL) := Lib.hid (hv ▸ HO9.out.mono (by have := HSU.out; have := HNB8.out; omega))
              obtain ⟨ks, hks⟩ : ∃ ks, (encN (.slice Av LL.length cv, LL)) = ks := ⟨_, rfl⟩
              have HRG : Hid (WX.rangeAt nb 0 ks) := Lib.hid (hks ▸ encN_range HR10.out LL)
              have HKL : Hid (ks.length = 29) := Lib.hid (by rw [← hks]; rfl)
              have HB10 : Hid (Below w8.heap.size w8 WX) := Lib.hid (HNB8.out ▸ HB9.out)
              have HNW := Lib.hid (HNO.out.below HB10.out)
              have HRW := Lib.hid (HRMW.out.below HB10.out (Nat.lt_of_lt_of_le HMB3.out HSU.out))
              have d5 := HRW.out.c 5 (by omega)
              simp only [if_true] at d5
              have HBX := Lib.hid (box_below WX (.cells ⟨ks⟩ 55))
              have HWZ := Lib.hid (HNW.out.below HBX.out)
              have HCE : Hid (∀ (j : Nat) u, (encN (.slice Av LL.length cv, LL))[j]? = some u → (WX.alloc (.cells ⟨ks⟩ 55)).cell? ⟨WX.heap.size, j, none⟩ = some u) := Lib.hid (by rw [hks]; exact cells_box WX ks 55)
              have HRWX := Lib.hid (HRW.out.below HBX.out (Nat.lt_of_lt_of_le HMB3.out (Nat.le_trans HSU.out HB10.out.size)))
              have HOX := Lib.hid (OwnSl.below HO10.out HBX.out)
              have HSB : Hid (W3.heap.size ≤ (WX.alloc (.cells ⟨ks⟩ 55)).heap.size) := Lib.hid (Nat.le_trans (Nat.le_trans HSU.out HB10.out.size) HBX.out.size)
              have HBEX := Lib.hid ((HBE.out.trans (HB10.out.mono (Nat.le_of_lt (Nat.lt_of_lt_of_le HMB3.out HSU.out)))).trans (HBX.out.mono (Nat.le_of_lt (Nat.lt_of_lt_of_le HMB3.out (Nat.le_trans HSU.out HB10.out.size)))))
              clear HR9 HO9 HB9 HN9 hv HR10 HRW HO10 hks
              go_wp2_with (first | ((with_reducible refine wl_sload 55 _ rfl ?hw2 nb 0 ks _ rfl HRG.out Try.underlying55 rfl ?hi2 ?_); (case hw2 => first | exact wanted_none rfl | exact wanted_if rfl rfl rfl rfl); (case hi2 => rw [HKL.out]; kernel_rfl)) | ((with_reducible refine wl_build1 25 _ rfl ?hw3 55 j0 _ ks rfl Try.underlying25 HJ0.out HY0.out ?hs3 ?h03 ?hm3 ?_); (case hw3 => first | exact wanted_none rfl | exact wanted_if rfl rfl rfl rfl); (case hs3 => rw [HKL.out]; exact HY1.out); (case h03 => rw [HKL.out]; decide); (case hm3 => rw [HKL.out]; decide)) | (at_builtin; (refine wl_push' rfl _ _ 25 rfl W3.heap.size 55 j0 (.agg ⟨encC (.slice none 0 0) 0⟩) 29 424 encN Try.underlying25 HJ0.out HY0.out HY1.out HY2.out rfl (by decide) encN_len _ _ rfl HWZ.out.own WX.heap.size 1 (.slice Av LL.length cv, LL) encN_ones rfl HCE.out HLM1.out HLM2.out HSB.out ?_; intro v' W4 hown hg; obtain ⟨A7, n7, c7, hv7⟩ := own_slice hown; subst hv7; have HO3 := Lib.hid hown; have HG3 := Lib.hid hg; clear hown hg; have HR3 := Lib.hid (HRWX.out.keep (HG3.out.block mb (Nat.lt_of_lt_of_le HMB3.out HSB.out) (fun h => by have := HWZ.out.own.block h.symm; have := HMB3.out; omega))); have d3 := HR3.out.c 5 (by omega); simp only [if_true] at d3; have f3 := HR3.out.fz 5 (by omega); have HR4 : Hid (RowF (W4.setCell ⟨mb, 5, none⟩ (.slice A7 n7 c7)) mb 6 (fun i => if i = 5 then .slice A7 n7 c7 else zM i)) := Lib.hid ((HR3.out.set (i := 5) (by omega) (.slice A7 n7 c7)).congr (fun i hi => by by_cases h : i = 5 <;> simp [h])); have HN4 := Lib.hid (HWZ.out.push (x := (.slice Av LL.length cv, LL)) (z := .slice A7 n7 c7) (i := 5) HMB3.out HOX.out HWL.out HO3.out HG3.out); have HB4 := Lib.hid (below_put (i := 5) (push_below HBEX.out (Nat.le_trans (Nat.le_of_lt HMB3.out) HBEX.out.size) HWZ.out.own (Nat.le_of_lt HMB3.out) HG3.out) (Nat.le_refl mb) (.slice A7 n7 c7)); have HS4 : Hid (W3.heap.size ≤ (W4.setCell ⟨mb, 5, none⟩ (.slice A7 n7 c7)).heap.size) := Lib.hid (by rw [put_size]; exact Nat.le_trans HSB.out HG3.out.size))))
              go_roundg q
              case measure => omega
              case rel => exact ⟨j + 1, .slice A7 n7 c7, _, by omega, by go_num, HR4.out, HN4.out, HMP.out _, HB4.out, HS4.out⟩
          · have t1 : decide (0 ≤ t) = false := by simpa using hc0
            rw [if_neg (fun h => hc0 h.1), List.append_nil] at HLL
            have HR9 := HRN
            have HO9 := HOV
            have HB9 := HBW
            have HN9 := HNB
            clear hc0
            go_upto_region 13 with (fail)
            clear dm dn dk t1
            obtain ⟨WX, rfl⟩ : ∃ WX, WX = wr := ⟨_, rfl⟩
            obtain ⟨Av, cv, hv⟩ := own_sl HO9.out
            rw [← HLL.out] at HO9 hv
            have HR10 : Hid (RowF WX nb 29 (fun i => if i = 2 then .slice Av LL.length cv else nodeZ i)) := Lib.hid (hv ▸ HR9.out)
            have HO10 : Hid (OwnSl 3 1 encI WX W3.heap.size (.slice Av LL.length cv) LL) := Lib.hid (hv ▸ HO9.out.mono (by have := HSU.out; have := HNB8.out; omega))
            obtain ⟨ks, hks⟩ : ∃ ks, (encN (.slice Av LL.length cv, LL)) = ks := ⟨_, rfl⟩
            have HRG : Hid (WX.rangeAt nb 0 ks) := Lib.hid (hks ▸ encN_range HR10.out LL)
            have HKL : Hid (ks.length = 29) := Lib.hid (by rw [← hks]; rfl)
            have HB10 : Hid (Below w8.heap.size w8 WX) := Lib.hid (HNB8.out ▸ HB9.out)
            have HNW := Lib.hid (HNO.out.below HB10.out)
            have HRW := Lib.hid (HRMW.out.below HB10.out (Nat.lt_of_lt_of_le HMB3.out HSU.out))
            have d5 := HRW.out.c 5 (by omega)
            simp only [if_true] at d5
            have HBX := Lib.hid (box_below WX (.cells ⟨ks⟩ 55))
            have HWZ := Lib.hid (HNW.out.below HBX.out)
            have HCE : Hid (∀ (j : Nat) u, (encN (.slice Av LL.length cv, LL))[j]? = some u → (WX.alloc (.cells ⟨ks⟩ 55)).cell? ⟨WX.heap.size, j, none⟩ = some u) := Lib.hid (by rw [hks]; exact cells_box WX ks 55)
            have HRWX := Lib.hid (HRW.out.below HBX.out (Nat.lt_of_lt_of_le HMB3.out (Nat.le_trans HSU.out HB10.out.size)))
            have HOX := Lib.hid (OwnSl.below HO10.out HBX.out)
            have HSB : Hid (W3.heap.size ≤ (WX.alloc (.cells ⟨ks⟩ 55)).heap.size) := Lib.hid (Nat.le_trans (Nat.le_trans HSU.out HB10.out.size) HBX.out.size)
            have HBEX := Lib.hid ((HBE.out.trans (HB10.out.mono (Nat.le_of_lt (Nat.lt_of_lt_of_le HMB3.out HSU.out)))).trans (HBX.out.mono (Nat.le_of_lt (Nat.lt_of_lt_of_le HMB3.out (Nat.le_trans HSU.out HB10.out.size)))))
            clear HR9 HO9 HB9 HN9 hv HR10 HRW HO10 hks
            go_wp2_with (first | ((with_reducible refine wl_sload 55 _ rfl ?hw2 nb 0 ks _ rfl HRG.out Try.underlying55 rfl ?hi2 ?_); (case hw2 => first | exact wanted_none rfl | exact wanted_if rfl rfl rfl rfl); (case hi2 => rw [HKL.out]; kernel_rfl)) | ((with_reducible refine wl_build1 25 _ rfl ?hw3 55 j0 _ ks rfl Try.underlying25 HJ0.out HY0.out ?hs3 ?h03 ?hm3 ?_); (case hw3 => first | exact wanted_none rfl | exact wanted_if rfl rfl rfl rfl); (case hs3 => rw [HKL.out]; exact HY1.out); (case h03 => rw [HKL.out]; decide); (case hm3 => rw [HKL.out]; decide)) | (at_builtin; (refine wl_push' rfl _ _ 25 rfl W3.heap.size 55 j0 (.agg ⟨encC (.slice none 0 0) 0⟩) 29 424 encN Try.underlying25 HJ0.out HY0.out HY1.out HY2.out rfl (by decide) encN_len _ _ rfl HWZ.out.own WX.heap.size 1 (.slice Av LL.length cv, LL) encN_ones rfl HCE.out HLM1.out HLM2.out HSB.out ?_; intro v' W4 hown hg; obtain ⟨A7, n7, c7, hv7⟩ := own_slice hown; subst hv7; have HO3 := Lib.hid hown; have HG3 := Lib.hid hg; clear hown hg; have HR3 := Lib.hid (HRWX.out.keep (HG3.out.block mb (Nat.lt_of_lt_of_le HMB3.out HSB.out) (fun h => by have := HWZ.out.own.block h.symm; have := HMB3.out; omega))); have d3 := HR3.out.c 5 (by omega); simp only [if_true] at d3; have f3 := HR3.out.fz 5 (by omega); have HR4 : Hid (RowF (W4.setCell ⟨mb, 5, none⟩ (.slice A7 n7 c7)) mb 6 (fun i => if i = 5 then .slice A7 n7 c7 else zM i)) := Lib.hid ((HR3.out.set (i := 5) (by omega) (.slice A7 n7 c7)).congr (fun i hi => by by_cases h : i = 5 <;> simp [h])); have HN4 := Lib.hid (HWZ.out.push (x := (.slice Av LL.length cv, LL)) (z := .slice A7 n7 c7) (i := 5) HMB3.out HOX.out HWL.out HO3.out HG3.out); have HB4 := Lib.hid (below_put (i := 5) (push_below HBEX.out (Nat.le_trans (Nat.le_of_lt HMB3.out) HBEX.out.size) HWZ.out.own (Nat.le_of_lt HMB3.out) HG3.out) (Nat.le_refl mb) (.slice A7 n7 c7)); have HS4 : Hid (W3.heap.size ≤ (W4.setCell ⟨mb, 5, none⟩ (.slice A7 n7 c7)).heap.size) := Lib.hid (by rw [put_size]; exact Nat.le_trans HSB.out HG3.out.size))))
            go_roundg q
            case measure => omega
            case rel => exact ⟨j + 1, .slice A7 n7 c7, _, by omega, by go_num, HR4.out, HN4.out, HMP.out _, HB4.out, HS4.out⟩
        | succ q2 =>
          have hlt2 : (k : Int) < (y.next.length : Int) := by omega
          obtain ⟨t, ht⟩ : ∃ t, y.next[k]? = some t := ⟨_, List.getElem?_eq_getElem (by omega)⟩
          have HLK := Lib.hid (HLT.out k t ht)
          obtain ⟨b2, o2, rfl, hb2, hc2⟩ := HNC.out (by omega)
          have dt := hc2 k t ht wr HBR.out
          generalize (y.next.take k).filter (fun t => !(t == (d : Int))) = LV at *
          have HM1 : Hid (LV.length + 1 ≤ maxLen) := Lib.hid (by have := HLV.out; unfold maxLen; omega)
          have HM2 : Hid ((LV.length + 1) * 8 ≤ 140737488355328) := Lib.hid (by have := HLV.out; omega)
          clear ht hc2
          by_cases hcd : t = (d : Int)
          · have t2 : (t != (d : Int)) = false := by simp [hcd]
            rw [if_pos hcd, List.append_nil] at HLK
            clear hcd
            go_wp2
            go_roundg q2
            case measure => omega
            case rel => exact ⟨k + 1, v, by omega, by go_num, HRN.out, by rw [HLK.out]; exact HOV.out, HBW.out, HNB.out⟩
          · have t2 : (t != (d : Int)) = true := by simpa using hcd
            rw [if_neg hcd] at HLK
            have HLB : Hid (w.heap.size < nb ∧ b < nb ∧ b2 < nb) := Lib.hid ⟨HWM.out, Nat.lt_trans HBB.out HWM.out, Nat.lt_trans hb2 HWM.out⟩
            clear hcd hb2
            go_upto_region 10 with (fail)
            have d1 : wr.drew.cell? ⟨nb, 2, none⟩ = some v := by have := HRN.out.c 2 (by omega); exact this
            have d2 : wr.drew.cell? ⟨w.heap.size, 5, none⟩ = some (.slice (some ⟨b, o, none⟩) g.length c) := dm
            have d3 : wr.drew.cell? ⟨b, o + j * 29 + 2, none⟩ = some (.slice (some ⟨b2, o2, none⟩) y.next.length nc) := dn
            have d4 : wr.drew.cell? ⟨b2, o2 + k, none⟩ = some (.int .i64 t) := dt
            clear dm dn dt t2
            refine wp_region_ord_tail 14 [(0, true), (1, true), (2, true), (3, true), (4, true), (5, true), (6, true), (7, true), (8, true), (9, true), (10, true), (11, false), (12, false), (13, true)]
              (fun z => z.cell? ⟨nb, 2, none⟩ = some v ∧ z.cell? ⟨w.heap.size, 5, none⟩ = some (.slice (some ⟨b, o, none⟩) g.length c) ∧ z.cell? ⟨b, o + j * 29 + 2, none⟩ = some (.slice (some ⟨b2, o2, none⟩) y.next.length nc) ∧ z.cell? ⟨b2, o2 + k, none⟩ = some (.int .i64 t)) (by kernel_rfl) (by kernel_rfl) rfl (by intro c a d v w h; cases d <;> exact h) ?_
            have hs : wr.drew.cell? ⟨nb, 2, none⟩ = some v ∧ wr.drew.cell? ⟨w.heap.size, 5, none⟩ = some (.slice (some ⟨b, o, none⟩) g.length c) ∧ wr.drew.cell? ⟨b, o + j * 29 + 2, none⟩ = some (.slice (some ⟨b2, o2, none⟩) y.next.length nc) ∧ wr.drew.cell? ⟨b2, o2 + k, none⟩ = some (.int .i64 t) := ⟨d1, d2, d3, d4⟩
            have HBD := Lib.hid HBW.out.drew
            have HVD := Lib.hid (OwnSl.below HOV.out (Below.refl _ wr).drew)
            have HRD := Lib.hid (HRN.out.below (Below.refl _ wr).drew HNB.out)
            have HND : Hid (nb < wr.drew.heap.size) := Lib.hid HNB.out
            clear HBW HOV HRN HNB d1 d2 d3 d4
            generalize wr.drew = wd at *
            refine ord_load (some 39) (.pointer (some ⟨nb, 2, none⟩)) _ rfl rfl (by first | exact wanted_none rfl | exact wanted_if rfl rfl rfl rfl) hs (fun z hz => by go_simp) ?_
            go_frame
            refine ord_load (some 40) v _ rfl rfl (by first | exact wanted_none rfl | exact wanted_if rfl rfl rfl rfl) hs (fun z hz => by have dd := hz.1; go_simp) ?_
            go_frame
            refine ord_load (some 41) (.pointer (some ⟨w.heap.size, 5, none⟩)) _ rfl rfl (by first | exact wanted_none rfl | exact wanted_if rfl rfl rfl rfl) hs (fun z hz => by go_simp) ?_
            go_frame
            refine ord_load (some 42) (.slice (some ⟨b, o, none⟩) g.length c) _ rfl rfl (by first | exact wanted_none rfl | exact wanted_if rfl rfl rfl rfl) hs (fun z hz => by have dd := hz.2.1; go_simp) ?_
            go_frame
            refine ord_move (some 43) (.int .i64 j) _ _ rfl rfl rfl (by first | exact wanted_none rfl | exact wanted_if rfl rfl rfl rfl) hs rfl ?_
            go_frame
            refine ord_load (some 44) (.pointer (some ⟨b, o + j * 29, none⟩)) _ rfl rfl (by first | exact wanted_none rfl | exact wanted_if rfl rfl rfl rfl) hs (fun z hz => by go_simp) ?_
            go_frame
            refine ord_load (some 45) (.pointer (some ⟨b, o + j * 29 + 2, none⟩)) _ rfl rfl (by first | exact wanted_none rfl | exact wanted_if rfl rfl rfl rfl) hs (fun z hz => by go_simp) ?_
            go_frame
            refine ord_load (some 46) (.slice (some ⟨b2, o2, none⟩) y.next.length nc) _ rfl rfl (by first | exact wanted_none rfl | exact wanted_if rfl rfl rfl rfl) hs (fun z hz => by have dd := hz.2.2.1; go_simp) ?_
            go_frame
            refine ord_move (some 47) (.int .i64 k) _ _ rfl rfl rfl (by first | exact wanted_none rfl | exact wanted_if rfl rfl rfl rfl) hs rfl ?_
            go_frame
            refine ord_load (some 48) (.pointer (some ⟨b2, o2 + k, none⟩)) _ rfl rfl (by first | exact wanted_none rfl | exact wanted_if rfl rfl rfl rfl) hs (fun z hz => by go_simp) ?_
            go_frame
            refine ord_load (some 49) (.int .i64 t) _ rfl rfl (by first | exact wanted_none rfl | exact wanted_if rfl rfl rfl rfl) hs (fun z hz => by have dd := hz.2.2.2; go_simp) ?_
            go_frame
            have hbx := box_below wd (.cells ⟨encI t⟩ 3)
            have hs2 : (wd.alloc (.cells ⟨encI t⟩ 3)).cell? ⟨nb, 2, none⟩ = some v ∧ (wd.alloc (.cells ⟨encI t⟩ 3)).cell? ⟨w.heap.size, 5, none⟩ = some (.slice (some ⟨b, o, none⟩) g.length c) ∧ (wd.alloc (.cells ⟨encI t⟩ 3)).cell? ⟨b, o + j * 29 + 2, none⟩ = some (.slice (some ⟨b2, o2, none⟩) y.next.length nc) ∧ (wd.alloc (.cells ⟨encI t⟩ 3)).cell? ⟨b2, o2 + k, none⟩ = some (.int .i64 t) := ⟨(hbx.cell (p := ⟨nb, 2, none⟩) (World.block_lt_of_cell? wd _ hs.1)).trans hs.1, (hbx.cell (p := ⟨w.heap.size, 5, none⟩) (World.block_lt_of_cell? wd _ hs.2.1)).trans hs.2.1, (hbx.cell (p := ⟨b, o + j * 29 + 2, none⟩) (World.block_lt_of_cell? wd _ hs.2.2.1)).trans hs.2.2.1, (hbx.cell (p := ⟨b2, o2 + k, none⟩) (World.block_lt_of_cell? wd _ hs.2.2.2)).trans hs.2.2.2⟩
            have HVX := Lib.hid (OwnSl.below HVD.out hbx)
            have HRX := Lib.hid (HRD.out.below hbx HND.out)
            have HBX := Lib.hid (HBD.out.trans (hbx.mono (Nat.le_of_lt HND.out)))
            have HNX : Hid (nb + 1 ≤ (wd.alloc (.cells ⟨encI t⟩ 3)).heap.size) := Lib.hid (Nat.le_of_lt (Nat.lt_of_le_of_lt HND.out (box_size _ _)))
            refine ord_run (some 50) (.slice (some ⟨wd.heap.size, 0, none⟩) 1 1) (wd.alloc (.cells ⟨encI t⟩ 3)) _ rfl rfl (by first | exact wanted_none rfl | exact wanted_if rfl rfl rfl rfl) (by go_simp; rfl) hs2 ?_
            go_frame
            have hce := cells_box wd (encI t) 3
            clear hbx hs
            generalize (wd.alloc (.cells ⟨encI t⟩ 3)) = wx at *
            refine ord_push (some 51) _ _ _ 34 rfl rfl rfl (by first | exact wanted_none rfl | exact wanted_if rfl rfl rfl rfl) (nb + 1) 3 i0 (.int .i64 0) 1 8 encI Try.underlying34 HI0.out HZ0.out HZ1.out HZ2.out rfl (by decide) encI_len encI_one v LV rfl HVX.out wd.heap.size 1 t rfl hce HM1.out HM2.out HNX.out ?_
            intro v' wy hown hg hblk
            obtain ⟨s1, s2, s3, rfl⟩ := own_slice hown
            have hpb := push_below (Below.refl (nb + 1) wx) HNX.out HVX.out (Nat.le_refl _) hg
            have hs3 : wy.cell? ⟨nb, 2, none⟩ = some v ∧ wy.cell? ⟨w.heap.size, 5, none⟩ = some (.slice (some ⟨b, o, none⟩) g.length c) ∧ wy.cell? ⟨b, o + j * 29 + 2, none⟩ = some (.slice (some ⟨b2, o2, none⟩) y.next.length nc) ∧ wy.cell? ⟨b2, o2 + k, none⟩ = some (.int .i64 t) := ⟨(hpb.cell (p := ⟨nb, 2, none⟩) (Nat.lt_succ_self nb)).trans hs2.1, (hpb.cell (p := ⟨w.heap.size, 5, none⟩) (Nat.lt_succ_of_lt HLB.out.1)).trans hs2.2.1, (hpb.cell (p := ⟨b, o + j * 29 + 2, none⟩) (Nat.lt_succ_of_lt HLB.out.2.1)).trans hs2.2.2.1, (hpb.cell (p := ⟨b2, o2 + k, none⟩) (Nat.lt_succ_of_lt HLB.out.2.2)).trans hs2.2.2.2⟩
            refine ⟨hs3, ?_⟩
            go_frame
            refine ord_load (some 52) (.pointer (some ⟨nb, 2, none⟩)) _ rfl rfl (by first | exact wanted_none rfl | exact wanted_if rfl rfl rfl rfl) hs3 (fun z hz => by go_simp) ?_
            go_frame
            refine ord_tail ?_
            simp only [List.drop_succ_cons, List.drop_zero]
            have hry := HRX.out.below hpb (Nat.lt_succ_self nb)
            have ffz := hry.fz 2 (by omega)
            have dcz := hs3.1
            have HR9 : Hid (RowF (wy.setCell ⟨nb, 2, none⟩ (.slice s1 s2 s3)) nb 29 (fun i => if i = 2 then .slice s1 s2 s3 else nodeZ i)) := Lib.hid ((hry.set (i := 2) (by omega) (.slice s1 s2 s3)).congr fun i hi => by by_cases h : i = 2 <;> simp [h])
            have HO9 : Hid (OwnSl 3 1 encI (wy.setCell ⟨nb, 2, none⟩ (.slice s1 s2 s3)) (nb + 1) (.slice s1 s2 s3) (LV ++ [t])) := Lib.hid (own_put hown (Nat.lt_succ_self nb) _)
            have HB9 : Hid (Below nb w8 (wy.setCell ⟨nb, 2, none⟩ (.slice s1 s2 s3))) := Lib.hid (below_put (HBX.out.trans (hpb.mono (Nat.le_succ nb))) (Nat.le_refl nb) _)
            have HN9 : Hid (nb < (wy.setCell ⟨nb, 2, none⟩ (.slice s1 s2 s3)).heap.size) := Lib.hid (by rw [put_size]; exact Nat.lt_of_lt_of_le HNX.out hpb.size)
            clear hs2 hs3 hown hg hblk hpb hce hry HVD HRD HBD HND HVX HRX HBX HNX
            go_wp2
            clear ffz dcz
            generalize wy.setCell ⟨nb, 2, none⟩ (.slice s1 s2 s3) = W9 at *
            go_roundg q2
            case measure => omega
            case rel => exact ⟨k + 1, .slice s1 s2 s3, by omega, by go_num, HR9.out, by rw [HLK.out]; exact HO9.out, HB9.out, HN9.out⟩
end Go.Proofs.Ytedajbpjokmlaaa
