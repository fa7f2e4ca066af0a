/- model.Own of a model of edges alone. -/
import Derived.Test.YtlfefikhmdbbfaaGreatOwn1
namespace Go.Proofs.YtlfefikhmdbbfaaGreat
open Go Go.RowKit
set_option linter.unusedVariables false

def mF (v : Value) (i : Nat) : Value := (plainM v).getD i undef
theorem fun_of {α : Type} [Inhabited α] {n : Nat} {P : Nat → α → Prop} (h : ∀ i, i < n → ∃ v, P i v) : ∃ V : Nat → α, ∀ i, i < n → P i (V i) := by
  classical
  refine ⟨fun i => if h' : ∃ v, P i v then Classical.choose h' else default, fun i hi => ?_⟩
  dsimp only
  rw [dif_pos (h i hi)]
  exact Classical.choose_spec (h i hi)
def catL (L : List (List Int × Int)) (j : Nat) : Int := ((L[j]?).getD ([], 0)).2
def nodeF (V : Nat → Value) (cat : Nat → Int) (m : Nat) : Value := (encC (V (m / 29)) (cat (m / 29))).getD (m % 29) undef
theorem nodeF_at (V : Nat → Value) (cat : Nat → Int) (i r : Nat) (hr : r < 29) : nodeF V cat (i * 29 + r) = (encC (V i) (cat i)).getD r undef := by
  unfold nodeF
  rw [show (i * 29 + r) / 29 = i by omega, show (i * 29 + r) % 29 = r by omega]
theorem cells_nodeF {KL : List Cells29} {L : List (List Int × Int)} {V : Nat → Value} (hl : KL.length = L.length) (hV : ∀ i, i < L.length → ∀ k x, KL[i]? = some k → L[i]? = some x → k.1 = encC (V i) x.2) (m : Nat) (hm : m < L.length * 29) : cellsOf KL m = nodeF V (catL L) m := by
  have hmi : m / 29 < L.length := by omega
  obtain ⟨k, hk⟩ : ∃ k, KL[m / 29]? = some k := ⟨_, List.getElem?_eq_getElem (by omega)⟩
  obtain ⟨x, hx⟩ : ∃ x, L[m / 29]? = some x := ⟨_, List.getElem?_eq_getElem hmi⟩
  have h1 := hV (m / 29) hmi k x hk hx
  have h2 : m % 29 < k.1.length := by rw [k.2]; omega
  have h3 := flat29_at hk (List.getElem?_eq_getElem h2)
  rw [show m / 29 * 29 + m % 29 = m by omega] at h3
  have h4 : cellsOf KL m = k.1[m % 29] := by
    unfold cellsOf
    rw [List.getD_eq_getElem?_getD, h3]
    rfl
  have h5 : nodeF V (catL L) m = (encC (V (m / 29)) x.2).getD (m % 29) undef := by
    unfold nodeF catL
    rw [hx]
    rfl
  rw [h4, h5, ← h1, List.getD_eq_getElem?_getD, List.getElem?_eq_getElem h2]
  rfl
theorem encC_put (v v' : Value) (c : Int) (r : Nat) (h : r ≠ 2) : (encC v' c).getD r undef = (encC v c).getD r undef := by
  match r, h with
  | 0, _ => rfl
  | 1, _ => rfl
  | r + 3, _ => rfl
structure OwnInv (w u : World) (pa pb g : Nat) (v5 : Value) (L : List (List Int × Int)) (V : Nat → Value) : Prop where
  ra : RowF u pa 6 (mF v5)
  rb : RowF u pb 6 zM
  rg : RowF u g (L.length * 29) (nodeF V (catL L))
  ls : ∀ (j : Nat) x, L[j]? = some x → IntsG u g pb (V j) x.1
  bel : Below w.heap.size w u
  la : pa < u.heap.size
  lb : pb < u.heap.size
  lg : g < u.heap.size
section
variable {w u u' : World} {pa pb g : Nat} {v5 : Value} {L : List (List Int × Int)} {V : Nat → Value}
theorem OwnInv.below (h : OwnInv w u pa pb g v5 L V) (hb : Below u.heap.size u u') : OwnInv w u' pa pb g v5 L V :=
  ⟨h.ra.below hb h.la, h.rb.below hb h.lb, h.rg.below hb h.lg, fun j x hx => (h.ls j x hx).below hb, h.bel.trans (hb.mono h.bel.size), Nat.lt_of_lt_of_le h.la hb.size, Nat.lt_of_lt_of_le h.lb hb.size, Nat.lt_of_lt_of_le h.lg hb.size⟩
theorem OwnInv.next (h : OwnInv w u pa pb g v5 L V) (hg : pa < g ∧ pb < g ∧ w.heap.size ≤ g) {i : Nat} {x : List Int × Int} (hx : L[i]? = some x) {v' : Value} (hv : IntsG u g pb v' x.1) :
    OwnInv w (u.setCell ⟨g, i * 29 + 2, none⟩ v') pa pb g v5 L (fun j => if j = i then v' else V j) := by
  have hi := (List.getElem?_eq_some_iff.1 hx).1
  refine ⟨h.ra.apart (by omega) _, h.rb.apart (by omega) _, (h.rg.set (i := i * 29 + 2) (by omega) v').congr fun m hm => ?_, fun j y hy => ?_, below_put h.bel hg.2.2 _, by rw [put_size0]; exact h.la, by rw [put_size0]; exact h.lb, by rw [put_size0]; exact h.lg⟩
  · by_cases e : m = i * 29 + 2
    · rw [if_pos e, e, nodeF_at _ _ _ _ (by omega), if_pos rfl]
      rfl
    · rw [if_neg e]
      unfold nodeF
      dsimp only
      by_cases e2 : m / 29 = i
      · rw [if_pos e2]
        exact (encC_put (V (m / 29)) v' _ (m % 29) (by omega)).symm
      · rw [if_neg e2]
  · by_cases e : j = i
    · subst e
      rw [if_pos rfl]
      rw [hx] at hy
      injection hy with hy
      rw [← hy]; exact hv.put _ _
    · rw [if_neg e]; exact (h.ls j y hy).put _ _
theorem OwnInv.sets (h : OwnInv w u pa pb g v5 L V) (hg : pa < g ∧ pb < g ∧ w.heap.size ≤ g) (cs : List Value) (k : Nat) (hc : ∀ i u, cs[i]? = some u → k + i < L.length * 29 ∧ nodeF V (catL L) (k + i) = u) : OwnInv w (u.setCells g k cs) pa pb g v5 L V :=
  ⟨h.ra.keep (heap_sets0 g pa (by omega) cs u k), h.rb.keep (heap_sets0 g pb (by omega) cs u k), rowF_sets (w := u) cs u k h.rg hc, fun j x hx => (h.ls j x hx).sets cs k, below_sets h.bel hg.2.2 cs k, by rw [size_sets]; exact h.la, by rw [size_sets]; exact h.lb, by rw [size_sets]; exact h.lg⟩
end

section
variable {w u u' : World} {pa pb g : Nat} {v5 : Value} {L : List (List Int × Int)} {V : Nat → Value}
theorem encC_X (v : Value) (c : Int) (k r : Nat) (hk : k = 4 ∨ k = 14) (hr : r < 10) : (encC v c).getD (k + r) undef = encX.getD r undef := by
  have h : r = 0 ∨ r = 1 ∨ r = 2 ∨ r = 3 ∨ r = 4 ∨ r = 5 ∨ r = 6 ∨ r = 7 ∨ r = 8 ∨ r = 9 := by omega
  rcases hk with rfl | rfl
  · rcases h with rfl | rfl | rfl | rfl | rfl | rfl | rfl | rfl | rfl | rfl <;> rfl
  · rcases h with rfl | rfl | rfl | rfl | rfl | rfl | rfl | rfl | rfl | rfl <;> rfl
theorem OwnInv.cell (h : OwnInv w u pa pb g v5 L V) {i : Nat} (hi : i < L.length) (r : Nat) (hr : r < 29) : u.cell? ⟨g, i * 29 + r, none⟩ = some ((encC (V i) (catL L i)).getD r undef) := by
  rw [h.rg.c (i * 29 + r) (by omega), nodeF_at _ _ _ _ hr]
theorem OwnInv.fz (h : OwnInv w u pa pb g v5 L V) {i : Nat} (hi : i < L.length) (r : Nat) (hr : r < 29) : u.frozen? ⟨g, i * 29 + r, none⟩ = false := h.rg.fz (i * 29 + r) (by omega)
theorem OwnInv.rangeX (h : OwnInv w u pa pb g v5 L V) {i : Nat} (hi : i < L.length) (k : Nat) (hk : k = 4 ∨ k = 14) : u.rangeAt g (i * 29 + k) encX := fun r x hx => by
  have hr : r < 10 := (List.getElem?_eq_some_iff.1 hx).1
  rw [Nat.add_assoc, h.cell hi (k + r) (by omega), encC_X _ _ k r hk hr, List.getD_eq_getElem?_getD, hx]
  rfl
theorem OwnInv.thereX (h : OwnInv w u pa pb g v5 L V) {i : Nat} (hi : i < L.length) (k : Nat) (hk : k = 4 ∨ k = 14) : u.there g (i * 29 + k) encX.length := fun r hr' => by
  have hr : r < 10 := hr'
  rw [Nat.add_assoc, h.cell hi (k + r) (by omega), h.fz hi (k + r) (by omega)]
  exact ⟨rfl, rfl⟩
theorem OwnInv.setX (h : OwnInv w u pa pb g v5 L V) (hg : pa < g ∧ pb < g ∧ w.heap.size ≤ g) {i : Nat} (hi : i < L.length) (k : Nat) (hk : k = 4 ∨ k = 14) : OwnInv w (u.setCells g (i * 29 + k) encX) pa pb g v5 L V :=
  h.sets hg encX (i * 29 + k) fun r x hx => by
    have hr : r < 10 := (List.getElem?_eq_some_iff.1 hx).1
    refine ⟨by omega, ?_⟩
    rw [Nat.add_assoc, nodeF_at _ _ _ _ (by omega), encC_X _ _ k r hk hr, List.getD_eq_getElem?_getD, hx]
    rfl
end

theorem plainM_ones {A : Option Addr} {n c : Nat} : ∀ u ∈ plainM (.slice A n c), u.oneCell' = true := by
  intro u hu
  simp only [plainM, List.mem_cons, List.not_mem_nil, or_false] at hu
  rcases hu with rfl | rfl | rfl | rfl | rfl | rfl <;> rfl
theorem OwnInv.done {w u : World} {pa pb g c : Nat} {L : List (List Int × Int)} {V : Nat → Value} {v5 : Value} (h : OwnInv w u pa pb g v5 L V) (hg : pb < g ∧ w.heap.size ≤ pb) (hL : L.length ≤ 100) (hl : ∀ x ∈ L, x.1.length ≤ 10000) (cs : List Value) : PlainAt (u.setCells pb 0 cs) (.slice (some ⟨g, 0, none⟩) L.length c) L := by
  refine ⟨by omega, _, _, rfl, fun _ => ⟨g, 0, rfl, by rw [size_sets]; exact h.lg, fun i x hx => ?_⟩⟩
  have hi := (List.getElem?_eq_some_iff.1 hx).1
  have hcat : catL L i = x.2 := by unfold catL; rw [hx]; rfl
  refine ⟨encC (V i) x.2, rfl, fun r y hy => ?_, V i, rfl, ?_⟩
  · have hr : r < 29 := (List.getElem?_eq_some_iff.1 hy).1
    refine (World.cell?_of_block (a := ⟨g, 0 + i * 29 + r, none⟩) (heap_sets0 pb g (by omega) cs u 0)).trans ?_
    rw [Nat.zero_add, h.cell hi r hr, hcat, List.getD_eq_getElem?_getD, hy]
    rfl
  · have h1 := h.ls i x hx
    obtain ⟨A, c', hv, h2⟩ := h1
    have h3 : IntsG (u.setCells pb 0 cs) g pb (V i) x.1 := ⟨A, c', hv, fun h0 => by
      obtain ⟨b, o, h4, h5, h6, h7⟩ := h2 h0
      exact ⟨b, o, h4, by rw [size_sets]; exact h5, h6, fun j y hy => (World.cell?_of_block (a := ⟨b, o + j, none⟩) (heap_sets0 pb b h6.2 cs u 0)).trans (h7 j y hy)⟩⟩
    exact h3.vals (hl x (List.mem_of_getElem? hx))

set_option maxHeartbeats 4000000 in
set_option maxRecDepth 100000 in
theorem own_plain (v : Value) (L : List (List Int × Int)) (w : World) (h : PlainAt w v L) (hL : L.length ≤ 100) (h0 : 0 < L.length) (hl : ∀ x ∈ L, x.1.length ≤ 10000) :
    Calls Tryz.prog 9 #[.agg ⟨plainM v⟩] w fun e w' => ∃ v', e = .returned (.agg ⟨plainM v'⟩) ∧ PlainAt w' v' L ∧ Below w.heap.size w w' := by
  obtain ⟨KL, Av, cv, hkl, hv, hpr, hrg⟩ := h.cells
  obtain ⟨bv, ov, hbv, hlv, hrr⟩ := hrg h0
  have HKL := Lib.hid hkl
  have HLL := Lib.hid hl
  have hones : ∀ k ∈ KL, ∀ u ∈ k.1, u.oneCell' = true := fun k hk u hu => by
    obtain ⟨i, hi⟩ := List.mem_iff_getElem?.1 hk
    have := (List.getElem?_eq_some_iff.1 hi).1
    obtain ⟨v1, h1, _, A', c', h2, _⟩ := hpr i k _ hi (List.getElem?_eq_getElem (by omega))
    rw [h1, h2] at hu
    exact encC_ones u hu
  have HCC : Hid (∀ z, Below w.heap.size w z → Calls Tryz.prog 39 #[v] z fun e w' => ∃ v' : Value, e = .returned v' ∧ OwnSl 42 29 (fun k : Cells29 => k.1) w' z.heap.size v' KL ∧ Below z.heap.size z w') := Lib.hid fun z hz => by
    rw [hv, hbv]
    exact clone_cells KL bv ov cv L.length z hkl hL (fun i k hk => rangeAt_below (hrr i k hk) hz hlv) (Nat.lt_of_lt_of_le hlv hz.size) hones
  have HVX : Hid (∃ V : Nat → Value, ∀ i, i < L.length → ∀ k x, KL[i]? = some k → L[i]? = some x → k.1 = encC (V i) x.2 ∧ SlAt w w.heap.size 1 (Enc encI) (V i) x.1) := Lib.hid (fun_of (n := L.length) (P := fun i vv => ∀ k x, KL[i]? = some k → L[i]? = some x → k.1 = encC vv x.2 ∧ SlAt w w.heap.size 1 (Enc encI) vv x.1) fun i hi => by
    obtain ⟨v1, h1, h2⟩ := hpr i _ _ (List.getElem?_eq_getElem (by omega)) (List.getElem?_eq_getElem hi)
    refine ⟨v1, fun k x hk hx => ?_⟩
    rw [List.getElem?_eq_getElem (by omega)] at hk
    rw [List.getElem?_eq_getElem hi] at hx
    injection hk with hk
    injection hx with hx
    rw [← hk, ← hx]
    exact ⟨h1, h2⟩)
  have HSV : Hid (∃ A c, v = .slice A L.length c) := Lib.hid ⟨_, _, hv⟩
  clear hkl hpr hrg hrr hones hl h hv hbv hlv
  have HA := Lib.hid (row_lit w (plainM v) 27)
  have HB1 := Lib.hid (box_below w (.cells ⟨plainM v⟩ 27))
  have HS1 := Lib.hid (box_size w (.cells ⟨plainM v⟩ 27))
  have HSE : Hid ((w.alloc (.cells ⟨plainM v⟩ 27)).heap.size = w.heap.size + 1) := Lib.hid (by simp)
  go_enter Tryz.func9, Tryz.ntmps9
  go_upto_region 1 with (fail)
  generalize w.alloc (.cells ⟨plainM v⟩ 27) = W1 at *
  have HB := Lib.hid (row_zM W1)
  have HB2 := Lib.hid (box_below W1 (.cells #[.int .i64 0, .slice none 0 0, .slice none 0 0, .slice none 0 0, .slice none 0 0, .slice none 0 0] 27))
  have HS2 := Lib.hid (box_size W1 (.cells #[.int .i64 0, .slice none 0 0, .slice none 0 0, .slice none 0 0, .slice none 0 0, .slice none 0 0] 27))
  generalize W1.alloc (.cells #[.int .i64 0, .slice none 0 0, .slice none 0 0, .slice none 0 0, .slice none 0 0, .slice none 0 0] 27) = W at *
  have HRA0 : Hid (RowF W w.heap.size 6 (mF v)) := Lib.hid (HA.out.below HB2.out HS1.out)
  have HBW := Lib.hid (HB1.out.trans (HB2.out.mono HB1.out.size))
  have HLA0 : Hid (w.heap.size < W.heap.size) := Lib.hid (Nat.lt_of_lt_of_le HS1.out HB2.out.size)
  rw [HSE.out] at HB HS2
  obtain ⟨pb, hpb⟩ : ∃ pb, w.heap.size + 1 = pb := ⟨_, rfl⟩
  obtain ⟨pa, hpa⟩ : ∃ pa, w.heap.size = pa := ⟨_, rfl⟩
  have HNE : Hid (pa ≠ pb ∧ w.heap.size ≤ pa ∧ w.heap.size ≤ pb) := Lib.hid (by omega)
  rw [hpb] at HB HS2
  have HLA : Hid (pa < W.heap.size) := Lib.hid (hpa ▸ HLA0.out)
  have HRA : Hid (RowF W pa 6 (mF v)) := Lib.hid (hpa ▸ HRA0.out)
  rw [hpb, hpa]
  have HRB : Hid (RowF W pb 6 zM) := HB
  clear HA HB1 HS1 HSE HB2 hpb HB hpa HRA0 HLA0
  refine wp_region_ord [(0, true), (1, true), (3, true), (4, true), (2, false), (6, true), (5, false), (7, false), (8, true), (9, false)]
    (fun z => RowF z pa 6 (mF v) ∧ RowF z pb 6 zM ∧ Below w.heap.size w z ∧ pa < z.heap.size ∧ pb < z.heap.size) (by kernel_rfl) (by kernel_rfl) (by kernel_rfl) rfl (by intro c a d v w h; cases d <;> exact h) ?_
  have hs : RowF W.drew pa 6 (mF v) ∧ RowF W.drew pb 6 zM ∧ Below w.heap.size w W.drew ∧ pa < W.drew.heap.size ∧ pb < W.drew.heap.size := ⟨HRA.out.keep rfl, HRB.out.keep rfl, HBW.out.drew, HLA.out, HS2.out⟩
  refine ord_load (some 10) (.pointer (some ⟨pa, 1, none⟩)) _ rfl rfl (by first | exact wanted_none rfl | exact wanted_if rfl rfl rfl rfl) hs (fun z hz => by go_simp) ?_
  go_frame
  refine ord_load (some 11) (.slice none 0 0) _ rfl rfl (by first | exact wanted_none rfl | exact wanted_if rfl rfl rfl rfl) hs (fun z hz => by have dd : z.cell? ⟨pa, 1, none⟩ = some (.slice none 0 0) := hz.1.c 1 (by omega); go_simp) ?_
  go_frame
  refine ord_load (some 13) (.pointer (some ⟨pa, 2, none⟩)) _ rfl rfl (by first | exact wanted_none rfl | exact wanted_if rfl rfl rfl rfl) hs (fun z hz => by go_simp) ?_
  go_frame
  refine ord_load (some 14) (.slice none 0 0) _ rfl rfl (by first | exact wanted_none rfl | exact wanted_if rfl rfl rfl rfl) hs (fun z hz => by have dd : z.cell? ⟨pa, 2, none⟩ = some (.slice none 0 0) := hz.1.c 2 (by omega); go_simp) ?_
  go_frame
  refine ord_to (some 12) 36 Tryz.func36 (by kernel_rfl) (by kernel_rfl) [.slice none 0 0] _ _ _ rfl rfl rfl (by first | exact wanted_none rfl | exact wanted_if rfl rfl rfl rfl) rfl ?_
  refine (clp_nil _).mono ?_
  rintro e z1 ⟨rfl, rfl⟩
  refine ⟨(.slice none 0 0), rfl, hs, ?_⟩
  go_frame
  refine ord_load (some 16) (.pointer (some ⟨pa, 1, none⟩)) _ rfl rfl (by first | exact wanted_none rfl | exact wanted_if rfl rfl rfl rfl) hs (fun z hz => by go_simp) ?_
  go_frame
  refine ord_to (some 15) 36 Tryz.func36 (by kernel_rfl) (by kernel_rfl) [.slice none 0 0] _ _ _ rfl rfl rfl (by first | exact wanted_none rfl | exact wanted_if rfl rfl rfl rfl) rfl ?_
  refine (clp_nil _).mono ?_
  rintro e z2 ⟨rfl, rfl⟩
  refine ⟨(.slice none 0 0), rfl, hs, ?_⟩
  go_frame
  obtain ⟨z2, hz2⟩ : ∃ z2, W.drew = z2 := ⟨_, rfl⟩
  rw [hz2] at hs
  rw [hz2]
  clear hz2
  have hs2 : RowF (z2.setCell ⟨pa, 1, none⟩ (.slice none 0 0)) pa 6 (mF v) ∧ RowF (z2.setCell ⟨pa, 1, none⟩ (.slice none 0 0)) pb 6 zM ∧ Below w.heap.size w (z2.setCell ⟨pa, 1, none⟩ (.slice none 0 0)) ∧ pa < (z2.setCell ⟨pa, 1, none⟩ (.slice none 0 0)).heap.size ∧ pb < (z2.setCell ⟨pa, 1, none⟩ (.slice none 0 0)).heap.size := ⟨hs.1.same (by omega) rfl, hs.2.1.apart (Ne.symm HNE.out.1) _, below_put hs.2.2.1 HNE.out.2.1 _, by rw [put_size0]; exact hs.2.2.2.1, by rw [put_size0]; exact hs.2.2.2.2⟩
  have dst : z2.cell? ⟨pa, 1, none⟩ = some (.slice none 0 0) := hs.1.c 1 (by omega)
  have fst := hs.1.fz 1 (by omega)
  refine ord_skipw none (z2.setCell ⟨pa, 1, none⟩ (.slice none 0 0)) _ rfl rfl (by first | exact wanted_none rfl | exact wanted_if rfl rfl rfl rfl) (by go_simp) hs2 ?_
  go_frame
  clear dst fst
  refine ord_load (some 17) (.pointer (some ⟨pa, 2, none⟩)) _ rfl rfl (by first | exact wanted_none rfl | exact wanted_if rfl rfl rfl rfl) hs2 (fun z hz => by go_simp) ?_
  go_frame
  have hs3 : RowF ((z2.setCell ⟨pa, 1, none⟩ (.slice none 0 0)).setCell ⟨pa, 2, none⟩ (.slice none 0 0)) pa 6 (mF v) ∧ RowF ((z2.setCell ⟨pa, 1, none⟩ (.slice none 0 0)).setCell ⟨pa, 2, none⟩ (.slice none 0 0)) pb 6 zM ∧ Below w.heap.size w ((z2.setCell ⟨pa, 1, none⟩ (.slice none 0 0)).setCell ⟨pa, 2, none⟩ (.slice none 0 0)) ∧ pa < ((z2.setCell ⟨pa, 1, none⟩ (.slice none 0 0)).setCell ⟨pa, 2, none⟩ (.slice none 0 0)).heap.size ∧ pb < ((z2.setCell ⟨pa, 1, none⟩ (.slice none 0 0)).setCell ⟨pa, 2, none⟩ (.slice none 0 0)).heap.size := ⟨hs2.1.same (by omega) rfl, hs2.2.1.apart (Ne.symm HNE.out.1) _, below_put hs2.2.2.1 HNE.out.2.1 _, by rw [put_size0]; exact hs2.2.2.2.1, by rw [put_size0]; exact hs2.2.2.2.2⟩
  have dst : (z2.setCell ⟨pa, 1, none⟩ (.slice none 0 0)).cell? ⟨pa, 2, none⟩ = some (.slice none 0 0) := hs2.1.c 2 (by omega)
  have fst := hs2.1.fz 2 (by omega)
  refine ord_skipw none ((z2.setCell ⟨pa, 1, none⟩ (.slice none 0 0)).setCell ⟨pa, 2, none⟩ (.slice none 0 0)) _ rfl rfl (by first | exact wanted_none rfl | exact wanted_if rfl rfl rfl rfl) (by go_simp) hs3 ?_
  go_frame
  clear dst fst
  refine ord_end ?_
  have HRA3 := Lib.hid hs3.1
  have HRB3 := Lib.hid hs3.2.1
  have HBW3 := Lib.hid hs3.2.2.1
  have HLA3 := Lib.hid hs3.2.2.2.1
  have HLB3 := Lib.hid hs3.2.2.2.2
  clear hs hs2 hs3 HRA HRB HBW HLA HS2
  generalize ((z2.setCell ⟨pa, 1, none⟩ (.slice none 0 0)).setCell ⟨pa, 2, none⟩ (.slice none 0 0)) = W3 at *
  go_upto_region 2 with (fail)
  refine wp_region_ord_tail 14 [(0, true), (1, true), (3, true), (4, true), (6, true), (7, true), (2, false), (9, true), (5, false), (8, false), (10, false), (11, true), (12, false), (13, true)]
    (fun z => RowF z pa 6 (mF v) ∧ RowF z pb 6 zM ∧ Below w.heap.size w z ∧ pa < z.heap.size ∧ pb < z.heap.size) (by kernel_rfl) (by kernel_rfl) rfl (by intro c a d v w h; cases d <;> exact h) ?_
  have hs : RowF W3.drew pa 6 (mF v) ∧ RowF W3.drew pb 6 zM ∧ Below w.heap.size w W3.drew ∧ pa < W3.drew.heap.size ∧ pb < W3.drew.heap.size := ⟨HRA3.out.keep rfl, HRB3.out.keep rfl, HBW3.out.drew, HLA3.out, HLB3.out⟩
  refine ord_load (some 18) (.pointer (some ⟨pa, 3, none⟩)) _ rfl rfl (by first | exact wanted_none rfl | exact wanted_if rfl rfl rfl rfl) hs (fun z hz => by go_simp) ?_
  go_frame
  refine ord_load (some 19) (.slice none 0 0) _ rfl rfl (by first | exact wanted_none rfl | exact wanted_if rfl rfl rfl rfl) hs (fun z hz => by have dd : z.cell? ⟨pa, 3, none⟩ = some (.slice none 0 0) := hz.1.c 3 (by omega); go_simp) ?_
  go_frame
  refine ord_load (some 21) (.pointer (some ⟨pa, 4, none⟩)) _ rfl rfl (by first | exact wanted_none rfl | exact wanted_if rfl rfl rfl rfl) hs (fun z hz => by go_simp) ?_
  go_frame
  refine ord_load (some 22) (.slice none 0 0) _ rfl rfl (by first | exact wanted_none rfl | exact wanted_if rfl rfl rfl rfl) hs (fun z hz => by have dd : z.cell? ⟨pa, 4, none⟩ = some (.slice none 0 0) := hz.1.c 4 (by omega); go_simp) ?_
  go_frame
  refine ord_load (some 24) (.pointer (some ⟨pa, 5, none⟩)) _ rfl rfl (by first | exact wanted_none rfl | exact wanted_if rfl rfl rfl rfl) hs (fun z hz => by go_simp) ?_
  go_frame
  refine ord_load (some 25) v _ rfl rfl (by first | exact wanted_none rfl | exact wanted_if rfl rfl rfl rfl) hs (fun z hz => by have dd : z.cell? ⟨pa, 5, none⟩ = some v := hz.1.c 5 (by omega); go_simp) ?_
  go_frame
  refine ord_to (some 20) 37 Tryz.func37 (by kernel_rfl) (by kernel_rfl) [.slice none 0 0] _ _ _ rfl rfl rfl (by first | exact wanted_none rfl | exact wanted_if rfl rfl rfl rfl) rfl ?_
  refine (clv_nil _).mono ?_
  rintro e z1 ⟨rfl, rfl⟩
  refine ⟨(.slice none 0 0), rfl, hs, ?_⟩
  go_frame
  refine ord_load (some 27) (.pointer (some ⟨pa, 3, none⟩)) _ rfl rfl (by first | exact wanted_none rfl | exact wanted_if rfl rfl rfl rfl) hs (fun z hz => by go_simp) ?_
  go_frame
  refine ord_to (some 23) 38 Tryz.func38 (by kernel_rfl) (by kernel_rfl) [.slice none 0 0] _ _ _ rfl rfl rfl (by first | exact wanted_none rfl | exact wanted_if rfl rfl rfl rfl) rfl ?_
  refine (clm_nil _).mono ?_
  rintro e z1 ⟨rfl, rfl⟩
  refine ⟨(.slice none 0 0), rfl, hs, ?_⟩
  go_frame
  refine ord_to (some 26) 39 Tryz.func39 (by kernel_rfl) (by kernel_rfl) [v] _ _ _ rfl rfl rfl (by first | exact wanted_none rfl | exact wanted_if rfl rfl rfl rfl) rfl ?_
  refine (HCC.out _ hs.2.2.1).mono ?_
  rintro e z3 ⟨v', rfl, hown, hb3⟩
  obtain ⟨g, cg, hvg, hgb, hgl, hrow⟩ := own_rowF hown (by have := HKL.out; omega)
  rw [HKL.out] at hvg hrow
  subst hvg
  have hs1 : RowF z3 pa 6 (mF v) ∧ RowF z3 pb 6 zM ∧ Below w.heap.size w z3 ∧ pa < z3.heap.size ∧ pb < z3.heap.size := ⟨hs.1.below hb3 hs.2.2.2.1, hs.2.1.below hb3 hs.2.2.2.2, hs.2.2.1.trans (hb3.mono hs.2.2.1.size), Nat.lt_of_lt_of_le hs.2.2.2.1 hb3.size, Nat.lt_of_lt_of_le hs.2.2.2.2 hb3.size⟩
  have HROW := Lib.hid hrow
  have HGL := Lib.hid hgl
  have HGB : Hid (pa < g ∧ pb < g ∧ w.heap.size ≤ g) := Lib.hid (by have h1 := hs.2.2.2.1; have h2 := hs.2.2.2.2; have h3 := hs.2.2.1.size; omega)
  clear hown hgb hrow hgl
  refine ⟨_, rfl, hs1, ?_⟩
  go_frame
  have hs2 : RowF (z3.setCell ⟨pa, 3, none⟩ (.slice none 0 0)) pa 6 (mF v) ∧ RowF (z3.setCell ⟨pa, 3, none⟩ (.slice none 0 0)) pb 6 zM ∧ Below w.heap.size w (z3.setCell ⟨pa, 3, none⟩ (.slice none 0 0)) ∧ pa < (z3.setCell ⟨pa, 3, none⟩ (.slice none 0 0)).heap.size ∧ pb < (z3.setCell ⟨pa, 3, none⟩ (.slice none 0 0)).heap.size := ⟨hs1.1.same (by omega) rfl, hs1.2.1.apart (Ne.symm HNE.out.1) _, below_put hs1.2.2.1 HNE.out.2.1 _, by rw [put_size0]; exact hs1.2.2.2.1, by rw [put_size0]; exact hs1.2.2.2.2⟩
  have dst : z3.cell? ⟨pa, 3, none⟩ = some (.slice none 0 0) := hs1.1.c 3 (by omega)
  have fst := hs1.1.fz 3 (by omega)
  refine ord_skipw none (z3.setCell ⟨pa, 3, none⟩ (.slice none 0 0)) _ rfl rfl (by first | exact wanted_none rfl | exact wanted_if rfl rfl rfl rfl) (by go_simp) hs2 ?_
  go_frame
  clear dst fst
  refine ord_load (some 28) (.pointer (some ⟨pa, 4, none⟩)) _ rfl rfl (by first | exact wanted_none rfl | exact wanted_if rfl rfl rfl rfl) hs2 (fun z hz => by go_simp) ?_
  go_frame
  have hs3 : RowF ((z3.setCell ⟨pa, 3, none⟩ (.slice none 0 0)).setCell ⟨pa, 4, none⟩ (.slice none 0 0)) pa 6 (mF v) ∧ RowF ((z3.setCell ⟨pa, 3, none⟩ (.slice none 0 0)).setCell ⟨pa, 4, none⟩ (.slice none 0 0)) pb 6 zM ∧ Below w.heap.size w ((z3.setCell ⟨pa, 3, none⟩ (.slice none 0 0)).setCell ⟨pa, 4, none⟩ (.slice none 0 0)) ∧ pa < ((z3.setCell ⟨pa, 3, none⟩ (.slice none 0 0)).setCell ⟨pa, 4, none⟩ (.slice none 0 0)).heap.size ∧ pb < ((z3.setCell ⟨pa, 3, none⟩ (.slice none 0 0)).setCell ⟨pa, 4, none⟩ (.slice none 0 0)).heap.size := ⟨hs2.1.same (by omega) rfl, hs2.2.1.apart (Ne.symm HNE.out.1) _, below_put hs2.2.2.1 HNE.out.2.1 _, by rw [put_size0]; exact hs2.2.2.2.1, by rw [put_size0]; exact hs2.2.2.2.2⟩
  have dst : (z3.setCell ⟨pa, 3, none⟩ (.slice none 0 0)).cell? ⟨pa, 4, none⟩ = some (.slice none 0 0) := hs2.1.c 4 (by omega)
  have fst := hs2.1.fz 4 (by omega)
  refine ord_skipw none ((z3.setCell ⟨pa, 3, none⟩ (.slice none 0 0)).setCell ⟨pa, 4, none⟩ (.slice none 0 0)) _ rfl rfl (by first | exact wanted_none rfl | exact wanted_if rfl rfl rfl rfl) (by go_simp) hs3 ?_
  go_frame
  clear dst fst
  refine ord_load (some 29) (.pointer (some ⟨pa, 5, none⟩)) _ rfl rfl (by first | exact wanted_none rfl | exact wanted_if rfl rfl rfl rfl) hs3 (fun z hz => by go_simp) ?_
  go_frame
  refine ord_tail ?_
  simp only [List.drop_succ_cons, List.drop_zero]
  have d5 := hs3.1.c 5 (by omega)
  have f5 := hs3.1.fz 5 (by omega)
  have HRA4 : Hid (RowF (((z3.setCell ⟨pa, 3, none⟩ (.slice none 0 0)).setCell ⟨pa, 4, none⟩ (.slice none 0 0)).setCell ⟨pa, 5, none⟩ (.slice (some ⟨g, 0, none⟩) L.length cg)) pa 6 (mF (.slice (some ⟨g, 0, none⟩) L.length cg))) := Lib.hid ((hs3.1.set (i := 5) (by omega) (.slice (some ⟨g, 0, none⟩) L.length cg)).congr fun i hi => by
    have : i = 0 ∨ i = 1 ∨ i = 2 ∨ i = 3 ∨ i = 4 ∨ i = 5 := by omega
    rcases this with rfl | rfl | rfl | rfl | rfl | rfl <;> rfl)
  have HRB4 := Lib.hid (hs3.2.1.apart (Ne.symm HNE.out.1) (b := pa) (i := 5) (.slice (some ⟨g, 0, none⟩) L.length cg))
  have HBW4 := Lib.hid (below_put (i := 5) hs3.2.2.1 HNE.out.2.1 (.slice (some ⟨g, 0, none⟩) L.length cg))
  have HRW4 := Lib.hid (((HROW.out.apart (Ne.symm (Nat.ne_of_lt HGB.out.1)) (b := pa) (i := 3) (.slice none 0 0)).apart (Ne.symm (Nat.ne_of_lt HGB.out.1)) (b := pa) (i := 4) (.slice none 0 0)).apart (Ne.symm (Nat.ne_of_lt HGB.out.1)) (b := pa) (i := 5) (.slice (some ⟨g, 0, none⟩) L.length cg))
  have HG4a : Hid (pa < (((z3.setCell ⟨pa, 3, none⟩ (.slice none 0 0)).setCell ⟨pa, 4, none⟩ (.slice none 0 0)).setCell ⟨pa, 5, none⟩ (.slice (some ⟨g, 0, none⟩) L.length cg)).heap.size) := Lib.hid (by rw [put_size0]; exact hs3.2.2.2.1)
  have HG4b : Hid (pb < (((z3.setCell ⟨pa, 3, none⟩ (.slice none 0 0)).setCell ⟨pa, 4, none⟩ (.slice none 0 0)).setCell ⟨pa, 5, none⟩ (.slice (some ⟨g, 0, none⟩) L.length cg)).heap.size) := Lib.hid (by rw [put_size0]; exact hs3.2.2.2.2)
  have HG4 : Hid (g < (((z3.setCell ⟨pa, 3, none⟩ (.slice none 0 0)).setCell ⟨pa, 4, none⟩ (.slice none 0 0)).setCell ⟨pa, 5, none⟩ (.slice (some ⟨g, 0, none⟩) L.length cg)).heap.size) := Lib.hid (by rw [put_size0, put_size0, put_size0]; exact HGL.out)
  clear hs hs1 hs2 hs3
  go_upto_region 3 with (fail)
  clear d5 f5 HRA3 HRB3 HBW3 HLA3 HLB3
  generalize ((z3.setCell ⟨pa, 3, none⟩ (.slice none 0 0)).setCell ⟨pa, 4, none⟩ (.slice none 0 0)).setCell ⟨pa, 5, none⟩ (.slice (some ⟨g, 0, none⟩) L.length cg) = W5 at *
  have d3 : W5.cell? ⟨pa, 3, none⟩ = some (.slice none 0 0) := HRA4.out.c 3 (by omega)
  have d4 : W5.cell? ⟨pa, 4, none⟩ = some (.slice none 0 0) := HRA4.out.c 4 (by omega)
  have d5 : W5.cell? ⟨pa, 5, none⟩ = some (.slice (some ⟨g, 0, none⟩) L.length cg) := HRA4.out.c 5 (by omega)
  have hn2 : (L.length : Int) ≤ 100 := by omega
  go_wp2
  go_loopg [33] 0 (fun q x u => q = 0 ∧ x = .int .i64 0 ∧ u = W5)
  case atStart => exact ⟨rfl, rfl, rfl⟩
  case round =>
    obtain ⟨rfl, rfl, hu⟩ := hrel
    have hu2 := hu.symm
    subst hu2
    go_wp2
    go_loopg [60] 0 (fun q x u => q = 0 ∧ x = .int .i64 0 ∧ u = W5)
    case atStart => exact ⟨rfl, rfl, rfl⟩
    case round =>
      obtain ⟨rfl, rfl, hu⟩ := hrel
      have hu2 := hu.symm
      subst hu2
      go_wp2
      clear d3 d4 d5
      obtain ⟨V0, hV0⟩ := HVX.out
      have HI0 : Hid (OwnInv w W5 pa pb g (.slice (some ⟨g, 0, none⟩) L.length cg) L V0) := Lib.hid ⟨HRA4.out, HRB4.out, HRW4.out.congr (fun m hm => cells_nodeF HKL.out (fun i hi k x hk hx => (hV0 i hi k x hk hx).1) m hm), fun j x hx => by
          have hj := (List.getElem?_eq_some_iff.1 hx).1
          have h1 := (hV0 j hj _ x (List.getElem?_eq_getElem (by have := HKL.out; omega)) hx).2
          exact IntsV.outside (SlAt.below h1 HBW4.out fun _ _ _ h => h) HGB.out.2.2 HNE.out.2.2 HBW4.out.size, HBW4.out, HG4a.out, HG4b.out, HG4.out⟩
      clear hV0 HRA4 HRB4 HRW4 HBW4 HG4 HVX
      go_loopg [87] L.length (fun q x u => ∃ (i : Nat) (V : Nat → Value), i + q = L.length ∧ x = .int .i64 i ∧ OwnInv w u pa pb g (.slice (some ⟨g, 0, none⟩) L.length cg) L V)
      case atStart => exact ⟨0, V0, by omega, rfl, HI0.out⟩
      case round =>
        obtain ⟨i, V, hi, rfl, hinv⟩ := hrel
        clear HI0
        have HI := Lib.hid hinv
        clear hinv
        have d5 : wr.cell? ⟨pa, 5, none⟩ = some (.slice (some ⟨g, 0, none⟩) L.length cg) := HI.out.ra.c 5 (by omega)
        cases gk with
        | zero =>
          obtain rfl : i = L.length := by omega
          have hge : ¬ ((L.length : Int) < (L.length : Int)) := by omega
          clear d5
          have HRG := Lib.hid (rowF_range HI.out.ra (cs := plainM (.slice (some ⟨g, 0, none⟩) L.length cg)) rfl (fun i _ => rfl))
          have HTH : Hid (wr.there pb 0 (plainM (.slice (some ⟨g, 0, none⟩) L.length cg)).length) := Lib.hid fun i hi' => by
            have hi : i < 6 := hi'
            rw [Nat.zero_add, HI.out.rb.c i hi]
            refine ⟨?_, HI.out.rb.fz i hi⟩
            unfold zM
            split <;> rfl
          go_wp2_with (first | ((with_reducible refine wl_sload 27 _ rfl ?hw2 pa 0 (plainM (.slice (some ⟨g, 0, none⟩) L.length cg)) _ rfl HRG.out Tryz.underlying27 rfl ?hi2 ?_); (case hw2 => first | exact wanted_none rfl | exact wanted_if rfl rfl rfl rfl); (case hi2 => kernel_rfl)) | ((with_reducible refine wl_sstore 27 _ _ rfl ?hw3 pb 0 (plainM (.slice (some ⟨g, 0, none⟩) L.length cg)) rfl rfl HTH.out ?hi3 ?h13 ?_); (case hw3 => first | exact wanted_none rfl | exact wanted_if rfl rfl rfl rfl); (case hi3 => kernel_rfl); (case h13 => exact plainM_ones)))
          have hres := World.rangeAt_setCells_same wr pb 0 (plainM (.slice (some ⟨g, 0, none⟩) L.length cg)) HTH.out
          have hbl : Below w.heap.size w (wr.setCells pb 0 (plainM (.slice (some ⟨g, 0, none⟩) L.length cg))) := below_sets HI.out.bel HNE.out.2.2 _ 0
          have hpl := HI.out.done (c := cg) ⟨HGB.out.2.1, HNE.out.2.2⟩ hL HLL.out (plainM (.slice (some ⟨g, 0, none⟩) L.length cg))
          refine bodyPost_ret (results_cell rfl Tryz.underlying27 rfl _ _ pb (plainM (.slice (some ⟨g, 0, none⟩) L.length cg)) (by kernel_rfl) rfl hres) rfl ?_
          exact ⟨(.slice (some ⟨g, 0, none⟩) L.length cg), rfl, hpl, hbl⟩
        | succ q =>
          have hlt : (i : Int) < (L.length : Int) := by omega
          have hin : i < L.length := by omega
          obtain ⟨x, hx⟩ : ∃ x, L[i]? = some x := ⟨_, List.getElem?_eq_getElem hin⟩
          have HX := Lib.hid hx
          clear hx
          go_upto_region 19 with (fail)
          clear d5
          refine wp_region_ord [(0, true), (1, true), (2, true), (3, true), (4, true), (7, true), (8, true), (9, true), (10, true), (5, false), (6, false), (11, false), (12, true), (13, true), (14, false), (15, true), (16, true), (17, false)]
            (fun z => z.cell? ⟨g, i * 29 + 3, none⟩ = some (.slice none 0 0)) (by kernel_rfl) (by kernel_rfl) (by kernel_rfl) rfl (by intro c a d v w h; cases d <;> exact h) ?_
          have hb0 : Below wr.heap.size wr wr.drew := (Below.refl _ wr).drew
          have HI0 := Lib.hid (HI.out.below hb0)
          have hs : wr.drew.cell? ⟨g, i * 29 + 3, none⟩ = some (.slice none 0 0) := HI0.out.cell hin 3 (by omega)
          refine ord_move (some 94) (.pointer (some ⟨g, i * 29, none⟩)) _ _ rfl rfl rfl (by first | exact wanted_none rfl | exact wanted_if rfl rfl rfl rfl) hs rfl ?_
          go_frame
          refine ord_move (some 95) (.pointer (some ⟨g, i * 29, none⟩)) _ _ rfl rfl rfl (by first | exact wanted_none rfl | exact wanted_if rfl rfl rfl rfl) hs rfl ?_
          go_frame
          refine ord_move (some 96) (.pointer (some ⟨g, i * 29, none⟩)) _ _ rfl rfl rfl (by first | exact wanted_none rfl | exact wanted_if rfl rfl rfl rfl) hs rfl ?_
          go_frame
          refine ord_load (some 97) (.pointer (some ⟨g, i * 29, none⟩)) _ rfl rfl (by first | exact wanted_none rfl | exact wanted_if rfl rfl rfl rfl) hs (fun z hz => by go_simp) ?_
          go_frame
          refine ord_load (some 98) (.pointer (some ⟨g, i * 29 + 2, none⟩)) _ rfl rfl (by first | exact wanted_none rfl | exact wanted_if rfl rfl rfl rfl) hs (fun z hz => by go_simp) ?_
          go_frame
          refine ord_move (some 101) (.pointer (some ⟨g, i * 29, none⟩)) _ _ rfl rfl rfl (by first | exact wanted_none rfl | exact wanted_if rfl rfl rfl rfl) hs rfl ?_
          go_frame
          refine ord_load (some 102) (.pointer (some ⟨g, i * 29, none⟩)) _ rfl rfl (by first | exact wanted_none rfl | exact wanted_if rfl rfl rfl rfl) hs (fun z hz => by go_simp) ?_
          go_frame
          refine ord_load (some 103) (.pointer (some ⟨g, i * 29 + 3, none⟩)) _ rfl rfl (by first | exact wanted_none rfl | exact wanted_if rfl rfl rfl rfl) hs (fun z hz => by go_simp) ?_
          go_frame
          refine ord_load (some 104) (.slice none 0 0) _ rfl rfl (by first | exact wanted_none rfl | exact wanted_if rfl rfl rfl rfl) hs (fun z hz => by have dd := hz; go_simp) ?_
          go_frame
          have d99 : wr.drew.cell? ⟨g, i * 29 + 2, none⟩ = some (V i) := HI0.out.cell hin 2 (by omega)
          refine ord_run (some 99) (V i) wr.drew _ rfl rfl (by first | exact wanted_none rfl | exact wanted_if rfl rfl rfl rfl) (by go_simp) hs ?_
          go_frame
          clear d99
          refine ord_to (some 100) 42 Tryz.func42 (by kernel_rfl) (by kernel_rfl) [V i] _ _ _ rfl rfl rfl (by first | exact wanted_none rfl | exact wanted_if rfl rfl rfl rfl) rfl ?_
          refine (clone_ints _ g pb (V i) x.1 (HI0.out.ls i x HX.out) HI0.out.lg HI0.out.lb (HLL.out x (List.mem_of_getElem? HX.out))).mono ?_
          rintro e z1 ⟨v', rfl, hig, hb1⟩
          obtain ⟨Ai, ci, hvi, hrest⟩ := id hig
          clear hrest
          subst hvi
          have HI1 := Lib.hid (HI0.out.below hb1)
          have HIG := Lib.hid hig
          clear hig hb1
          have hs1 : z1.cell? ⟨g, i * 29 + 3, none⟩ = some (.slice none 0 0) := HI1.out.cell hin 3 (by omega)
          refine ⟨_, rfl, hs1, ?_⟩
          go_frame
          refine ord_to (some 105) 43 Tryz.func43 (by kernel_rfl) (by kernel_rfl) [.slice none 0 0] _ _ _ rfl rfl rfl (by first | exact wanted_none rfl | exact wanted_if rfl rfl rfl rfl) rfl ?_
          refine (clx_nil _).mono ?_
          rintro e z2 ⟨rfl, hz2⟩
          have hz3 := hz2.symm
          subst hz3
          refine ⟨.slice none 0 0, rfl, hs1, ?_⟩
          go_frame
          refine ord_load (some 106) (.pointer (some ⟨g, i * 29, none⟩)) _ rfl rfl (by first | exact wanted_none rfl | exact wanted_if rfl rfl rfl rfl) hs1 (fun z hz => by go_simp) ?_
          go_frame
          refine ord_load (some 107) (.pointer (some ⟨g, i * 29 + 2, none⟩)) _ rfl rfl (by first | exact wanted_none rfl | exact wanted_if rfl rfl rfl rfl) hs1 (fun z hz => by go_simp) ?_
          go_frame
          have HI2 := Lib.hid (HI1.out.next HGB.out HX.out HIG.out)
          have hs2 : (z1.setCell ⟨g, i * 29 + 2, none⟩ (.slice Ai x.1.length ci)).cell? ⟨g, i * 29 + 3, none⟩ = some (.slice none 0 0) := HI2.out.cell hin 3 (by omega)
          have d2 : z1.cell? ⟨g, i * 29 + 2, none⟩ = some (V i) := HI1.out.cell hin 2 (by omega)
          have f2 := HI1.out.fz hin 2 (by omega)
          refine ord_skipw none (z1.setCell ⟨g, i * 29 + 2, none⟩ (.slice Ai x.1.length ci)) _ rfl rfl (by first | exact wanted_none rfl | exact wanted_if rfl rfl rfl rfl) (by go_simp) hs2 ?_
          go_frame
          clear d2 f2
          refine ord_load (some 108) (.pointer (some ⟨g, i * 29, none⟩)) _ rfl rfl (by first | exact wanted_none rfl | exact wanted_if rfl rfl rfl rfl) hs2 (fun z hz => by go_simp) ?_
          go_frame
          refine ord_load (some 109) (.pointer (some ⟨g, i * 29 + 3, none⟩)) _ rfl rfl (by first | exact wanted_none rfl | exact wanted_if rfl rfl rfl rfl) hs2 (fun z hz => by go_simp) ?_
          go_frame
          have HI3 : Hid (OwnInv w ((z1.setCell ⟨g, i * 29 + 2, none⟩ (.slice Ai x.1.length ci)).setCell ⟨g, i * 29 + 3, none⟩ (.slice none 0 0)) pa pb g (.slice (some ⟨g, 0, none⟩) L.length cg) L (fun j => if j = i then (.slice Ai x.1.length ci) else V j)) := Lib.hid (HI2.out.sets HGB.out [.slice none 0 0] (i * 29 + 3) fun r u hu => by
            have hr : r = 0 := by have := (List.getElem?_eq_some_iff.1 hu).1; simp only [List.length_singleton] at this; omega
            subst hr
            injection hu with hu
            refine ⟨by omega, ?_⟩
            rw [Nat.add_zero, nodeF_at _ _ _ _ (by omega), ← hu]
            rfl)
          have hs3 : ((z1.setCell ⟨g, i * 29 + 2, none⟩ (.slice Ai x.1.length ci)).setCell ⟨g, i * 29 + 3, none⟩ (.slice none 0 0)).cell? ⟨g, i * 29 + 3, none⟩ = some (.slice none 0 0) := HI3.out.cell hin 3 (by omega)
          have f3 := HI2.out.fz hin 3 (by omega)
          refine ord_skipw none ((z1.setCell ⟨g, i * 29 + 2, none⟩ (.slice Ai x.1.length ci)).setCell ⟨g, i * 29 + 3, none⟩ (.slice none 0 0)) _ rfl rfl (by first | exact wanted_none rfl | exact wanted_if rfl rfl rfl rfl) (by go_simp) hs3 ?_
          go_frame
          refine ord_end ?_
          clear hs hs1 hs2 f3 hb0 HI HIG HI0 HI1 HI2
          generalize ((z1.setCell ⟨g, i * 29 + 2, none⟩ (.slice Ai x.1.length ci)).setCell ⟨g, i * 29 + 3, none⟩ (.slice none 0 0)) = W6 at *
          generalize (fun j => if j = i then ((.slice Ai x.1.length ci) : Value) else V j) = V6 at *
          have d3 := hs3
          clear hs3
          go_wp2
          go_loopg [115] 0 (fun q x u => q = 0 ∧ x = .int .i64 0 ∧ u = W6)
          case atStart => exact ⟨rfl, rfl, rfl⟩
          case round =>
            obtain ⟨rfl, rfl, hu⟩ := hrel
            have hu2 := hu.symm
            subst hu2
            go_upto_region 25 with (fail)
            clear d3
            refine wp_region_ord [(0, true), (1, true), (2, true), (3, true), (4, true), (5, true), (7, true), (8, true), (9, true), (10, true), (6, false), (11, false), (12, true), (13, true), (14, false), (15, true), (16, true), (17, false)]
              (fun z => z.rangeAt g (i * 29 + 4) encX ∧ z.rangeAt g (i * 29 + 14) encX) (by kernel_rfl) (by kernel_rfl) (by kernel_rfl) rfl (by intro c a d v w h; cases d <;> exact h) ?_
            have HI6 := Lib.hid (HI3.out.below (Below.refl _ W6).drew)
            have hs : W6.drew.rangeAt g (i * 29 + 4) encX ∧ W6.drew.rangeAt g (i * 29 + 14) encX := ⟨HI6.out.rangeX hin 4 (.inl rfl), HI6.out.rangeX hin 14 (.inr rfl)⟩
            refine ord_move (some 133) (.pointer (some ⟨g, i * 29, none⟩)) _ _ rfl rfl rfl (by first | exact wanted_none rfl | exact wanted_if rfl rfl rfl rfl) hs rfl ?_
            go_frame
            refine ord_move (some 134) (.pointer (some ⟨g, i * 29, none⟩)) _ _ rfl rfl rfl (by first | exact wanted_none rfl | exact wanted_if rfl rfl rfl rfl) hs rfl ?_
            go_frame
            refine ord_move (some 135) (.pointer (some ⟨g, i * 29, none⟩)) _ _ rfl rfl rfl (by first | exact wanted_none rfl | exact wanted_if rfl rfl rfl rfl) hs rfl ?_
            go_frame
            refine ord_load (some 136) (.pointer (some ⟨g, i * 29, none⟩)) _ rfl rfl (by first | exact wanted_none rfl | exact wanted_if rfl rfl rfl rfl) hs (fun z hz => by go_simp) ?_
            go_frame
            refine ord_load (some 137) (.pointer (some ⟨g, i * 29 + 4, none⟩)) _ rfl rfl (by first | exact wanted_none rfl | exact wanted_if rfl rfl rfl rfl) hs (fun z hz => by go_simp) ?_
            go_frame
            refine ord_load (some 138) (.agg ⟨encX⟩) _ rfl rfl (by first | exact wanted_none rfl | exact wanted_if rfl rfl rfl rfl) hs (fun z hz => exec_sload 40 rfl g (i * 29 + 4) encX _ rfl hz.1 Tryz.underlying40 rfl (by kernel_rfl)) ?_
            go_frame
            refine ord_move (some 140) (.pointer (some ⟨g, i * 29, none⟩)) _ _ rfl rfl rfl (by first | exact wanted_none rfl | exact wanted_if rfl rfl rfl rfl) hs rfl ?_
            go_frame
            refine ord_load (some 141) (.pointer (some ⟨g, i * 29, none⟩)) _ rfl rfl (by first | exact wanted_none rfl | exact wanted_if rfl rfl rfl rfl) hs (fun z hz => by go_simp) ?_
            go_frame
            refine ord_load (some 142) (.pointer (some ⟨g, i * 29 + 14, none⟩)) _ rfl rfl (by first | exact wanted_none rfl | exact wanted_if rfl rfl rfl rfl) hs (fun z hz => by go_simp) ?_
            go_frame
            refine ord_load (some 143) (.agg ⟨encX⟩) _ rfl rfl (by first | exact wanted_none rfl | exact wanted_if rfl rfl rfl rfl) hs (fun z hz => exec_sload 40 rfl g (i * 29 + 14) encX _ rfl hz.2 Tryz.underlying40 rfl (by kernel_rfl)) ?_
            go_frame
            refine ord_to (some 139) 44 Tryz.func44 (by kernel_rfl) (by kernel_rfl) [.agg ⟨encX⟩] _ _ _ rfl rfl rfl (by first | exact wanted_none rfl | exact wanted_if rfl rfl rfl rfl) rfl ?_
            refine (ownx_zero _).mono ?_
            rintro e z7 ⟨rfl, hb7⟩
            have HI7 := Lib.hid (HI6.out.below hb7)
            have hs1 : z7.rangeAt g (i * 29 + 4) encX ∧ z7.rangeAt g (i * 29 + 14) encX := ⟨HI7.out.rangeX hin 4 (.inl rfl), HI7.out.rangeX hin 14 (.inr rfl)⟩
            refine ⟨(.agg ⟨encX⟩), rfl, hs1, ?_⟩
            go_frame
            refine ord_to (some 144) 44 Tryz.func44 (by kernel_rfl) (by kernel_rfl) [.agg ⟨encX⟩] _ _ _ rfl rfl rfl (by first | exact wanted_none rfl | exact wanted_if rfl rfl rfl rfl) rfl ?_
            refine (ownx_zero _).mono ?_
            rintro e z8 ⟨rfl, hb8⟩
            have HI8 := Lib.hid (HI7.out.below hb8)
            have hs2 : z8.rangeAt g (i * 29 + 4) encX ∧ z8.rangeAt g (i * 29 + 14) encX := ⟨HI8.out.rangeX hin 4 (.inl rfl), HI8.out.rangeX hin 14 (.inr rfl)⟩
            refine ⟨(.agg ⟨encX⟩), rfl, hs2, ?_⟩
            go_frame
            refine ord_load (some 145) (.pointer (some ⟨g, i * 29, none⟩)) _ rfl rfl (by first | exact wanted_none rfl | exact wanted_if rfl rfl rfl rfl) hs2 (fun z hz => by go_simp) ?_
            go_frame
            refine ord_load (some 146) (.pointer (some ⟨g, i * 29 + 4, none⟩)) _ rfl rfl (by first | exact wanted_none rfl | exact wanted_if rfl rfl rfl rfl) hs2 (fun z hz => by go_simp) ?_
            go_frame
            have HI9 := Lib.hid (HI8.out.setX HGB.out hin 4 (.inl rfl))
            have hs3 : (z8.setCells g (i * 29 + 4) encX).rangeAt g (i * 29 + 4) encX ∧ (z8.setCells g (i * 29 + 4) encX).rangeAt g (i * 29 + 14) encX := ⟨HI9.out.rangeX hin 4 (.inl rfl), HI9.out.rangeX hin 14 (.inr rfl)⟩
            refine ord_sstore none 40 _ _ _ rfl rfl rfl (by first | exact wanted_none rfl | exact wanted_if rfl rfl rfl rfl) g (i * 29 + 4) encX rfl rfl (HI8.out.thereX hin 4 (.inl rfl)) (by kernel_rfl) encX_ones hs3 ?_
            go_frame
            refine ord_load (some 147) (.pointer (some ⟨g, i * 29, none⟩)) _ rfl rfl (by first | exact wanted_none rfl | exact wanted_if rfl rfl rfl rfl) hs3 (fun z hz => by go_simp) ?_
            go_frame
            refine ord_load (some 148) (.pointer (some ⟨g, i * 29 + 14, none⟩)) _ rfl rfl (by first | exact wanted_none rfl | exact wanted_if rfl rfl rfl rfl) hs3 (fun z hz => by go_simp) ?_
            go_frame
            have HI10 := Lib.hid (HI9.out.setX HGB.out hin 14 (.inr rfl))
            have hs4 : ((z8.setCells g (i * 29 + 4) encX).setCells g (i * 29 + 14) encX).rangeAt g (i * 29 + 4) encX ∧ ((z8.setCells g (i * 29 + 4) encX).setCells g (i * 29 + 14) encX).rangeAt g (i * 29 + 14) encX := ⟨HI10.out.rangeX hin 4 (.inl rfl), HI10.out.rangeX hin 14 (.inr rfl)⟩
            refine ord_sstore none 40 _ _ _ rfl rfl rfl (by first | exact wanted_none rfl | exact wanted_if rfl rfl rfl rfl) g (i * 29 + 14) encX rfl rfl (HI9.out.thereX hin 14 (.inr rfl)) (by kernel_rfl) encX_ones hs4 ?_
            go_frame
            refine ord_end ?_
            clear hs hs1 hs2 hs3 hs4 hb7 hb8
            go_wp2
            go_roundg q
            case measure => omega
            case rel => exact ⟨i + 1, V6, by omega, by go_num, HI10.out⟩
end Go.Proofs.YtlfefikhmdbbfaaGreat
