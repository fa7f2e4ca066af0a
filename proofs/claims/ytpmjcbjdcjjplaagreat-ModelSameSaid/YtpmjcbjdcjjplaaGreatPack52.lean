/- Parts of a proof: Own2, PlainG, Awake12. -/
import Derived.Test.YtpmjcbjdcjjplaaGreatPack7
import Derived.Test.YtpmjcbjdcjjplaaGreatPack51
section
namespace Go.Proofs.YtpmjcbjdcjjplaaGreat
open Go Go.RowKit
set_option linter.unusedVariables false
def mF (v : Value) (i : Nat) : Value := (plainM v).getD i undef
theorem fun_of {α : Type} [Inhabited α] {n : Nat} {P : Nat → α → Prop} (h : ∀ i, i < n → ∃ v, P i v) : ∃ V : Nat → α, ∀ i, i < n → P i (V i) := by
  classical
  refine ⟨fun i => if h' : ∃ v, P i v then Classical.choose h' else default, fun i hi => ?_⟩
  dsimp only
  rw [dif_pos (h i hi)]
  exact Classical.choose_spec (h i hi)
def catL (L : List (List Int × Int)) (j : Nat) : Int := ((L[j]?).getD ([], 0)).2
def nodeF (V : Nat → Value) (cat : Nat → Int) (m : Nat) : Value := (encC (V (m / 29)) (cat (m / 29))).getD (m % 29) undef
theorem nodeF_at (V : Nat → Value) (cat : Nat → Int) (i r : Nat) (hr : r < 29) : nodeF V cat (i * 29 + r) = (encC (V i) (cat i)).getD r undef := by
  unfold nodeF
  rw [show (i * 29 + r) / 29 = i by omega, show (i * 29 + r) % 29 = r by omega]
theorem cells_nodeF {KL : List Cells29} {L : List (List Int × Int)} {V : Nat → Value} (hl : KL.length = L.length) (hV : ∀ i, i < L.length → ∀ k x, KL[i]? = some k → L[i]? = some x → k.1 = encC (V i) x.2) (m : Nat) (hm : m < L.length * 29) : cellsOf KL m = nodeF V (catL L) m := by
  have hmi : m / 29 < L.length := by omega
  obtain ⟨k, hk⟩ : ∃ k, KL[m / 29]? = some k := ⟨_, List.getElem?_eq_getElem (by omega)⟩
  obtain ⟨x, hx⟩ : ∃ x, L[m / 29]? = some x := ⟨_, List.getElem?_eq_getElem hmi⟩
  have h1 := hV (m / 29) hmi k x hk hx
  have h2 : m % 29 < k.1.length := by rw [k.2]; omega
  have h3 := flat29_at hk (List.getElem?_eq_getElem h2)
  rw [show m / 29 * 29 + m % 29 = m by omega] at h3
  have h4 : cellsOf KL m = k.1[m % 29] := by
    unfold cellsOf
    rw [List.getD_eq_getElem?_getD, h3]
    rfl
  have h5 : nodeF V (catL L) m = (encC (V (m / 29)) x.2).getD (m % 29) undef := by
    unfold nodeF catL
    rw [hx]
    rfl
  rw [h4, h5, ← h1, List.getD_eq_getElem?_getD, List.getElem?_eq_getElem h2]
  rfl
theorem encC_put (v v' : Value) (c : Int) (r : Nat) (h : r ≠ 2) : (encC v' c).getD r undef = (encC v c).getD r undef := by
  match r, h with
  | 0, _ => rfl
  | 1, _ => rfl
  | r + 3, _ => rfl
structure OwnInv (w u : World) (pa pb g : Nat) (v5 : Value) (L : List (List Int × Int)) (V : Nat → Value) : Prop where
  ra : RowF u pa 6 (mF v5)
  rb : RowF u pb 6 zM
  rg : RowF u g (L.length * 29) (nodeF V (catL L))
  ls : ∀ (j : Nat) x, L[j]? = some x → IntsG u g pb (V j) x.1
  bel : Below w.heap.size w u
  la : pa < u.heap.size
  lb : pb < u.heap.size
  lg : g < u.heap.size
section
variable {w u u' : World} {pa pb g : Nat} {v5 : Value} {L : List (List Int × Int)} {V : Nat → Value}
theorem OwnInv.below (h : OwnInv w u pa pb g v5 L V) (hb : Below u.heap.size u u') : OwnInv w u' pa pb g v5 L V :=
  ⟨h.ra.below hb h.la, h.rb.below hb h.lb, h.rg.below hb h.lg, fun j x hx => (h.ls j x hx).below hb, h.bel.trans (hb.mono h.bel.size), Nat.lt_of_lt_of_le h.la hb.size, Nat.lt_of_lt_of_le h.lb hb.size, Nat.lt_of_lt_of_le h.lg hb.size⟩
theorem OwnInv.next (h : OwnInv w u pa pb g v5 L V) (hg : pa < g ∧ pb < g ∧ w.heap.size ≤ g) {i : Nat} {x : List Int × Int} (hx : L[i]? = some x) {v' : Value} (hv : IntsG u g pb v' x.1) :
    OwnInv w (u.setCell ⟨g, i * 29 + 2, none⟩ v') pa pb g v5 L (fun j => if j = i then v' else V j) := by
  have hi := (List.getElem?_eq_some_iff.1 hx).1
  refine ⟨h.ra.apart (by omega) _, h.rb.apart (by omega) _, (h.rg.set (i := i * 29 + 2) (by omega) v').congr fun m hm => ?_, fun j y hy => ?_, below_put h.bel hg.2.2 _, by rw [put_size0]; exact h.la, by rw [put_size0]; exact h.lb, by rw [put_size0]; exact h.lg⟩
  · by_cases e : m = i * 29 + 2
    · rw [if_pos e, e, nodeF_at _ _ _ _ (by omega), if_pos rfl]
      rfl
    · rw [if_neg e]
      unfold nodeF
      dsimp only
      by_cases e2 : m / 29 = i
      · rw [if_pos e2]
        exact (encC_put (V (m / 29)) v' _ (m % 29) (by omega)).symm
      · rw [if_neg e2]
  · by_cases e : j = i
    · subst e
      rw [if_pos rfl]
      rw [hx] at hy
      injection hy with hy
      rw [← hy]; exact hv.put _ _
    · rw [if_neg e]; exact (h.ls j y hy).put _ _
theorem OwnInv.sets (h : OwnInv w u pa pb g v5 L V) (hg : pa < g ∧ pb < g ∧ w.heap.size ≤ g) (cs : List Value) (k : Nat) (hc : ∀ i u, cs[i]? = some u → k + i < L.length * 29 ∧ nodeF V (catL L) (k + i) = u) : OwnInv w (u.setCells g k cs) pa pb g v5 L V :=
  ⟨h.ra.keep (heap_sets0 g pa (by omega) cs u k), h.rb.keep (heap_sets0 g pb (by omega) cs u k), rowF_sets (w := u) cs u k h.rg hc, fun j x hx => (h.ls j x hx).sets cs k, below_sets h.bel hg.2.2 cs k, by rw [size_sets]; exact h.la, by rw [size_sets]; exact h.lb, by rw [size_sets]; exact h.lg⟩
end
section
variable {w u u' : World} {pa pb g : Nat} {v5 : Value} {L : List (List Int × Int)} {V : Nat → Value}
theorem encC_X (v : Value) (c : Int) (k r : Nat) (hk : k = 4 ∨ k = 14) (hr : r < 10) : (encC v c).getD (k + r) undef = encX.getD r undef := by
  have h : r = 0 ∨ r = 1 ∨ r = 2 ∨ r = 3 ∨ r = 4 ∨ r = 5 ∨ r = 6 ∨ r = 7 ∨ r = 8 ∨ r = 9 := by omega
  rcases hk with rfl | rfl
  · rcases h with rfl | rfl | rfl | rfl | rfl | rfl | rfl | rfl | rfl | rfl <;> rfl
  · rcases h with rfl | rfl | rfl | rfl | rfl | rfl | rfl | rfl | rfl | rfl <;> rfl
theorem OwnInv.cell (h : OwnInv w u pa pb g v5 L V) {i : Nat} (hi : i < L.length) (r : Nat) (hr : r < 29) : u.cell? ⟨g, i * 29 + r, none⟩ = some ((encC (V i) (catL L i)).getD r undef) := by
  rw [h.rg.c (i * 29 + r) (by omega), nodeF_at _ _ _ _ hr]
theorem OwnInv.fz (h : OwnInv w u pa pb g v5 L V) {i : Nat} (hi : i < L.length) (r : Nat) (hr : r < 29) : u.frozen? ⟨g, i * 29 + r, none⟩ = false := h.rg.fz (i * 29 + r) (by omega)
theorem OwnInv.rangeX (h : OwnInv w u pa pb g v5 L V) {i : Nat} (hi : i < L.length) (k : Nat) (hk : k = 4 ∨ k = 14) : u.rangeAt g (i * 29 + k) encX := fun r x hx => by
  have hr : r < 10 := (List.getElem?_eq_some_iff.1 hx).1
  rw [Nat.add_assoc, h.cell hi (k + r) (by omega), encC_X _ _ k r hk hr, List.getD_eq_getElem?_getD, hx]
  rfl
theorem OwnInv.thereX (h : OwnInv w u pa pb g v5 L V) {i : Nat} (hi : i < L.length) (k : Nat) (hk : k = 4 ∨ k = 14) : u.there g (i * 29 + k) encX.length := fun r hr' => by
  have hr : r < 10 := hr'
  rw [Nat.add_assoc, h.cell hi (k + r) (by omega), h.fz hi (k + r) (by omega)]
  exact ⟨rfl, rfl⟩
theorem OwnInv.setX (h : OwnInv w u pa pb g v5 L V) (hg : pa < g ∧ pb < g ∧ w.heap.size ≤ g) {i : Nat} (hi : i < L.length) (k : Nat) (hk : k = 4 ∨ k = 14) : OwnInv w (u.setCells g (i * 29 + k) encX) pa pb g v5 L V :=
  h.sets hg encX (i * 29 + k) fun r x hx => by
    have hr : r < 10 := (List.getElem?_eq_some_iff.1 hx).1
    refine ⟨by omega, ?_⟩
    rw [Nat.add_assoc, nodeF_at _ _ _ _ (by omega), encC_X _ _ k r hk hr, List.getD_eq_getElem?_getD, hx]
    rfl
end
theorem plainM_ones {A : Option Addr} {n c : Nat} : ∀ u ∈ plainM (.slice A n c), u.oneCell' = true := by
  intro u hu
  simp only [plainM, List.mem_cons, List.not_mem_nil, or_false] at hu
  rcases hu with rfl | rfl | rfl | rfl | rfl | rfl <;> rfl
theorem OwnInv.done {w u : World} {pa pb g c : Nat} {L : List (List Int × Int)} {V : Nat → Value} {v5 : Value} (h : OwnInv w u pa pb g v5 L V) (hg : pb < g ∧ w.heap.size ≤ pb) (hL : L.length ≤ 100) (hl : ∀ x ∈ L, x.1.length ≤ 10000) (cs : List Value) : PlainAt (u.setCells pb 0 cs) (.slice (some ⟨g, 0, none⟩) L.length c) L := by
  refine ⟨by omega, _, _, rfl, fun _ => ⟨g, 0, rfl, by rw [size_sets]; exact h.lg, fun i x hx => ?_⟩⟩
  have hi := (List.getElem?_eq_some_iff.1 hx).1
  have hcat : catL L i = x.2 := by unfold catL; rw [hx]; rfl
  refine ⟨encC (V i) x.2, rfl, fun r y hy => ?_, V i, rfl, ?_⟩
  · have hr : r < 29 := (List.getElem?_eq_some_iff.1 hy).1
    refine (World.cell?_of_block (a := ⟨g, 0 + i * 29 + r, none⟩) (heap_sets0 pb g (by omega) cs u 0)).trans ?_
    rw [Nat.zero_add, h.cell hi r hr, hcat, List.getD_eq_getElem?_getD, hy]
    rfl
  · have h1 := h.ls i x hx
    obtain ⟨A, c', hv, h2⟩ := h1
    have h3 : IntsG (u.setCells pb 0 cs) g pb (V i) x.1 := ⟨A, c', hv, fun h0 => by
      obtain ⟨b, o, h4, h5, h6, h7⟩ := h2 h0
      exact ⟨b, o, h4, by rw [size_sets]; exact h5, h6, fun j y hy => (World.cell?_of_block (a := ⟨b, o + j, none⟩) (heap_sets0 pb b h6.2 cs u 0)).trans (h7 j y hy)⟩⟩
    exact h3.vals (hl x (List.mem_of_getElem? hx))
set_option maxHeartbeats 4000000 in
set_option maxRecDepth 100000 in
theorem own_plain (v : Value) (L : List (List Int × Int)) (w : World) (h : PlainAt w v L) (hL : L.length ≤ 100) (h0 : 0 < L.length) (hl : ∀ x ∈ L, x.1.length ≤ 10000) :
    Calls Tryz.prog 8 #[.agg ⟨plainM v⟩] w fun e w' => ∃ v', e = .returned (.agg ⟨plainM v'⟩) ∧ PlainAt w' v' L ∧ Below w.heap.size w w' := by
  obtain ⟨KL, Av, cv, hkl, hv, hpr, hrg⟩ := h.cells
  obtain ⟨bv, ov, hbv, hlv, hrr⟩ := hrg h0
  have HKL := Lib.hid hkl
  have HLL := Lib.hid hl
  have hones : ∀ k ∈ KL, ∀ u ∈ k.1, u.oneCell' = true := fun k hk u hu => by
    obtain ⟨i, hi⟩ := List.mem_iff_getElem?.1 hk
    have := (List.getElem?_eq_some_iff.1 hi).1
    obtain ⟨v1, h1, _, A', c', h2, _⟩ := hpr i k _ hi (List.getElem?_eq_getElem (by omega))
    rw [h1, h2] at hu
    exact encC_ones u hu
  have HCC : Hid (∀ z, Below w.heap.size w z → Calls Tryz.prog 31 #[v] z fun e w' => ∃ v' : Value, e = .returned v' ∧ OwnSl 42 29 (fun k : Cells29 => k.1) w' z.heap.size v' KL ∧ Below z.heap.size z w') := Lib.hid fun z hz => by
    rw [hv, hbv]
    exact clone_cells KL bv ov cv L.length z hkl hL (fun i k hk => rangeAt_below (hrr i k hk) hz hlv) (Nat.lt_of_lt_of_le hlv hz.size) hones
  have HVX : Hid (∃ V : Nat → Value, ∀ i, i < L.length → ∀ k x, KL[i]? = some k → L[i]? = some x → k.1 = encC (V i) x.2 ∧ SlAt w w.heap.size 1 (Enc encI) (V i) x.1) := Lib.hid (fun_of (n := L.length) (P := fun i vv => ∀ k x, KL[i]? = some k → L[i]? = some x → k.1 = encC vv x.2 ∧ SlAt w w.heap.size 1 (Enc encI) vv x.1) fun i hi => by
    obtain ⟨v1, h1, h2⟩ := hpr i _ _ (List.getElem?_eq_getElem (by omega)) (List.getElem?_eq_getElem hi)
    refine ⟨v1, fun k x hk hx => ?_⟩
    rw [List.getElem?_eq_getElem (by omega)] at hk
    rw [List.getElem?_eq_getElem hi] at hx
    injection hk with hk
    injection hx with hx
    rw [← hk, ← hx]
    exact ⟨h1, h2⟩)
  have HSV : Hid (∃ A c, v = .slice A L.length c) := Lib.hid ⟨_, _, hv⟩
  clear hkl hpr hrg hrr hones hl h hv hbv hlv
  have HA := Lib.hid (row_lit w (plainM v) 27)
  have HB1 := Lib.hid (box_below w (.cells ⟨plainM v⟩ 27))
  have HS1 := Lib.hid (box_size w (.cells ⟨plainM v⟩ 27))
  have HSE : Hid ((w.alloc (.cells ⟨plainM v⟩ 27)).heap.size = w.heap.size + 1) := Lib.hid (by simp)
  go_enter Tryz.func8, Tryz.ntmps8
  go_upto_region 1 with (fail)
  generalize w.alloc (.cells ⟨plainM v⟩ 27) = W1 at *
  have HB := Lib.hid (row_zM W1)
  have HB2 := Lib.hid (box_below W1 (.cells #[.int .i64 0, .slice none 0 0, .slice none 0 0, .slice none 0 0, .slice none 0 0, .slice none 0 0] 27))
  have HS2 := Lib.hid (box_size W1 (.cells #[.int .i64 0, .slice none 0 0, .slice none 0 0, .slice none 0 0, .slice none 0 0, .slice none 0 0] 27))
  generalize W1.alloc (.cells #[.int .i64 0, .slice none 0 0, .slice none 0 0, .slice none 0 0, .slice none 0 0, .slice none 0 0] 27) = W at *
  have HRA0 : Hid (RowF W w.heap.size 6 (mF v)) := Lib.hid (HA.out.below HB2.out HS1.out)
  have HBW := Lib.hid (HB1.out.trans (HB2.out.mono HB1.out.size))
  have HLA0 : Hid (w.heap.size < W.heap.size) := Lib.hid (Nat.lt_of_lt_of_le HS1.out HB2.out.size)
  rw [HSE.out] at HB HS2
  obtain ⟨pb, hpb⟩ : ∃ pb, w.heap.size + 1 = pb := ⟨_, rfl⟩
  obtain ⟨pa, hpa⟩ : ∃ pa, w.heap.size = pa := ⟨_, rfl⟩
  have HNE : Hid (pa ≠ pb ∧ w.heap.size ≤ pa ∧ w.heap.size ≤ pb) := Lib.hid (by omega)
  rw [hpb] at HB HS2
  have HLA : Hid (pa < W.heap.size) := Lib.hid (hpa ▸ HLA0.out)
  have HRA : Hid (RowF W pa 6 (mF v)) := Lib.hid (hpa ▸ HRA0.out)
  rw [hpb, hpa]
  have HRB : Hid (RowF W pb 6 zM) := HB
  clear HA HB1 HS1 HSE HB2 hpb HB hpa HRA0 HLA0
  refine wp_region_ord [(0, true), (1, true), (3, true), (4, true), (2, false), (6, true), (5, false), (7, false), (8, true), (9, false)]
    (fun z => RowF z pa 6 (mF v) ∧ RowF z pb 6 zM ∧ Below w.heap.size w z ∧ pa < z.heap.size ∧ pb < z.heap.size) (by kernel_rfl) (by kernel_rfl) (by kernel_rfl) rfl (by intro c a d v w h; cases d <;> exact h) ?_
  have hs : RowF W.drew pa 6 (mF v) ∧ RowF W.drew pb 6 zM ∧ Below w.heap.size w W.drew ∧ pa < W.drew.heap.size ∧ pb < W.drew.heap.size := ⟨HRA.out.keep rfl, HRB.out.keep rfl, HBW.out.drew, HLA.out, HS2.out⟩
  refine ord_load (some 10) (.pointer (some ⟨pa, 1, none⟩)) _ rfl rfl (by exact wantA rfl) hs (fun z hz => by go_simp) ?_
  go_frame
  refine ord_load (some 11) (.slice none 0 0) _ rfl rfl (by exact wantA rfl) hs (fun z hz => by have dd : z.cell? ⟨pa, 1, none⟩ = some (.slice none 0 0) := hz.1.c 1 (by omega); go_simp) ?_
  go_frame
  refine ord_load (some 13) (.pointer (some ⟨pa, 2, none⟩)) _ rfl rfl (by exact wantA rfl) hs (fun z hz => by go_simp) ?_
  go_frame
  refine ord_load (some 14) (.slice none 0 0) _ rfl rfl (by exact wantA rfl) hs (fun z hz => by have dd : z.cell? ⟨pa, 2, none⟩ = some (.slice none 0 0) := hz.1.c 2 (by omega); go_simp) ?_
  go_frame
  refine ord_to (some 12) 28 Tryz.func28 (by kernel_rfl) (by kernel_rfl) [.slice none 0 0] _ _ _ rfl rfl rfl (by exact wantA rfl) rfl ?_
  refine (clp_nil _).mono ?_
  rintro e z1 ⟨rfl, rfl⟩
  refine ⟨(.slice none 0 0), rfl, hs, ?_⟩
  go_frame
  refine ord_load (some 16) (.pointer (some ⟨pa, 1, none⟩)) _ rfl rfl (by exact wantA rfl) hs (fun z hz => by go_simp) ?_
  go_frame
  refine ord_to (some 15) 28 Tryz.func28 (by kernel_rfl) (by kernel_rfl) [.slice none 0 0] _ _ _ rfl rfl rfl (by exact wantA rfl) rfl ?_
  refine (clp_nil _).mono ?_
  rintro e z2 ⟨rfl, rfl⟩
  refine ⟨(.slice none 0 0), rfl, hs, ?_⟩
  go_frame
  obtain ⟨z2, hz2⟩ : ∃ z2, W.drew = z2 := ⟨_, rfl⟩
  rw [hz2] at hs
  rw [hz2]
  clear hz2
  have hs2 : RowF (z2.setCell ⟨pa, 1, none⟩ (.slice none 0 0)) pa 6 (mF v) ∧ RowF (z2.setCell ⟨pa, 1, none⟩ (.slice none 0 0)) pb 6 zM ∧ Below w.heap.size w (z2.setCell ⟨pa, 1, none⟩ (.slice none 0 0)) ∧ pa < (z2.setCell ⟨pa, 1, none⟩ (.slice none 0 0)).heap.size ∧ pb < (z2.setCell ⟨pa, 1, none⟩ (.slice none 0 0)).heap.size := ⟨hs.1.same (by omega) rfl, hs.2.1.apart (Ne.symm HNE.out.1) _, below_put hs.2.2.1 HNE.out.2.1 _, by rw [put_size0]; exact hs.2.2.2.1, by rw [put_size0]; exact hs.2.2.2.2⟩
  have dst : z2.cell? ⟨pa, 1, none⟩ = some (.slice none 0 0) := hs.1.c 1 (by omega)
  have fst := hs.1.fz 1 (by omega)
  refine ord_skipw none (z2.setCell ⟨pa, 1, none⟩ (.slice none 0 0)) _ rfl rfl (by exact wantA rfl) (by go_simp) hs2 ?_
  go_frame
  clear dst fst
  refine ord_load (some 17) (.pointer (some ⟨pa, 2, none⟩)) _ rfl rfl (by exact wantA rfl) hs2 (fun z hz => by go_simp) ?_
  go_frame
  have hs3 : RowF ((z2.setCell ⟨pa, 1, none⟩ (.slice none 0 0)).setCell ⟨pa, 2, none⟩ (.slice none 0 0)) pa 6 (mF v) ∧ RowF ((z2.setCell ⟨pa, 1, none⟩ (.slice none 0 0)).setCell ⟨pa, 2, none⟩ (.slice none 0 0)) pb 6 zM ∧ Below w.heap.size w ((z2.setCell ⟨pa, 1, none⟩ (.slice none 0 0)).setCell ⟨pa, 2, none⟩ (.slice none 0 0)) ∧ pa < ((z2.setCell ⟨pa, 1, none⟩ (.slice none 0 0)).setCell ⟨pa, 2, none⟩ (.slice none 0 0)).heap.size ∧ pb < ((z2.setCell ⟨pa, 1, none⟩ (.slice none 0 0)).setCell ⟨pa, 2, none⟩ (.slice none 0 0)).heap.size := ⟨hs2.1.same (by omega) rfl, hs2.2.1.apart (Ne.symm HNE.out.1) _, below_put hs2.2.2.1 HNE.out.2.1 _, by rw [put_size0]; exact hs2.2.2.2.1, by rw [put_size0]; exact hs2.2.2.2.2⟩
  have dst : (z2.setCell ⟨pa, 1, none⟩ (.slice none 0 0)).cell? ⟨pa, 2, none⟩ = some (.slice none 0 0) := hs2.1.c 2 (by omega)
  have fst := hs2.1.fz 2 (by omega)
  refine ord_skipw none ((z2.setCell ⟨pa, 1, none⟩ (.slice none 0 0)).setCell ⟨pa, 2, none⟩ (.slice none 0 0)) _ rfl rfl (by exact wantA rfl) (by go_simp) hs3 ?_
  go_frame
  clear dst fst
  refine ord_end ?_
  have HRA3 := Lib.hid hs3.1
  have HRB3 := Lib.hid hs3.2.1
  have HBW3 := Lib.hid hs3.2.2.1
  have HLA3 := Lib.hid hs3.2.2.2.1
  have HLB3 := Lib.hid hs3.2.2.2.2
  clear hs hs2 hs3 HRA HRB HBW HLA HS2
  generalize ((z2.setCell ⟨pa, 1, none⟩ (.slice none 0 0)).setCell ⟨pa, 2, none⟩ (.slice none 0 0)) = W3 at *
  go_upto_region 2 with (fail)
  refine wp_region_ord_tail 14 [(0, true), (1, true), (3, true), (4, true), (6, true), (7, true), (2, false), (9, true), (5, false), (8, false), (10, false), (11, true), (12, false), (13, true)]
    (fun z => RowF z pa 6 (mF v) ∧ RowF z pb 6 zM ∧ Below w.heap.size w z ∧ pa < z.heap.size ∧ pb < z.heap.size) (by kernel_rfl) (by kernel_rfl) rfl (by intro c a d v w h; cases d <;> exact h) ?_
  have hs : RowF W3.drew pa 6 (mF v) ∧ RowF W3.drew pb 6 zM ∧ Below w.heap.size w W3.drew ∧ pa < W3.drew.heap.size ∧ pb < W3.drew.heap.size := ⟨HRA3.out.keep rfl, HRB3.out.keep rfl, HBW3.out.drew, HLA3.out, HLB3.out⟩
  refine ord_load (some 18) (.pointer (some ⟨pa, 3, none⟩)) _ rfl rfl (by exact wantA rfl) hs (fun z hz => by go_simp) ?_
  go_frame
  refine ord_load (some 19) (.slice none 0 0) _ rfl rfl (by exact wantA rfl) hs (fun z hz => by have dd : z.cell? ⟨pa, 3, none⟩ = some (.slice none 0 0) := hz.1.c 3 (by omega); go_simp) ?_
  go_frame
  refine ord_load (some 21) (.pointer (some ⟨pa, 4, none⟩)) _ rfl rfl (by exact wantA rfl) hs (fun z hz => by go_simp) ?_
  go_frame
  refine ord_load (some 22) (.slice none 0 0) _ rfl rfl (by exact wantA rfl) hs (fun z hz => by have dd : z.cell? ⟨pa, 4, none⟩ = some (.slice none 0 0) := hz.1.c 4 (by omega); go_simp) ?_
  go_frame
  refine ord_load (some 24) (.pointer (some ⟨pa, 5, none⟩)) _ rfl rfl (by exact wantA rfl) hs (fun z hz => by go_simp) ?_
  go_frame
  refine ord_load (some 25) v _ rfl rfl (by exact wantA rfl) hs (fun z hz => by have dd : z.cell? ⟨pa, 5, none⟩ = some v := hz.1.c 5 (by omega); go_simp) ?_
  go_frame
  refine ord_to (some 20) 29 Tryz.func29 (by kernel_rfl) (by kernel_rfl) [.slice none 0 0] _ _ _ rfl rfl rfl (by exact wantA rfl) rfl ?_
  refine (clv_nil _).mono ?_
  rintro e z1 ⟨rfl, rfl⟩
  refine ⟨(.slice none 0 0), rfl, hs, ?_⟩
  go_frame
  refine ord_load (some 27) (.pointer (some ⟨pa, 3, none⟩)) _ rfl rfl (by exact wantA rfl) hs (fun z hz => by go_simp) ?_
  go_frame
  refine ord_to (some 23) 30 Tryz.func30 (by kernel_rfl) (by kernel_rfl) [.slice none 0 0] _ _ _ rfl rfl rfl (by exact wantA rfl) rfl ?_
  refine (clm_nil _).mono ?_
  rintro e z1 ⟨rfl, rfl⟩
  refine ⟨(.slice none 0 0), rfl, hs, ?_⟩
  go_frame
  refine ord_to (some 26) 31 Tryz.func31 (by kernel_rfl) (by kernel_rfl) [v] _ _ _ rfl rfl rfl (by exact wantA rfl) rfl ?_
  refine (HCC.out _ hs.2.2.1).mono ?_
  rintro e z3 ⟨v', rfl, hown, hb3⟩
  obtain ⟨g, cg, hvg, hgb, hgl, hrow⟩ := own_rowF hown (by have := HKL.out; omega)
  rw [HKL.out] at hvg hrow
  subst hvg
  have hs1 : RowF z3 pa 6 (mF v) ∧ RowF z3 pb 6 zM ∧ Below w.heap.size w z3 ∧ pa < z3.heap.size ∧ pb < z3.heap.size := ⟨hs.1.below hb3 hs.2.2.2.1, hs.2.1.below hb3 hs.2.2.2.2, hs.2.2.1.trans (hb3.mono hs.2.2.1.size), Nat.lt_of_lt_of_le hs.2.2.2.1 hb3.size, Nat.lt_of_lt_of_le hs.2.2.2.2 hb3.size⟩
  have HROW := Lib.hid hrow
  have HGL := Lib.hid hgl
  have HGB : Hid (pa < g ∧ pb < g ∧ w.heap.size ≤ g) := Lib.hid (by have h1 := hs.2.2.2.1; have h2 := hs.2.2.2.2; have h3 := hs.2.2.1.size; omega)
  clear hown hgb hrow hgl
  refine ⟨_, rfl, hs1, ?_⟩
  go_frame
  have hs2 : RowF (z3.setCell ⟨pa, 3, none⟩ (.slice none 0 0)) pa 6 (mF v) ∧ RowF (z3.setCell ⟨pa, 3, none⟩ (.slice none 0 0)) pb 6 zM ∧ Below w.heap.size w (z3.setCell ⟨pa, 3, none⟩ (.slice none 0 0)) ∧ pa < (z3.setCell ⟨pa, 3, none⟩ (.slice none 0 0)).heap.size ∧ pb < (z3.setCell ⟨pa, 3, none⟩ (.slice none 0 0)).heap.size := ⟨hs1.1.same (by omega) rfl, hs1.2.1.apart (Ne.symm HNE.out.1) _, below_put hs1.2.2.1 HNE.out.2.1 _, by rw [put_size0]; exact hs1.2.2.2.1, by rw [put_size0]; exact hs1.2.2.2.2⟩
  have dst : z3.cell? ⟨pa, 3, none⟩ = some (.slice none 0 0) := hs1.1.c 3 (by omega)
  have fst := hs1.1.fz 3 (by omega)
  refine ord_skipw none (z3.setCell ⟨pa, 3, none⟩ (.slice none 0 0)) _ rfl rfl (by exact wantA rfl) (by go_simp) hs2 ?_
  go_frame
  clear dst fst
  refine ord_load (some 28) (.pointer (some ⟨pa, 4, none⟩)) _ rfl rfl (by exact wantA rfl) hs2 (fun z hz => by go_simp) ?_
  go_frame
  have hs3 : RowF ((z3.setCell ⟨pa, 3, none⟩ (.slice none 0 0)).setCell ⟨pa, 4, none⟩ (.slice none 0 0)) pa 6 (mF v) ∧ RowF ((z3.setCell ⟨pa, 3, none⟩ (.slice none 0 0)).setCell ⟨pa, 4, none⟩ (.slice none 0 0)) pb 6 zM ∧ Below w.heap.size w ((z3.setCell ⟨pa, 3, none⟩ (.slice none 0 0)).setCell ⟨pa, 4, none⟩ (.slice none 0 0)) ∧ pa < ((z3.setCell ⟨pa, 3, none⟩ (.slice none 0 0)).setCell ⟨pa, 4, none⟩ (.slice none 0 0)).heap.size ∧ pb < ((z3.setCell ⟨pa, 3, none⟩ (.slice none 0 0)).setCell ⟨pa, 4, none⟩ (.slice none 0 0)).heap.size := ⟨hs2.1.same (by omega) rfl, hs2.2.1.apart (Ne.symm HNE.out.1) _, below_put hs2.2.2.1 HNE.out.2.1 _, by rw [put_size0]; exact hs2.2.2.2.1, by rw [put_size0]; exact hs2.2.2.2.2⟩
  have dst : (z3.setCell ⟨pa, 3, none⟩ (.slice none 0 0)).cell? ⟨pa, 4, none⟩ = some (.slice none 0 0) := hs2.1.c 4 (by omega)
  have fst := hs2.1.fz 4 (by omega)
  refine ord_skipw none ((z3.setCell ⟨pa, 3, none⟩ (.slice none 0 0)).setCell ⟨pa, 4, none⟩ (.slice none 0 0)) _ rfl rfl (by exact wantA rfl) (by go_simp) hs3 ?_
  go_frame
  clear dst fst
  refine ord_load (some 29) (.pointer (some ⟨pa, 5, none⟩)) _ rfl rfl (by exact wantA rfl) hs3 (fun z hz => by go_simp) ?_
  go_frame
  refine ord_tail ?_
  simp only [List.drop_succ_cons, List.drop_zero]
  have d5 := hs3.1.c 5 (by omega)
  have f5 := hs3.1.fz 5 (by omega)
  have HRA4 : Hid (RowF (((z3.setCell ⟨pa, 3, none⟩ (.slice none 0 0)).setCell ⟨pa, 4, none⟩ (.slice none 0 0)).setCell ⟨pa, 5, none⟩ (.slice (some ⟨g, 0, none⟩) L.length cg)) pa 6 (mF (.slice (some ⟨g, 0, none⟩) L.length cg))) := Lib.hid ((hs3.1.set (i := 5) (by omega) (.slice (some ⟨g, 0, none⟩) L.length cg)).congr fun i hi => by
    have : i = 0 ∨ i = 1 ∨ i = 2 ∨ i = 3 ∨ i = 4 ∨ i = 5 := by omega
    rcases this with rfl | rfl | rfl | rfl | rfl | rfl <;> rfl)
  have HRB4 := Lib.hid (hs3.2.1.apart (Ne.symm HNE.out.1) (b := pa) (i := 5) (.slice (some ⟨g, 0, none⟩) L.length cg))
  have HBW4 := Lib.hid (below_put (i := 5) hs3.2.2.1 HNE.out.2.1 (.slice (some ⟨g, 0, none⟩) L.length cg))
  have HRW4 := Lib.hid (((HROW.out.apart (Ne.symm (Nat.ne_of_lt HGB.out.1)) (b := pa) (i := 3) (.slice none 0 0)).apart (Ne.symm (Nat.ne_of_lt HGB.out.1)) (b := pa) (i := 4) (.slice none 0 0)).apart (Ne.symm (Nat.ne_of_lt HGB.out.1)) (b := pa) (i := 5) (.slice (some ⟨g, 0, none⟩) L.length cg))
  have HG4a : Hid (pa < (((z3.setCell ⟨pa, 3, none⟩ (.slice none 0 0)).setCell ⟨pa, 4, none⟩ (.slice none 0 0)).setCell ⟨pa, 5, none⟩ (.slice (some ⟨g, 0, none⟩) L.length cg)).heap.size) := Lib.hid (by rw [put_size0]; exact hs3.2.2.2.1)
  have HG4b : Hid (pb < (((z3.setCell ⟨pa, 3, none⟩ (.slice none 0 0)).setCell ⟨pa, 4, none⟩ (.slice none 0 0)).setCell ⟨pa, 5, none⟩ (.slice (some ⟨g, 0, none⟩) L.length cg)).heap.size) := Lib.hid (by rw [put_size0]; exact hs3.2.2.2.2)
  have HG4 : Hid (g < (((z3.setCell ⟨pa, 3, none⟩ (.slice none 0 0)).setCell ⟨pa, 4, none⟩ (.slice none 0 0)).setCell ⟨pa, 5, none⟩ (.slice (some ⟨g, 0, none⟩) L.length cg)).heap.size) := Lib.hid (by rw [put_size0, put_size0, put_size0]; exact HGL.out)
  clear hs hs1 hs2 hs3
  go_upto_region 3 with (fail)
  clear d5 f5 HRA3 HRB3 HBW3 HLA3 HLB3
  generalize ((z3.setCell ⟨pa, 3, none⟩ (.slice none 0 0)).setCell ⟨pa, 4, none⟩ (.slice none 0 0)).setCell ⟨pa, 5, none⟩ (.slice (some ⟨g, 0, none⟩) L.length cg) = W5 at *
  have d3 : W5.cell? ⟨pa, 3, none⟩ = some (.slice none 0 0) := HRA4.out.c 3 (by omega)
  have d4 : W5.cell? ⟨pa, 4, none⟩ = some (.slice none 0 0) := HRA4.out.c 4 (by omega)
  have d5 : W5.cell? ⟨pa, 5, none⟩ = some (.slice (some ⟨g, 0, none⟩) L.length cg) := HRA4.out.c 5 (by omega)
  have hn2 : (L.length : Int) ≤ 100 := by omega
  go_wp2
  go_loopg [33] 0 (fun q x u => q = 0 ∧ x = .int .i64 0 ∧ u = W5)
  case atStart => exact ⟨rfl, rfl, rfl⟩
  case round =>
    obtain ⟨rfl, rfl, hu⟩ := hrel
    have hu2 := hu.symm
    subst hu2
    go_wp2
    go_loopg [60] 0 (fun q x u => q = 0 ∧ x = .int .i64 0 ∧ u = W5)
    case atStart => exact ⟨rfl, rfl, rfl⟩
    case round =>
      obtain ⟨rfl, rfl, hu⟩ := hrel
      have hu2 := hu.symm
      subst hu2
      go_wp2
      clear d3 d4 d5
      obtain ⟨V0, hV0⟩ := HVX.out
      have HI0 : Hid (OwnInv w W5 pa pb g (.slice (some ⟨g, 0, none⟩) L.length cg) L V0) := Lib.hid ⟨HRA4.out, HRB4.out, HRW4.out.congr (fun m hm => cells_nodeF HKL.out (fun i hi k x hk hx => (hV0 i hi k x hk hx).1) m hm), fun j x hx => by
          have hj := (List.getElem?_eq_some_iff.1 hx).1
          have h1 := (hV0 j hj _ x (List.getElem?_eq_getElem (by have := HKL.out; omega)) hx).2
          exact IntsV.outside (SlAt.below h1 HBW4.out fun _ _ _ h => h) HGB.out.2.2 HNE.out.2.2 HBW4.out.size, HBW4.out, HG4a.out, HG4b.out, HG4.out⟩
      clear hV0 HRA4 HRB4 HRW4 HBW4 HG4 HVX
      go_loopg [87] L.length (fun q x u => ∃ (i : Nat) (V : Nat → Value), i + q = L.length ∧ x = .int .i64 i ∧ OwnInv w u pa pb g (.slice (some ⟨g, 0, none⟩) L.length cg) L V)
      case atStart => exact ⟨0, V0, by omega, rfl, HI0.out⟩
      case round =>
        obtain ⟨i, V, hi, rfl, hinv⟩ := hrel
        clear HI0
        have HI := Lib.hid hinv
        clear hinv
        have d5 : wr.cell? ⟨pa, 5, none⟩ = some (.slice (some ⟨g, 0, none⟩) L.length cg) := HI.out.ra.c 5 (by omega)
        cases gk with
        | zero =>
          obtain rfl : i = L.length := by omega
          have hge : ¬ ((L.length : Int) < (L.length : Int)) := by omega
          clear d5
          have HRG := Lib.hid (rowF_range HI.out.ra (cs := plainM (.slice (some ⟨g, 0, none⟩) L.length cg)) rfl (fun i _ => rfl))
          have HTH : Hid (wr.there pb 0 (plainM (.slice (some ⟨g, 0, none⟩) L.length cg)).length) := Lib.hid fun i hi' => by
            have hi : i < 6 := hi'
            rw [Nat.zero_add, HI.out.rb.c i hi]
            refine ⟨?_, HI.out.rb.fz i hi⟩
            unfold zM
            split <;> rfl
          go_wp2_with (first | ((with_reducible refine wl_sload 27 _ rfl ?hw2 pa 0 (plainM (.slice (some ⟨g, 0, none⟩) L.length cg)) _ rfl HRG.out Tryz.underlying27 rfl ?hi2 ?_); (case hw2 => exact wantA rfl); (case hi2 => kernel_rfl)) | ((with_reducible refine wl_sstore 27 _ _ rfl ?hw3 pb 0 (plainM (.slice (some ⟨g, 0, none⟩) L.length cg)) rfl rfl HTH.out ?hi3 ?h13 ?_); (case hw3 => exact wantA rfl); (case hi3 => kernel_rfl); (case h13 => exact plainM_ones)))
          have hres := World.rangeAt_setCells_same wr pb 0 (plainM (.slice (some ⟨g, 0, none⟩) L.length cg)) HTH.out
          have hbl : Below w.heap.size w (wr.setCells pb 0 (plainM (.slice (some ⟨g, 0, none⟩) L.length cg))) := below_sets HI.out.bel HNE.out.2.2 _ 0
          have hpl := HI.out.done (c := cg) ⟨HGB.out.2.1, HNE.out.2.2⟩ hL HLL.out (plainM (.slice (some ⟨g, 0, none⟩) L.length cg))
          refine bodyPost_ret (results_cell rfl Tryz.underlying27 rfl _ _ pb (plainM (.slice (some ⟨g, 0, none⟩) L.length cg)) (by kernel_rfl) rfl hres) rfl ?_
          exact ⟨(.slice (some ⟨g, 0, none⟩) L.length cg), rfl, hpl, hbl⟩
        | succ q =>
          have hlt : (i : Int) < (L.length : Int) := by omega
          have hin : i < L.length := by omega
          obtain ⟨x, hx⟩ : ∃ x, L[i]? = some x := ⟨_, List.getElem?_eq_getElem hin⟩
          have HX := Lib.hid hx
          clear hx
          go_upto_region 19 with (fail)
          clear d5
          refine wp_region_ord [(0, true), (1, true), (2, true), (3, true), (4, true), (7, true), (8, true), (9, true), (10, true), (5, false), (6, false), (11, false), (12, true), (13, true), (14, false), (15, true), (16, true), (17, false)]
            (fun z => z.cell? ⟨g, i * 29 + 3, none⟩ = some (.slice none 0 0)) (by kernel_rfl) (by kernel_rfl) (by kernel_rfl) rfl (by intro c a d v w h; cases d <;> exact h) ?_
          have hb0 : Below wr.heap.size wr wr.drew := (Below.refl _ wr).drew
          have HI0 := Lib.hid (HI.out.below hb0)
          have hs : wr.drew.cell? ⟨g, i * 29 + 3, none⟩ = some (.slice none 0 0) := HI0.out.cell hin 3 (by omega)
          refine ord_move (some 94) (.pointer (some ⟨g, i * 29, none⟩)) _ _ rfl rfl rfl (by exact wantA rfl) hs rfl ?_
          go_frame
          refine ord_move (some 95) (.pointer (some ⟨g, i * 29, none⟩)) _ _ rfl rfl rfl (by exact wantA rfl) hs rfl ?_
          go_frame
          refine ord_move (some 96) (.pointer (some ⟨g, i * 29, none⟩)) _ _ rfl rfl rfl (by exact wantA rfl) hs rfl ?_
          go_frame
          refine ord_load (some 97) (.pointer (some ⟨g, i * 29, none⟩)) _ rfl rfl (by exact wantA rfl) hs (fun z hz => by go_simp) ?_
          go_frame
          refine ord_load (some 98) (.pointer (some ⟨g, i * 29 + 2, none⟩)) _ rfl rfl (by exact wantA rfl) hs (fun z hz => by go_simp) ?_
          go_frame
          refine ord_move (some 101) (.pointer (some ⟨g, i * 29, none⟩)) _ _ rfl rfl rfl (by exact wantA rfl) hs rfl ?_
          go_frame
          refine ord_load (some 102) (.pointer (some ⟨g, i * 29, none⟩)) _ rfl rfl (by exact wantA rfl) hs (fun z hz => by go_simp) ?_
          go_frame
          refine ord_load (some 103) (.pointer (some ⟨g, i * 29 + 3, none⟩)) _ rfl rfl (by exact wantA rfl) hs (fun z hz => by go_simp) ?_
          go_frame
          refine ord_load (some 104) (.slice none 0 0) _ rfl rfl (by exact wantA rfl) hs (fun z hz => by have dd := hz; go_simp) ?_
          go_frame
          have d99 : wr.drew.cell? ⟨g, i * 29 + 2, none⟩ = some (V i) := HI0.out.cell hin 2 (by omega)
          refine ord_run (some 99) (V i) wr.drew _ rfl rfl (by exact wantA rfl) (by go_simp) hs ?_
          go_frame
          clear d99
          refine ord_to (some 100) 34 Tryz.func34 (by kernel_rfl) (by kernel_rfl) [V i] _ _ _ rfl rfl rfl (by exact wantA rfl) rfl ?_
          refine (clone_ints _ g pb (V i) x.1 (HI0.out.ls i x HX.out) HI0.out.lg HI0.out.lb (HLL.out x (List.mem_of_getElem? HX.out))).mono ?_
          rintro e z1 ⟨v', rfl, hig, hb1⟩
          obtain ⟨Ai, ci, hvi, hrest⟩ := id hig
          clear hrest
          subst hvi
          have HI1 := Lib.hid (HI0.out.below hb1)
          have HIG := Lib.hid hig
          clear hig hb1
          have hs1 : z1.cell? ⟨g, i * 29 + 3, none⟩ = some (.slice none 0 0) := HI1.out.cell hin 3 (by omega)
          refine ⟨_, rfl, hs1, ?_⟩
          go_frame
          refine ord_to (some 105) 35 Tryz.func35 (by kernel_rfl) (by kernel_rfl) [.slice none 0 0] _ _ _ rfl rfl rfl (by exact wantA rfl) rfl ?_
          refine (clx_nil _).mono ?_
          rintro e z2 ⟨rfl, hz2⟩
          have hz3 := hz2.symm
          subst hz3
          refine ⟨.slice none 0 0, rfl, hs1, ?_⟩
          go_frame
          refine ord_load (some 106) (.pointer (some ⟨g, i * 29, none⟩)) _ rfl rfl (by exact wantA rfl) hs1 (fun z hz => by go_simp) ?_
          go_frame
          refine ord_load (some 107) (.pointer (some ⟨g, i * 29 + 2, none⟩)) _ rfl rfl (by exact wantA rfl) hs1 (fun z hz => by go_simp) ?_
          go_frame
          have HI2 := Lib.hid (HI1.out.next HGB.out HX.out HIG.out)
          have hs2 : (z1.setCell ⟨g, i * 29 + 2, none⟩ (.slice Ai x.1.length ci)).cell? ⟨g, i * 29 + 3, none⟩ = some (.slice none 0 0) := HI2.out.cell hin 3 (by omega)
          have d2 : z1.cell? ⟨g, i * 29 + 2, none⟩ = some (V i) := HI1.out.cell hin 2 (by omega)
          have f2 := HI1.out.fz hin 2 (by omega)
          refine ord_skipw none (z1.setCell ⟨g, i * 29 + 2, none⟩ (.slice Ai x.1.length ci)) _ rfl rfl (by exact wantA rfl) (by go_simp) hs2 ?_
          go_frame
          clear d2 f2
          refine ord_load (some 108) (.pointer (some ⟨g, i * 29, none⟩)) _ rfl rfl (by exact wantA rfl) hs2 (fun z hz => by go_simp) ?_
          go_frame
          refine ord_load (some 109) (.pointer (some ⟨g, i * 29 + 3, none⟩)) _ rfl rfl (by exact wantA rfl) hs2 (fun z hz => by go_simp) ?_
          go_frame
          have HI3 : Hid (OwnInv w ((z1.setCell ⟨g, i * 29 + 2, none⟩ (.slice Ai x.1.length ci)).setCell ⟨g, i * 29 + 3, none⟩ (.slice none 0 0)) pa pb g (.slice (some ⟨g, 0, none⟩) L.length cg) L (fun j => if j = i then (.slice Ai x.1.length ci) else V j)) := Lib.hid (HI2.out.sets HGB.out [.slice none 0 0] (i * 29 + 3) fun r u hu => by
            have hr : r = 0 := by have := (List.getElem?_eq_some_iff.1 hu).1; simp only [List.length_singleton] at this; omega
            subst hr
            injection hu with hu
            refine ⟨by omega, ?_⟩
            rw [Nat.add_zero, nodeF_at _ _ _ _ (by omega), ← hu]
            rfl)
          have hs3 : ((z1.setCell ⟨g, i * 29 + 2, none⟩ (.slice Ai x.1.length ci)).setCell ⟨g, i * 29 + 3, none⟩ (.slice none 0 0)).cell? ⟨g, i * 29 + 3, none⟩ = some (.slice none 0 0) := HI3.out.cell hin 3 (by omega)
          have f3 := HI2.out.fz hin 3 (by omega)
          refine ord_skipw none ((z1.setCell ⟨g, i * 29 + 2, none⟩ (.slice Ai x.1.length ci)).setCell ⟨g, i * 29 + 3, none⟩ (.slice none 0 0)) _ rfl rfl (by exact wantA rfl) (by go_simp) hs3 ?_
          go_frame
          refine ord_end ?_
          clear hs hs1 hs2 f3 hb0 HI HIG HI0 HI1 HI2
          generalize ((z1.setCell ⟨g, i * 29 + 2, none⟩ (.slice Ai x.1.length ci)).setCell ⟨g, i * 29 + 3, none⟩ (.slice none 0 0)) = W6 at *
          generalize (fun j => if j = i then ((.slice Ai x.1.length ci) : Value) else V j) = V6 at *
          have d3 := hs3
          clear hs3
          go_wp2
          go_loopg [115] 0 (fun q x u => q = 0 ∧ x = .int .i64 0 ∧ u = W6)
          case atStart => exact ⟨rfl, rfl, rfl⟩
          case round =>
            obtain ⟨rfl, rfl, hu⟩ := hrel
            have hu2 := hu.symm
            subst hu2
            go_upto_region 25 with (fail)
            clear d3
            refine wp_region_ord [(0, true), (1, true), (2, true), (3, true), (4, true), (5, true), (7, true), (8, true), (9, true), (10, true), (6, false), (11, false), (12, true), (13, true), (14, false), (15, true), (16, true), (17, false)]
              (fun z => z.rangeAt g (i * 29 + 4) encX ∧ z.rangeAt g (i * 29 + 14) encX) (by kernel_rfl) (by kernel_rfl) (by kernel_rfl) rfl (by intro c a d v w h; cases d <;> exact h) ?_
            have HI6 := Lib.hid (HI3.out.below (Below.refl _ W6).drew)
            have hs : W6.drew.rangeAt g (i * 29 + 4) encX ∧ W6.drew.rangeAt g (i * 29 + 14) encX := ⟨HI6.out.rangeX hin 4 (.inl rfl), HI6.out.rangeX hin 14 (.inr rfl)⟩
            refine ord_move (some 133) (.pointer (some ⟨g, i * 29, none⟩)) _ _ rfl rfl rfl (by exact wantA rfl) hs rfl ?_
            go_frame
            refine ord_move (some 134) (.pointer (some ⟨g, i * 29, none⟩)) _ _ rfl rfl rfl (by exact wantA rfl) hs rfl ?_
            go_frame
            refine ord_move (some 135) (.pointer (some ⟨g, i * 29, none⟩)) _ _ rfl rfl rfl (by exact wantA rfl) hs rfl ?_
            go_frame
            refine ord_load (some 136) (.pointer (some ⟨g, i * 29, none⟩)) _ rfl rfl (by exact wantA rfl) hs (fun z hz => by go_simp) ?_
            go_frame
            refine ord_load (some 137) (.pointer (some ⟨g, i * 29 + 4, none⟩)) _ rfl rfl (by exact wantA rfl) hs (fun z hz => by go_simp) ?_
            go_frame
            refine ord_load (some 138) (.agg ⟨encX⟩) _ rfl rfl (by exact wantA rfl) hs (fun z hz => exec_sload 40 rfl g (i * 29 + 4) encX _ rfl hz.1 Tryz.underlying40 rfl (by kernel_rfl)) ?_
            go_frame
            refine ord_move (some 140) (.pointer (some ⟨g, i * 29, none⟩)) _ _ rfl rfl rfl (by exact wantA rfl) hs rfl ?_
            go_frame
            refine ord_load (some 141) (.pointer (some ⟨g, i * 29, none⟩)) _ rfl rfl (by exact wantA rfl) hs (fun z hz => by go_simp) ?_
            go_frame
            refine ord_load (some 142) (.pointer (some ⟨g, i * 29 + 14, none⟩)) _ rfl rfl (by exact wantA rfl) hs (fun z hz => by go_simp) ?_
            go_frame
            refine ord_load (some 143) (.agg ⟨encX⟩) _ rfl rfl (by exact wantA rfl) hs (fun z hz => exec_sload 40 rfl g (i * 29 + 14) encX _ rfl hz.2 Tryz.underlying40 rfl (by kernel_rfl)) ?_
            go_frame
            refine ord_to (some 139) 36 Tryz.func36 (by kernel_rfl) (by kernel_rfl) [.agg ⟨encX⟩] _ _ _ rfl rfl rfl (by exact wantA rfl) rfl ?_
            refine (ownx_zero _).mono ?_
            rintro e z7 ⟨rfl, hb7⟩
            have HI7 := Lib.hid (HI6.out.below hb7)
            have hs1 : z7.rangeAt g (i * 29 + 4) encX ∧ z7.rangeAt g (i * 29 + 14) encX := ⟨HI7.out.rangeX hin 4 (.inl rfl), HI7.out.rangeX hin 14 (.inr rfl)⟩
            refine ⟨(.agg ⟨encX⟩), rfl, hs1, ?_⟩
            go_frame
            refine ord_to (some 144) 36 Tryz.func36 (by kernel_rfl) (by kernel_rfl) [.agg ⟨encX⟩] _ _ _ rfl rfl rfl (by exact wantA rfl) rfl ?_
            refine (ownx_zero _).mono ?_
            rintro e z8 ⟨rfl, hb8⟩
            have HI8 := Lib.hid (HI7.out.below hb8)
            have hs2 : z8.rangeAt g (i * 29 + 4) encX ∧ z8.rangeAt g (i * 29 + 14) encX := ⟨HI8.out.rangeX hin 4 (.inl rfl), HI8.out.rangeX hin 14 (.inr rfl)⟩
            refine ⟨(.agg ⟨encX⟩), rfl, hs2, ?_⟩
            go_frame
            refine ord_load (some 145) (.pointer (some ⟨g, i * 29, none⟩)) _ rfl rfl (by exact wantA rfl) hs2 (fun z hz => by go_simp) ?_
            go_frame
            refine ord_load (some 146) (.pointer (some ⟨g, i * 29 + 4, none⟩)) _ rfl rfl (by exact wantA rfl) hs2 (fun z hz => by go_simp) ?_
            go_frame
            have HI9 := Lib.hid (HI8.out.setX HGB.out hin 4 (.inl rfl))
            have hs3 : (z8.setCells g (i * 29 + 4) encX).rangeAt g (i * 29 + 4) encX ∧ (z8.setCells g (i * 29 + 4) encX).rangeAt g (i * 29 + 14) encX := ⟨HI9.out.rangeX hin 4 (.inl rfl), HI9.out.rangeX hin 14 (.inr rfl)⟩
            refine ord_sstore none 40 _ _ _ rfl rfl rfl (by exact wantA rfl) g (i * 29 + 4) encX rfl rfl (HI8.out.thereX hin 4 (.inl rfl)) (by kernel_rfl) encX_ones hs3 ?_
            go_frame
            refine ord_load (some 147) (.pointer (some ⟨g, i * 29, none⟩)) _ rfl rfl (by exact wantA rfl) hs3 (fun z hz => by go_simp) ?_
            go_frame
            refine ord_load (some 148) (.pointer (some ⟨g, i * 29 + 14, none⟩)) _ rfl rfl (by exact wantA rfl) hs3 (fun z hz => by go_simp) ?_
            go_frame
            have HI10 := Lib.hid (HI9.out.setX HGB.out hin 14 (.inr rfl))
            have hs4 : ((z8.setCells g (i * 29 + 4) encX).setCells g (i * 29 + 14) encX).rangeAt g (i * 29 + 4) encX ∧ ((z8.setCells g (i * 29 + 4) encX).setCells g (i * 29 + 14) encX).rangeAt g (i * 29 + 14) encX := ⟨HI10.out.rangeX hin 4 (.inl rfl), HI10.out.rangeX hin 14 (.inr rfl)⟩
            refine ord_sstore none 40 _ _ _ rfl rfl rfl (by exact wantA rfl) g (i * 29 + 14) encX rfl rfl (HI9.out.thereX hin 14 (.inr rfl)) (by kernel_rfl) encX_ones hs4 ?_
            go_frame
            refine ord_end ?_
            clear hs hs1 hs2 hs3 hs4 hb7 hb8
            go_wp2
            go_roundg q
            case measure => omega
            case rel => exact ⟨i + 1, V6, by omega, by go_num, HI10.out⟩
end Go.Proofs.YtpmjcbjdcjjplaaGreat
end
section
namespace Go.Proofs.YtpmjcbjdcjjplaaGreat
open Go Go.RowKit
set_option linter.unusedVariables false
theorem plain_graph {w : World} {v : Value} {L : List (List Int × Int)} (h : PlainAt w v L) (hw : ∀ x ∈ L, wfI x.2 ∧ ∀ t ∈ x.1, wfI t) : GraphAt w w.heap.size v (L.map fun x => ⟨x.1, x.2, 0⟩) := by
  obtain ⟨h0, A, c, hv, h1⟩ := h
  refine ⟨by rw [List.length_map]; exact h0, A, c, by rw [List.length_map]; exact hv, fun hp => ?_⟩
  obtain ⟨b, o, hb, hlt, h2⟩ := h1 (by simpa using hp)
  refine ⟨b, o, hb, hlt, fun i x hx => ?_⟩
  rw [List.getElem?_map] at hx
  obtain ⟨y, hy, rfl⟩ := Option.map_eq_some_iff.1 hx
  obtain ⟨cs, h3, h4, v1, h5, h6⟩ := h2 i y hy
  have hwy := hw y (List.mem_of_getElem? hy)
  subst h5
  refine ⟨_, h3, h4, ⟨⟨v1, rfl, ?_⟩, rfl, rfl, ?_, hwy.1, (show wfI 0 from rfl)⟩⟩
  · obtain ⟨k0, A', c', hv', k1⟩ := h6
    refine ⟨k0, A', c', hv', fun h0 => ?_⟩
    obtain ⟨b', o', e1, e2, e3⟩ := k1 h0
    refine ⟨b', o', e1, e2, fun j t ht => ?_⟩
    obtain ⟨ks, f1, f2, f3⟩ := e3 j t ht
    have f3' : ks = encI t := f3
    exact ⟨ks, f1, f2, f3', hwy.2 t (List.mem_of_getElem? ht)⟩
  · obtain ⟨_, A', c', hv', _⟩ := h6
    subst hv'
    exact encC_ones
def L12 : List (List Int × Int) := [([1], -1), ([2, 0], 2), ([], -1)]
theorem L12_edges : edgesOf (L12.map fun x => (⟨x.1, x.2, 0⟩ : GN)) = [(0, 0, 1), (1, 0, 2), (1, 1, 0), (1, 2, 2)] := by decide +kernel
theorem L12_into : intoL (L12.map fun x => (⟨x.1, x.2, 0⟩ : GN)) 2 = [1, 3] := by decide +kernel
theorem L12_out : outK (edgesOf (L12.map fun x => (⟨x.1, x.2, 0⟩ : GN))) 1 2 = 3 := by decide +kernel
theorem L12_out2 : outK (edgesOf (L12.map fun x => (⟨x.1, x.2, 0⟩ : GN))) 2 0 = -1 := by decide +kernel
theorem L12_reach : reachL (L12.map fun x => (⟨x.1, x.2, 0⟩ : GN)) 0 = [0, 1, 2] := by decide +kernel
theorem L12_reach2 : reachL (L12.map fun x => (⟨x.1, x.2, 0⟩ : GN)) 2 = [] := by decide +kernel
theorem L12_wf : ∀ x ∈ L12, wfI x.2 ∧ ∀ t ∈ x.1, wfI t := by unfold wfI; decide +kernel
end Go.Proofs.YtpmjcbjdcjjplaaGreat
end
section
namespace Go.Proofs.YtpmjcbjdcjjplaaGreat
open Go Go.RowKit
set_option linter.unusedVariables false
theorem one_int {W : World} {b : Nat} {l : List Int} (h : ∀ (j : Nat) v, (l.map fun x => Value.int .i64 x)[j]? = some v → W.cell? ⟨b, j, none⟩ = some v) (hb : b < W.heap.size) (hl : l.length ≤ 100) : SlAt W W.heap.size 1 (Enc encI) (.slice (some ⟨b, 0, none⟩) l.length l.length) l := by
  refine ⟨by omega, _, _, rfl, fun _ => ⟨b, 0, rfl, hb, fun i x hx => ⟨encI x, rfl, fun j u hu => ?_, rfl⟩⟩⟩
  have hj : j = 0 := by
    have := (List.getElem?_eq_some_iff.1 hu).1
    have h6 : (encI x).length = 1 := rfl
    omega
  subst hj
  injection hu with hu
  rw [← hu, Nat.mul_one, Nat.add_zero, Nat.zero_add]
  exact h i _ (by rw [List.getElem?_map, hx]; rfl)
theorem plain12 {W : World} {b1 b2 b3 : Nat} (h1 : ∀ (j : Nat) v, [Value.int .i64 1][j]? = some v → W.cell? ⟨b1, j, none⟩ = some v) (h2 : ∀ (j : Nat) v, [Value.int .i64 2, Value.int .i64 0][j]? = some v → W.cell? ⟨b2, j, none⟩ = some v)
    (h3 : ∀ (j : Nat) v, (encC (.slice (some ⟨b1, 0, none⟩) 1 1) (-1) ++ encC (.slice (some ⟨b2, 0, none⟩) 2 2) 2 ++ encC (.slice none 0 0) (-1))[j]? = some v → W.cell? ⟨b3, j, none⟩ = some v) (hb : b1 < W.heap.size ∧ b2 < W.heap.size ∧ b3 < W.heap.size) :
    PlainAt W (.slice (some ⟨b3, 0, none⟩) 3 3) L12 := by
  refine ⟨by decide, _, _, rfl, fun _ => ⟨b3, 0, rfl, hb.2.2, fun i x hx => ?_⟩⟩
  have hi : i < 3 := (List.getElem?_eq_some_iff.1 hx).1
  match i, hi with
  | 0, _ =>
    injection hx with hx
    subst hx
    exact ⟨_, rfl, fun j u hu => by
      rw [Nat.zero_mul, Nat.add_zero, Nat.zero_add]
      have hj : j < 29 := (List.getElem?_eq_some_iff.1 hu).1
      exact h3 j u (by rw [List.append_assoc, List.getElem?_append_left (by rw [encC_len]; omega)]; exact hu), _, rfl, one_int (l := [1]) h1 hb.1 (by decide)⟩
  | 1, _ =>
    injection hx with hx
    subst hx
    exact ⟨_, rfl, fun j u hu => by
      have hj : j < 29 := (List.getElem?_eq_some_iff.1 hu).1
      exact h3 (0 + 1 * 29 + j) u (by
        rw [List.append_assoc, List.getElem?_append_right (by rw [encC_len]; omega), encC_len, List.getElem?_append_left (by rw [encC_len]; omega), show 0 + 1 * 29 + j - 29 = j by omega]
        exact hu), _, rfl, one_int (l := [2, 0]) h2 hb.2.1 (by decide)⟩
  | 2, _ =>
    injection hx with hx
    subst hx
    exact ⟨_, rfl, fun j u hu => by
      have hj : j < 29 := (List.getElem?_eq_some_iff.1 hu).1
      exact h3 (0 + 2 * 29 + j) u (by
        rw [List.append_assoc, List.getElem?_append_right (by rw [encC_len]; omega), encC_len, List.getElem?_append_right (by rw [encC_len]; omega), encC_len, show 0 + 2 * 29 + j - 29 - 29 = j by omega]
        exact hu), _, rfl, ⟨by decide, none, 0, rfl, fun h0 => absurd h0 (Nat.lt_irrefl 0)⟩⟩
def t12c : OrdT := .act 30 (.take 31 (.take 32 (.take 33 (.act 34 (.take 35 (.take 36 (.take 37 (.take 38 (.take 39 (.take 40 (.act 41 (.act 42 (.take 43 (.take 44 .done))))))))))))))
def t12b : OrdT := .act 14 (.take 15 (.take 16 (.take 17 (.act 18 (.take 19 (.take 20 (.take 21 (.take 22 (.act 23 (.take 24 (.take 25 (.take 26 (.take 27 (.two 28 29 (.act 29 t12c) (.act 28 t12c)))))))))))))))
def t12a : OrdT := .take 0 (.take 1 (.take 2 (.take 3 (.take 4 (.take 5 (.take 6 (.take 7 (.take 8 (.take 9 (.take 10 (.take 11 (.two 12 13 (.act 13 t12b) (.act 12 t12b)))))))))))))
set_option maxHeartbeats 4000000 in
set_option maxRecDepth 100000 in
theorem awake12 (w : World) : Calls Tryz.prog 4 #[] w fun e w' => e = .returned (.bool true) ∧ Below w.heap.size w w' := by
  go_enter Tryz.func4, Tryz.ntmps4
  go_upto_region 2 with (fail)
  have HC1 : Hid (∀ (j : Nat) v, [Value.int .i64 1][j]? = some v → (w.alloc (.cells #[Value.int .i64 1] 3)).cell? ⟨w.heap.size, j, none⟩ = some v) := Lib.hid (cells_box w [Value.int .i64 1] 3)
  have HB1 := Lib.hid (box_below w (.cells #[Value.int .i64 1] 3))
  have HS1 : Hid ((w.alloc (.cells #[Value.int .i64 1] 3)).heap.size = w.heap.size + 1) := Lib.hid (by simp)
  generalize w.alloc (.cells #[Value.int .i64 1] 3) = W1 at *
  have HC2 : Hid (∀ (j : Nat) v, [Value.int .i64 2, Value.int .i64 0][j]? = some v → (W1.alloc (.cells #[Value.int .i64 2, Value.int .i64 0] 3)).cell? ⟨W1.heap.size, j, none⟩ = some v) := Lib.hid (cells_box W1 [Value.int .i64 2, Value.int .i64 0] 3)
  have HB2 := Lib.hid (box_below W1 (.cells #[Value.int .i64 2, Value.int .i64 0] 3))
  have HS2 : Hid ((W1.alloc (.cells #[Value.int .i64 2, Value.int .i64 0] 3)).heap.size = W1.heap.size + 1) := Lib.hid (by simp)
  generalize W1.alloc (.cells #[Value.int .i64 2, Value.int .i64 0] 3) = W2 at *
  obtain ⟨b1, hb1⟩ : ∃ b1, w.heap.size = b1 := ⟨_, rfl⟩
  obtain ⟨b2, hb2⟩ : ∃ b2, b1 + 1 = b2 := ⟨_, rfl⟩
  obtain ⟨b3, hb3⟩ : ∃ b3, b2 + 1 = b3 := ⟨_, rfl⟩
  obtain ⟨mb, hmb⟩ : ∃ mb, b3 + 1 = mb := ⟨_, rfl⟩
  rw [hb1, hb2, hb3, hmb]
  have HC3 : Hid (∀ (j : Nat) v, (encC (Value.slice (some ⟨b1, 0, none⟩) 1 1) (-1) ++ encC (Value.slice (some ⟨b2, 0, none⟩) 2 2) 2 ++ encC (Value.slice none 0 0) (-1))[j]? = some v → (W2.alloc (.cells #[Value.int .i64 0, Value.int .i64 0, Value.slice (some ⟨b1, 0, none⟩) 1 1, Value.slice none 0 0, Value.int .i64 0, Value.string ⟨#[]⟩, Value.int .i64 0, Value.int .i64 0, Value.float .f64 0, Value.string ⟨#[]⟩, Value.slice none 0 0, Value.slice none 0 0, Value.slice none 0 0, Value.slice none 0 0, Value.int .i64 0, Value.string ⟨#[]⟩, Value.int .i64 0, Value.int .i64 0, Value.float .f64 0, Value.string ⟨#[]⟩, Value.slice none 0 0, Value.slice none 0 0, Value.slice none 0 0, Value.slice none 0 0, Value.int .i64 0, Value.int .i64 0, Value.int .i64 (-1), Value.int .i64 0, Value.int .i64 0, Value.int .i64 0, Value.int .i64 0, Value.slice (some ⟨b2, 0, none⟩) 2 2, Value.slice none 0 0, Value.int .i64 0, Value.string ⟨#[]⟩, Value.int .i64 0, Value.int .i64 0, Value.float .f64 0, Value.string ⟨#[]⟩, Value.slice none 0 0, Value.slice none 0 0, Value.slice none 0 0, Value.slice none 0 0, Value.int .i64 0, Value.string ⟨#[]⟩, Value.int .i64 0, Value.int .i64 0, Value.float .f64 0, Value.string ⟨#[]⟩, Value.slice none 0 0, Value.slice none 0 0, Value.slice none 0 0, Value.slice none 0 0, Value.int .i64 0, Value.int .i64 0, Value.int .i64 2, Value.int .i64 0, Value.int .i64 0, Value.int .i64 0, Value.int .i64 0, Value.slice none 0 0, Value.slice none 0 0, Value.int .i64 0, Value.string ⟨#[]⟩, Value.int .i64 0, Value.int .i64 0, Value.float .f64 0, Value.string ⟨#[]⟩, Value.slice none 0 0, Value.slice none 0 0, Value.slice none 0 0, Value.slice none 0 0, Value.int .i64 0, Value.string ⟨#[]⟩, Value.int .i64 0, Value.int .i64 0, Value.float .f64 0, Value.string ⟨#[]⟩, Value.slice none 0 0, Value.slice none 0 0, Value.slice none 0 0, Value.slice none 0 0, Value.int .i64 0, Value.int .i64 0, Value.int .i64 (-1), Value.int .i64 0, Value.int .i64 0] 42)).cell? ⟨W2.heap.size, j, none⟩ = some v) := Lib.hid (cells_box W2 (encC (Value.slice (some ⟨b1, 0, none⟩) 1 1) (-1) ++ encC (Value.slice (some ⟨b2, 0, none⟩) 2 2) 2 ++ encC (Value.slice none 0 0) (-1)) 42)
  have HB3 := Lib.hid (box_below W2 (.cells #[Value.int .i64 0, Value.int .i64 0, Value.slice (some ⟨b1, 0, none⟩) 1 1, Value.slice none 0 0, Value.int .i64 0, Value.string ⟨#[]⟩, Value.int .i64 0, Value.int .i64 0, Value.float .f64 0, Value.string ⟨#[]⟩, Value.slice none 0 0, Value.slice none 0 0, Value.slice none 0 0, Value.slice none 0 0, Value.int .i64 0, Value.string ⟨#[]⟩, Value.int .i64 0, Value.int .i64 0, Value.float .f64 0, Value.string ⟨#[]⟩, Value.slice none 0 0, Value.slice none 0 0, Value.slice none 0 0, Value.slice none 0 0, Value.int .i64 0, Value.int .i64 0, Value.int .i64 (-1), Value.int .i64 0, Value.int .i64 0, Value.int .i64 0, Value.int .i64 0, Value.slice (some ⟨b2, 0, none⟩) 2 2, Value.slice none 0 0, Value.int .i64 0, Value.string ⟨#[]⟩, Value.int .i64 0, Value.int .i64 0, Value.float .f64 0, Value.string ⟨#[]⟩, Value.slice none 0 0, Value.slice none 0 0, Value.slice none 0 0, Value.slice none 0 0, Value.int .i64 0, Value.string ⟨#[]⟩, Value.int .i64 0, Value.int .i64 0, Value.float .f64 0, Value.string ⟨#[]⟩, Value.slice none 0 0, Value.slice none 0 0, Value.slice none 0 0, Value.slice none 0 0, Value.int .i64 0, Value.int .i64 0, Value.int .i64 2, Value.int .i64 0, Value.int .i64 0, Value.int .i64 0, Value.int .i64 0, Value.slice none 0 0, Value.slice none 0 0, Value.int .i64 0, Value.string ⟨#[]⟩, Value.int .i64 0, Value.int .i64 0, Value.float .f64 0, Value.string ⟨#[]⟩, Value.slice none 0 0, Value.slice none 0 0, Value.slice none 0 0, Value.slice none 0 0, Value.int .i64 0, Value.string ⟨#[]⟩, Value.int .i64 0, Value.int .i64 0, Value.float .f64 0, Value.string ⟨#[]⟩, Value.slice none 0 0, Value.slice none 0 0, Value.slice none 0 0, Value.slice none 0 0, Value.int .i64 0, Value.int .i64 0, Value.int .i64 (-1), Value.int .i64 0, Value.int .i64 0] 42))
  have HS3 : Hid ((W2.alloc (.cells #[Value.int .i64 0, Value.int .i64 0, Value.slice (some ⟨b1, 0, none⟩) 1 1, Value.slice none 0 0, Value.int .i64 0, Value.string ⟨#[]⟩, Value.int .i64 0, Value.int .i64 0, Value.float .f64 0, Value.string ⟨#[]⟩, Value.slice none 0 0, Value.slice none 0 0, Value.slice none 0 0, Value.slice none 0 0, Value.int .i64 0, Value.string ⟨#[]⟩, Value.int .i64 0, Value.int .i64 0, Value.float .f64 0, Value.string ⟨#[]⟩, Value.slice none 0 0, Value.slice none 0 0, Value.slice none 0 0, Value.slice none 0 0, Value.int .i64 0, Value.int .i64 0, Value.int .i64 (-1), Value.int .i64 0, Value.int .i64 0, Value.int .i64 0, Value.int .i64 0, Value.slice (some ⟨b2, 0, none⟩) 2 2, Value.slice none 0 0, Value.int .i64 0, Value.string ⟨#[]⟩, Value.int .i64 0, Value.int .i64 0, Value.float .f64 0, Value.string ⟨#[]⟩, Value.slice none 0 0, Value.slice none 0 0, Value.slice none 0 0, Value.slice none 0 0, Value.int .i64 0, Value.string ⟨#[]⟩, Value.int .i64 0, Value.int .i64 0, Value.float .f64 0, Value.string ⟨#[]⟩, Value.slice none 0 0, Value.slice none 0 0, Value.slice none 0 0, Value.slice none 0 0, Value.int .i64 0, Value.int .i64 0, Value.int .i64 2, Value.int .i64 0, Value.int .i64 0, Value.int .i64 0, Value.int .i64 0, Value.slice none 0 0, Value.slice none 0 0, Value.int .i64 0, Value.string ⟨#[]⟩, Value.int .i64 0, Value.int .i64 0, Value.float .f64 0, Value.string ⟨#[]⟩, Value.slice none 0 0, Value.slice none 0 0, Value.slice none 0 0, Value.slice none 0 0, Value.int .i64 0, Value.string ⟨#[]⟩, Value.int .i64 0, Value.int .i64 0, Value.float .f64 0, Value.string ⟨#[]⟩, Value.slice none 0 0, Value.slice none 0 0, Value.slice none 0 0, Value.slice none 0 0, Value.int .i64 0, Value.int .i64 0, Value.int .i64 (-1), Value.int .i64 0, Value.int .i64 0] 42)).heap.size = W2.heap.size + 1) := Lib.hid (by simp)
  generalize W2.alloc (.cells #[Value.int .i64 0, Value.int .i64 0, Value.slice (some ⟨b1, 0, none⟩) 1 1, Value.slice none 0 0, Value.int .i64 0, Value.string ⟨#[]⟩, Value.int .i64 0, Value.int .i64 0, Value.float .f64 0, Value.string ⟨#[]⟩, Value.slice none 0 0, Value.slice none 0 0, Value.slice none 0 0, Value.slice none 0 0, Value.int .i64 0, Value.string ⟨#[]⟩, Value.int .i64 0, Value.int .i64 0, Value.float .f64 0, Value.string ⟨#[]⟩, Value.slice none 0 0, Value.slice none 0 0, Value.slice none 0 0, Value.slice none 0 0, Value.int .i64 0, Value.int .i64 0, Value.int .i64 (-1), Value.int .i64 0, Value.int .i64 0, Value.int .i64 0, Value.int .i64 0, Value.slice (some ⟨b2, 0, none⟩) 2 2, Value.slice none 0 0, Value.int .i64 0, Value.string ⟨#[]⟩, Value.int .i64 0, Value.int .i64 0, Value.float .f64 0, Value.string ⟨#[]⟩, Value.slice none 0 0, Value.slice none 0 0, Value.slice none 0 0, Value.slice none 0 0, Value.int .i64 0, Value.string ⟨#[]⟩, Value.int .i64 0, Value.int .i64 0, Value.float .f64 0, Value.string ⟨#[]⟩, Value.slice none 0 0, Value.slice none 0 0, Value.slice none 0 0, Value.slice none 0 0, Value.int .i64 0, Value.int .i64 0, Value.int .i64 2, Value.int .i64 0, Value.int .i64 0, Value.int .i64 0, Value.int .i64 0, Value.slice none 0 0, Value.slice none 0 0, Value.int .i64 0, Value.string ⟨#[]⟩, Value.int .i64 0, Value.int .i64 0, Value.float .f64 0, Value.string ⟨#[]⟩, Value.slice none 0 0, Value.slice none 0 0, Value.slice none 0 0, Value.slice none 0 0, Value.int .i64 0, Value.string ⟨#[]⟩, Value.int .i64 0, Value.int .i64 0, Value.float .f64 0, Value.string ⟨#[]⟩, Value.slice none 0 0, Value.slice none 0 0, Value.slice none 0 0, Value.slice none 0 0, Value.int .i64 0, Value.int .i64 0, Value.int .i64 (-1), Value.int .i64 0, Value.int .i64 0] 42) = W3 at *
  have HC4 := Lib.hid (range_box W3 (plainM (.slice (some ⟨b3, 0, none⟩) 3 3)) 27)
  have HB4 := Lib.hid (box_below W3 (.cells ⟨plainM (.slice (some ⟨b3, 0, none⟩) 3 3)⟩ 27))
  have HS4 := Lib.hid (box_size W3 (.cells ⟨plainM (.slice (some ⟨b3, 0, none⟩) 3 3)⟩ 27))
  have hz4 : W3.alloc (.cells ⟨plainM (.slice (some ⟨b3, 0, none⟩) 3 3)⟩ 27) = W3.alloc (.cells #[.int .i64 0, .slice none 0 0, .slice none 0 0, .slice none 0 0, .slice none 0 0, .slice (some ⟨b3, 0, none⟩) 3 3] 27) := rfl
  rw [hz4] at HC4 HB4 HS4
  generalize W3.alloc (.cells #[.int .i64 0, .slice none 0 0, .slice none 0 0, .slice none 0 0, .slice none 0 0, .slice (some ⟨b3, 0, none⟩) 3 3] 27) = W4 at *
  clear hz4
  have hs3 : W3.heap.size = mb := by have := HS3.out; have := HS2.out; have := HS1.out; omega
  have hs2 : W2.heap.size = b3 := by have := HS2.out; have := HS1.out; omega
  have hs1 : W1.heap.size = b2 := by have := HS1.out; omega
  rw [hs3] at HC4 HB4 HS4
  rw [hs2] at HC3 HB3
  rw [hs1] at HC2 HB2
  rw [hb1] at HC1
  have HB34 := Lib.hid (HB3.out.trans (HB4.out.mono (by omega)))
  have HB24 := Lib.hid (HB2.out.trans (HB34.out.mono (by omega)))
  have HBW := Lib.hid (HB1.out.trans (HB24.out.mono (by omega)))
  have HPL : Hid (PlainAt W4 (.slice (some ⟨b3, 0, none⟩) 3 3) L12) := Lib.hid (plain12 (b1 := b1) (b2 := b2) (fun j v hv => (HB24.out.cell (p := ⟨b1, j, none⟩) (show b1 < b2 by omega)).trans (HC1.out j v hv)) (fun j v hv => (HB34.out.cell (p := ⟨b2, j, none⟩) (show b2 < b3 by omega)).trans (HC2.out j v hv)) (fun j v hv => (HB4.out.cell (p := ⟨b3, j, none⟩) (show b3 < mb by omega)).trans (HC3.out j v hv)) (by have := HS4.out; omega))
  have HBm : Hid (b1 ≤ W4.heap.size ∧ mb < W4.heap.size) := Lib.hid (by have := HS4.out; omega)
  have HG4 : Hid (GraphAt W4 W4.heap.size (.slice (some ⟨b3, 0, none⟩) 3 3) (L12.map fun x => ⟨x.1, x.2, 0⟩)) := Lib.hid (plain_graph HPL.out L12_wf)
  clear HC1 HC2 HC3 HB2 HB3 HB34 HB24 HS1 HS2 HS3 HB1 hs3 hs2 hs1 hb1 hb2 hb3 hmb HB4 HS4
  have HCE := Lib.hid (edges_any (L12.map fun x => ⟨x.1, x.2, 0⟩) (.int .i64 0) (.slice none 0 0) (.slice none 0 0) (.slice none 0 0) (.slice none 0 0) (.slice (some ⟨b3, 0, none⟩) 3 3) W4 HG4.out (by rw [L12_edges]; decide))
  go_upto_region 3 with (first | ((with_reducible refine wl_sload 27 _ rfl ?hw2 mb 0 (plainM (.slice (some ⟨b3, 0, none⟩) 3 3)) _ rfl HC4.out Tryz.underlying27 rfl ?hi2 ?_); (case hw2 => exact wantA rfl); (case hi2 => kernel_rfl)) | (go_at_call 9; refine HCE.out.mono ?_; rintro e W5 ⟨v5, rfl, hown, hb5⟩; obtain ⟨A5, c5, hv5⟩ := own_sl hown; subst hv5; have HOE := Lib.hid hown; have HB5 := Lib.hid hb5; clear hown hb5))
  clear HCE
  have HB45 : ∀ z, Below W5.heap.size W5 z → Below W4.heap.size W4 z := fun z hz => HB5.out.trans (hz.mono HB5.out.size)
  obtain ⟨hel, EA, ec, hev, hea⟩ := HOE.out.at encE_len (by decide)
  obtain ⟨eb, eo, hea1, hbl, hc⟩ := hea (by decide)
  obtain ⟨ks, hk1, hk2, hk3⟩ := hc 3 _ rfl
  have hk3' : ks = encE (1, 2, 2) := hk3
  subst hk3'
  injection hev with hv1 hv2 hv3
  rw [hv1, hea1, hv3] at *
  have HRE := Lib.hid hk2
  have HBL := Lib.hid hbl
  clear hel hea hea1 hc hk1 hk2 hk3 hbl hv1 hv2 hv3
  have HGZ := fun z (hz : Below W5.heap.size W5 z) => HG4.out.next (HB45 z hz)
  have HLN : (edgesOf (L12.map fun x => (⟨x.1, x.2, 0⟩ : GN))).length ≤ 10000 := by rw [show edgesOf (L12.map fun x => (⟨x.1, x.2, 0⟩ : GN)) = _ from L12_edges]; decide
  go_wp2_with (fail)
  refine wp_region_tree t12a (fun z => Below W5.heap.size W5 z) (by kernel_rfl) (by kernel_rfl) (by kernel_rfl) rfl (by intro c a d v w h; cases d <;> exact h) ?_
  have hs0 : Below W5.heap.size W5 W5.drew := (Below.refl _ W5).drew
  refine tree_move (some 12) (.slice (some ⟨eb, eo, none⟩) 4 ec) _ _ rfl rfl rfl (by exact wantA rfl) hs0 rfl ?_
  go_frame
  refine tree_load (some 13) (.int .i64 4) _ rfl rfl (by exact wantA rfl) hs0 (fun z hz => by go_simp) ?_
  go_frame
  refine tree_load (some 14) (.bool true) _ rfl rfl (by exact wantA rfl) hs0 (fun z hz => by go_simp) ?_
  go_frame
  refine tree_move (some 15) (.bool true) _ _ rfl rfl rfl (by exact wantA rfl) hs0 rfl ?_
  go_frame
  refine tree_move (some 16) (.slice (some ⟨eb, eo, none⟩) 4 ec) _ _ rfl rfl rfl (by exact wantA rfl) hs0 rfl ?_
  go_frame
  refine tree_load (some 17) (.pointer (some ⟨eb, eo + 9, none⟩)) _ rfl rfl (by exact wantA rfl) hs0 (fun z hz => by go_simp) ?_
  go_frame
  refine tree_load (some 18) (.agg ⟨[.int .i64 1, .int .i64 2, .int .i64 2]⟩) _ rfl rfl (by exact wantA rfl) hs0 (fun z hz => exec_sload 51 rfl eb (eo + 9) [.int .i64 1, .int .i64 2, .int .i64 2] _ rfl (rangeAt_below HRE.out hz HBL.out) Tryz.underlying51 rfl (by kernel_rfl)) ?_
  go_frame
  refine tree_load (some 19) (.agg ⟨[.int .i64 1, .int .i64 2, .int .i64 2]⟩) _ rfl rfl (by exact wantA rfl) hs0 (fun z hz => by go_simp) ?_
  go_frame
  refine tree_load (some 20) (.bool true) _ rfl rfl (by exact wantA rfl) hs0 (fun z hz => by go_simp) ?_
  go_frame
  refine tree_pick (some 21) (.bool true) _ _ _ _ true rfl rfl rfl rfl (by exact wantA rfl) hs0 rfl ?_
  go_frame
  refine tree_move (some 22) (.bool true) _ _ rfl rfl rfl (by exact wantA rfl) hs0 rfl ?_
  go_frame
  refine tree_load (some 23) (.agg ⟨plainM (.slice (some ⟨b3, 0, none⟩) 3 3)⟩) _ rfl rfl (by exact wantA rfl) hs0 (fun z hz => exec_mload _ _ rfl mb (plainM (.slice (some ⟨b3, 0, none⟩) 3 3)) rfl rfl (rangeAt_below HC4.out (HB45 z hz) HBm.out.2)) ?_
  go_frame
  refine tree_pair (i := 12) (j := 13) (d1 := 24) (d2 := 25) (n := 2) (T := 3) (fun v z => IntsV z v [1, 3]) (fun v z => IntsV z v [1, 3]) 11 Tryz.func11 (by kernel_rfl) (by kernel_rfl) [.agg ⟨plainM (.slice (some ⟨b3, 0, none⟩) 3 3)⟩, .int .i64 2] #[.int .i64 1, .int .i64 3] _ _ _ _ rfl rfl rfl rfl rfl (by exact wantA rfl) (fun v => (by exact wantA rfl)) (by exact wantA rfl) (fun v => (by exact wantA rfl)) rfl (fun v => rfl) (fun z => by first | (go_simp; done) | (go_simp; rfl)) (fun v z => by first | (go_simp; done) | (go_simp; rfl)) ?hc12 (fun z hz => hz.alloc hz.size _) (fun v z hz => IntsV.below hz (box_below z _)) (fun z => lit_v z [1, 3] (by decide)) (by decide) hs0 ?rs12
  case hc12 =>
    intro z hz
    refine (into_any (L12.map fun x => (⟨x.1, x.2, 0⟩ : GN)) 2 (.int .i64 0) (.slice none 0 0) (.slice none 0 0) (.slice none 0 0) (.slice none 0 0) (.slice (some ⟨b3, 0, none⟩) 3 3) z (HGZ z hz) HLN).mono ?_
    rintro e z' ⟨v, rfl, ho, hb⟩
    rw [L12_into] at ho
    exact ⟨v, rfl, hz.trans (hb.mono hz.size), OwnSl.ints ho (by decide), fun u hu => IntsV.below hu hb⟩
  intro u1 u2 z1 hs1 hu1 hu2
  go_frame
  refine tree_to (some 26) 10 Tryz.func10 (by kernel_rfl) (by kernel_rfl) [u1, u2] _ _ _ rfl rfl rfl (by exact wantA rfl) rfl ?_
  have sm := same_ints u1 u2 [1, 3] [1, 3] (z1) hu1 hu2
  rw [show (([1, 3] : List Int) == [1, 3]) = true from beq_self_eq_true _] at sm
  refine sm.mono ?_
  rintro e z ⟨rfl, m1, rfl⟩
  have hs2 : Below W5.heap.size W5 ((z1).drewN m1) := below_drewN hs1 m1
  refine ⟨.bool true, rfl, hs2, ?_⟩
  go_frame
  refine tree_pick (some 27) (.bool true) _ _ _ _ true rfl rfl rfl rfl (by exact wantA rfl) hs2 rfl ?_
  go_frame
  refine tree_move (some 28) (.bool true) _ _ rfl rfl rfl (by exact wantA rfl) hs2 rfl ?_
  go_frame
  refine tree_load (some 29) (.agg ⟨plainM (.slice (some ⟨b3, 0, none⟩) 3 3)⟩) _ rfl rfl (by exact wantA rfl) hs2 (fun z hz => exec_mload _ _ rfl mb (plainM (.slice (some ⟨b3, 0, none⟩) 3 3)) rfl rfl (rangeAt_below HC4.out (HB45 z hz) HBm.out.2)) ?_
  go_frame
  generalize z1.drewN m1 = y1 at *
  refine tree_to (some 30) 12 Tryz.func12 (by kernel_rfl) (by kernel_rfl) [.agg ⟨plainM (.slice (some ⟨b3, 0, none⟩) 3 3)⟩, .int .i64 1, .int .i64 2] _ _ _ rfl rfl rfl (by exact wantA rfl) rfl ?_
  refine (out_any (L12.map fun x => (⟨x.1, x.2, 0⟩ : GN)) 1 2 (.int .i64 0) (.slice none 0 0) (.slice none 0 0) (.slice none 0 0) (.slice none 0 0) (.slice (some ⟨b3, 0, none⟩) 3 3) y1 (HGZ _ hs2) HLN).mono ?_
  rintro e z2 ⟨rfl, hb⟩
  have hs3 : Below W5.heap.size W5 z2 := hs2.trans (hb.mono hs2.size)
  refine ⟨.int .i64 (3), by rw [L12_out], hs3, ?_⟩
  clear hb
  go_frame
  refine tree_load (some 31) (.bool true) _ rfl rfl (by exact wantA rfl) hs3 (fun z hz => by go_simp) ?_
  go_frame
  refine tree_pick (some 32) (.bool true) _ _ _ _ true rfl rfl rfl rfl (by exact wantA rfl) hs3 rfl ?_
  go_frame
  refine tree_move (some 33) (.bool true) _ _ rfl rfl rfl (by exact wantA rfl) hs3 rfl ?_
  go_frame
  refine tree_load (some 34) (.agg ⟨plainM (.slice (some ⟨b3, 0, none⟩) 3 3)⟩) _ rfl rfl (by exact wantA rfl) hs3 (fun z hz => exec_mload _ _ rfl mb (plainM (.slice (some ⟨b3, 0, none⟩) 3 3)) rfl rfl (rangeAt_below HC4.out (HB45 z hz) HBm.out.2)) ?_
  go_frame
  refine tree_to (some 35) 12 Tryz.func12 (by kernel_rfl) (by kernel_rfl) [.agg ⟨plainM (.slice (some ⟨b3, 0, none⟩) 3 3)⟩, .int .i64 2, .int .i64 0] _ _ _ rfl rfl rfl (by exact wantA rfl) rfl ?_
  refine (out_any (L12.map fun x => (⟨x.1, x.2, 0⟩ : GN)) 2 0 (.int .i64 0) (.slice none 0 0) (.slice none 0 0) (.slice none 0 0) (.slice none 0 0) (.slice (some ⟨b3, 0, none⟩) 3 3) z2 (HGZ _ hs3) HLN).mono ?_
  rintro e z3 ⟨rfl, hb⟩
  have hs4 : Below W5.heap.size W5 z3 := hs3.trans (hb.mono hs3.size)
  refine ⟨.int .i64 (-1), by rw [L12_out2], hs4, ?_⟩
  clear hb
  go_frame
  refine tree_load (some 36) (.bool true) _ rfl rfl (by exact wantA rfl) hs4 (fun z hz => by go_simp) ?_
  go_frame
  refine tree_pick (some 37) (.bool true) _ _ _ _ true rfl rfl rfl rfl (by exact wantA rfl) hs4 rfl ?_
  go_frame
  refine tree_move (some 38) (.bool true) _ _ rfl rfl rfl (by exact wantA rfl) hs4 rfl ?_
  go_frame
  refine tree_load (some 39) (.agg ⟨plainM (.slice (some ⟨b3, 0, none⟩) 3 3)⟩) _ rfl rfl (by exact wantA rfl) hs4 (fun z hz => exec_mload _ _ rfl mb (plainM (.slice (some ⟨b3, 0, none⟩) 3 3)) rfl rfl (rangeAt_below HC4.out (HB45 z hz) HBm.out.2)) ?_
  go_frame
  refine tree_pair (i := 28) (j := 29) (d1 := 40) (d2 := 41) (n := 3) (T := 3) (fun v z => IntsV z v [0, 1, 2]) (fun v z => IntsV z v [0, 1, 2]) 13 Tryz.func13 (by kernel_rfl) (by kernel_rfl) [.agg ⟨plainM (.slice (some ⟨b3, 0, none⟩) 3 3)⟩, .int .i64 0] #[.int .i64 0, .int .i64 1, .int .i64 2] _ _ _ _ rfl rfl rfl rfl rfl (by exact wantA rfl) (fun v => (by exact wantA rfl)) (by exact wantA rfl) (fun v => (by exact wantA rfl)) rfl (fun v => rfl) (fun z => by first | (go_simp; done) | (go_simp; rfl)) (fun v z => by first | (go_simp; done) | (go_simp; rfl)) ?hc28 (fun z hz => hz.alloc hz.size _) (fun v z hz => IntsV.below hz (box_below z _)) (fun z => lit_v z [0, 1, 2] (by decide)) (by decide) hs4 ?rs28
  case hc28 =>
    intro z hz
    refine (reach_any (L12.map fun x => (⟨x.1, x.2, 0⟩ : GN)) 0 (.int .i64 0) (.slice none 0 0) (.slice none 0 0) (.slice none 0 0) (.slice none 0 0) (.slice (some ⟨b3, 0, none⟩) 3 3) z (HGZ z hz) HLN (by decide)).mono ?_
    rintro e z' ⟨v, rfl, ho, hb⟩
    rw [L12_reach] at ho
    exact ⟨v, rfl, hz.trans (hb.mono hz.size), OwnSl.ints ho (by decide), fun u hu => IntsV.below hu hb⟩
  intro u3 u4 z4 hs5 hu3 hu4
  go_frame
  refine tree_to (some 42) 10 Tryz.func10 (by kernel_rfl) (by kernel_rfl) [u3, u4] _ _ _ rfl rfl rfl (by exact wantA rfl) rfl ?_
  have sm := same_ints u3 u4 [0, 1, 2] [0, 1, 2] (z4) hu3 hu4
  rw [show (([0, 1, 2] : List Int) == [0, 1, 2]) = true from beq_self_eq_true _] at sm
  refine sm.mono ?_
  rintro e z ⟨rfl, m2, rfl⟩
  have hs6 : Below W5.heap.size W5 ((z4).drewN m2) := below_drewN hs5 m2
  refine ⟨.bool true, rfl, hs6, ?_⟩
  go_frame
  refine tree_pick (some 43) (.bool true) _ _ _ _ true rfl rfl rfl rfl (by exact wantA rfl) hs6 rfl ?_
  go_frame
  refine tree_move (some 44) (.bool true) _ _ rfl rfl rfl (by exact wantA rfl) hs6 rfl ?_
  go_frame
  refine tree_load (some 45) (.agg ⟨plainM (.slice (some ⟨b3, 0, none⟩) 3 3)⟩) _ rfl rfl (by exact wantA rfl) hs6 (fun z hz => exec_mload _ _ rfl mb (plainM (.slice (some ⟨b3, 0, none⟩) 3 3)) rfl rfl (rangeAt_below HC4.out (HB45 z hz) HBm.out.2)) ?_
  go_frame
  generalize z4.drewN m2 = y4 at *
  refine tree_to (some 46) 13 Tryz.func13 (by kernel_rfl) (by kernel_rfl) [.agg ⟨plainM (.slice (some ⟨b3, 0, none⟩) 3 3)⟩, .int .i64 2] _ _ _ rfl rfl rfl (by exact wantA rfl) rfl ?_
  refine (reach_any (L12.map fun x => (⟨x.1, x.2, 0⟩ : GN)) 2 (.int .i64 0) (.slice none 0 0) (.slice none 0 0) (.slice none 0 0) (.slice none 0 0) (.slice (some ⟨b3, 0, none⟩) 3 3) y4 (HGZ _ hs6) HLN (by decide)).mono ?_
  rintro e z5 ⟨v, rfl, ho, hb⟩
  rw [L12_reach2] at ho
  obtain ⟨A6, c6, rfl⟩ := own_sl ho
  have hs7 : Below W5.heap.size W5 z5 := hs6.trans (hb.mono hs6.size)
  refine ⟨_, rfl, hs7, ?_⟩
  clear hb ho
  go_frame
  refine tree_load (some 47) (.int .i64 0) _ rfl rfl (by exact wantA rfl) hs7 (fun z hz => by go_simp) ?_
  go_frame
  refine tree_load (some 48) (.bool true) _ rfl rfl (by exact wantA rfl) hs7 (fun z hz => by go_simp) ?_
  go_frame
  refine tree_pick (some 49) (.bool true) _ _ _ _ true rfl rfl rfl rfl (by exact wantA rfl) hs7 rfl ?_
  go_frame
  refine tree_move (some 50) (.bool true) _ _ rfl rfl rfl (by exact wantA rfl) hs7 rfl ?_
  go_frame
  refine tree_load (some 51) (.agg ⟨plainM (.slice (some ⟨b3, 0, none⟩) 3 3)⟩) _ rfl rfl (by exact wantA rfl) hs7 (fun z hz => exec_mload _ _ rfl mb (plainM (.slice (some ⟨b3, 0, none⟩) 3 3)) rfl rfl (rangeAt_below HC4.out (HB45 z hz) HBm.out.2)) ?_
  go_frame
  refine tree_load (some 52) (.agg ⟨plainM (.slice (some ⟨b3, 0, none⟩) 3 3)⟩) _ rfl rfl (by exact wantA rfl) hs7 (fun z hz => exec_mload _ _ rfl mb (plainM (.slice (some ⟨b3, 0, none⟩) 3 3)) rfl rfl (rangeAt_below HC4.out (HB45 z hz) HBm.out.2)) ?_
  go_frame
  refine tree_to (some 53) 8 Tryz.func8 (by kernel_rfl) (by kernel_rfl) [.agg ⟨plainM (.slice (some ⟨b3, 0, none⟩) 3 3)⟩] _ _ _ rfl rfl rfl (by exact wantA rfl) rfl ?_
  refine (own_plain (.slice (some ⟨b3, 0, none⟩) 3 3) L12 z5 (HPL.out.below (HB45 _ hs7)) (by decide) (by decide) (by decide)).mono ?_
  rintro e z6 ⟨v', rfl, hp6, hb⟩
  have hs8 : Below W5.heap.size W5 z6 := hs7.trans (hb.mono hs7.size)
  refine ⟨_, rfl, hs8, ?_⟩
  clear hb
  go_frame
  refine tree_to (some 54) 6 Tryz.func6 (by kernel_rfl) (by kernel_rfl) [.agg ⟨plainM (.slice (some ⟨b3, 0, none⟩) 3 3)⟩, .agg ⟨plainM v'⟩] _ _ _ rfl rfl rfl (by exact wantA rfl) rfl ?_
  refine (msame_plain (.slice (some ⟨b3, 0, none⟩) 3 3) v' L12 z6 (HPL.out.below (HB45 _ hs8)) hp6 (by decide)).mono ?_
  rintro e z7 ⟨rfl, hb⟩
  have hs9 : Below W5.heap.size W5 z7 := hs8.trans (hb.mono hs8.size)
  refine ⟨_, rfl, hs9, ?_⟩
  clear hb
  go_frame
  refine tree_pick (some 55) (.bool true) _ _ _ _ true rfl rfl rfl rfl (by exact wantA rfl) hs9 rfl ?_
  go_frame
  refine tree_assign (some 0) (.bool true) _ _ rfl rfl rfl (by exact wantA rfl) hs9 rfl ?_
  go_frame
  refine tree_end ?_
  clear hs0 hs1 hs2 hs3 hs4 hs5 hs6 hs7 hs8
  go_wp2
  go_ret
  exact ⟨rfl, HBW.out.trans ((HB45 _ hs9).mono HBW.out.size)⟩
end Go.Proofs.YtpmjcbjdcjjplaaGreat
end
