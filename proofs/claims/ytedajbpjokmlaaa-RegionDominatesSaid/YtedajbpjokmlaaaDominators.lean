/- region.Dominators. -/
import Derived.Test.YtedajbpjokmlaaaAbove
namespace Go.Proofs.Ytedajbpjokmlaaa
open Go Go.RowKit
set_option linter.unusedVariables false

/-- the dominators of all nodes, from any root -/
def domsOf (g : List GN) (a : Int) (i : Nat) : List Int := if isN g.length a = true then domL g.length (graphE g) a.toNat i else []
def DomPost (w : World) (g : List GN) (a : Int) (e : Ending) (w' : World) : Prop :=
  ∃ sb C V, e = .returned (.slice (some ⟨sb, 0, none⟩) g.length g.length) ∧ SetsAt w' sb g.length C V (domsOf g a) ∧ Below w.heap.size w w' ∧ w.heap.size ≤ sb
theorem below_but {w W Z : World} {B p : Nat} (h : Below B w W) (hb : But W Z p p) (hB : B ≤ W.heap.size) (hp : B ≤ p) : Below B w Z := h.trans (hb.below hB hp hp)
def cloneC (CL : List Int) (j : Nat) (i : Nat) : Bool := (CL.take j).contains (i : Int)
def cloneL (CL : List Int) (j : Nat) (i : Nat) : List Int := if cloneC CL j i = true then CL else []
theorem cloneC_succ {CL : List Int} {j : Nat} {x : Nat} (h : CL[j]? = some (x : Int)) (i : Nat) : cloneC CL (j + 1) i = if i = x then true else cloneC CL j i := by
  unfold cloneC
  rw [take_at h, Bool.eq_iff_iff]
  by_cases e : i = x
  · subst e; simp
  · have : ¬ ((i : Int) = (x : Int)) := by omega
    rw [if_neg e, List.contains_iff_mem, List.contains_iff_mem, List.mem_append, List.mem_singleton]
    constructor
    · rintro (h | h)
      · exact h
      · exact absurd h this
    · exact .inl
theorem cloneL_succ {CL : List Int} {j : Nat} {x : Nat} (h : CL[j]? = some (x : Int)) (i : Nat) : cloneL CL (j + 1) i = if i = x then CL else cloneL CL j i := by
  unfold cloneL
  rw [cloneC_succ h]
  by_cases e : i = x
  · rw [if_pos e, if_pos rfl, if_pos e]
  · rw [if_neg e, if_neg e]
def startS (n : Nat) (E : List (Nat × Nat)) (r : Nat) (i d : Nat) : Bool := if i = r then d == r else come n E r d
theorem start_setL {n r : Nat} {E : List (Nat × Nat)} (hr : r < n) (i : Nat) (hi : i < n) : setL n E r (startS n E r) i = if i = r then [(r : Int)] else cloneL (listN (come n E r) n) (listN (come n E r) n).length i := by
  unfold setL cloneL cloneC
  rw [List.take_of_length_le (Nat.le_refl _), listN_has hi]
  by_cases e : i = r
  · subst e
    rw [if_pos come_root, if_pos rfl, ← listN_one (n := n) hr]
    exact listN_congr fun k _ => by unfold startS; rw [if_pos rfl]
  · rw [if_neg e]
    split
    · exact listN_congr fun k _ => by unfold startS; rw [if_neg e]
    · rfl
theorem start_come {n r : Nat} {E : List (Nat × Nat)} (i : Nat) (hi : i < n) : come n E r i = if i = r then true else cloneC (listN (come n E r) n) (listN (come n E r) n).length i := by
  unfold cloneC
  rw [List.take_of_length_le (Nat.le_refl _), listN_has hi]
  by_cases e : i = r
  · subst e; rw [if_pos rfl, come_root]
  · rw [if_neg e]

theorem own_some {w : World} {base : Nat} {v : Value} {l : List Int} (h : OwnSl 3 1 encI w base v l) (h0 : 0 < l.length) : ∃ b c, v = .slice (some ⟨b, 0, none⟩) l.length c ∧ b < w.heap.size ∧ base ≤ b ∧ (∀ j, j < l.length → w.cell? ⟨b, 0 + j, none⟩ = some (.int .i64 (l.getD j 0))) ∧
    (∀ j, j < l.length → w.frozen? ⟨b, 0 + j, none⟩ = false) ∧ l.length ≤ c := by
  rcases own_ints h with ⟨h1, _⟩ | ⟨b, c, h1, h2, h3, h4, h5, h6, _⟩
  · rw [h1] at h0; cases h0
  · exact ⟨b, c, h1, h2, h3, h4, h5, h6⟩
theorem own_flat {w : World} {base : Nat} {v : Value} {l : List Int} {n : Nat} (hn : n = l.length) (h : w.ownsRow base 3 1 v n (l.map (Value.int .i64))) : OwnSl 3 1 encI w base v l := by
  unfold OwnSl; rw [flat_ints, ← hn]; exact h
theorem cells_getD {w : World} {b : Nat} {l : List Int} (h : ∀ i x, l[i]? = some x → w.cell? ⟨b, i, none⟩ = some (.int .i64 x)) (j : Nat) (hj : j < l.length) : w.cell? ⟨b, 0 + j, none⟩ = some (.int .i64 (l.getD j 0)) := by
  rw [Nat.zero_add, h j _ (List.getElem?_eq_getElem hj), List.getD_eq_getElem?_getD, List.getElem?_eq_getElem hj]; rfl
theorem row_one (w : World) (r : Int) (sb : Nat) (hsb : sb < w.heap.size) : RowV (w.alloc (.cells ⟨encI r⟩ 3)) sb (.slice (some ⟨w.heap.size, 0, none⟩) 1 1) [r] true := by
  unfold RowV
  rw [if_pos rfl]
  refine ⟨w.heap.size, 1, rfl, ⟨box_size w _, by omega⟩, fun i x hx => ?_⟩
  have hi := (List.getElem?_eq_some_iff.1 hx).1
  have hi0 : i = 0 := by simpa using hi
  subst hi0
  have hx' : r = x := by simpa using hx
  subst hx'
  exact cells_box w (encI r) 3 0 _ rfl

set_option maxHeartbeats 8000000 in
set_option maxRecDepth 100000 in
theorem dominators_any (g : List GN) (a : Int) (c0 c1 c2 c3 c4 v5 : Value) (w : World) (hg : GraphAt w w.heap.size v5 g) (hlen : (edgesOf g).length ≤ 10000) (hgn : g.length ≤ 5000) :
    Calls Try.prog 13 #[.agg ⟨[c0, c1, c2, c3, c4, v5]⟩, .int .i64 a] w (DomPost w g a) := by
  have HG := Lib.hid hg
  obtain ⟨hgl, A, c, rfl, hA⟩ := hg
  have HLEN := Lib.hid hlen
  have HG5 := Lib.hid hgn
  have HGN : Hid (g.length ≤ 10000) := Lib.hid (by omega)
  have HEL : Hid ((graphE g).length ≤ 10000) := Lib.hid (Nat.le_trans (inE_len _ _) hlen)
  have HGE := Lib.hid (fun e he => graphE_lt (g := g) e he)
  clear hA hlen hgl
  obtain ⟨i0, hi, hz0, hz1, hz2⟩ := info_parts' info_int
  have HI0 := Lib.hid hi
  have HZ0 := Lib.hid hz0
  have HZ1 := Lib.hid hz1
  have HZ2 := Lib.hid hz2
  clear hi hz0 hz1 hz2
  obtain ⟨iS, hi, hz0, hz1, hz2⟩ := info_parts' info_ints
  have HIS := Lib.hid hi
  have HS0 := Lib.hid hz0
  have HS1 := Lib.hid hz1
  have HS2 := Lib.hid hz2
  clear hi hz0 hz1 hz2
  have hgn2 : (g.length : Int) ≤ 5000 := by omega
  go_enter Try.func13, Try.ntmps13
  go_wp2
  go_step3
  go_upto_region 1 with (fail)
  have HB1 := Lib.hid (box_below w (.cells ⟨[c0, c1, c2, c3, c4, .slice A g.length c]⟩ 27))
  have HSZ1 := Lib.hid (box_size w (.cells ⟨[c0, c1, c2, c3, c4, .slice A g.length c]⟩ 27))
  have HR1 := Lib.hid (range_box w [c0, c1, c2, c3, c4, .slice A g.length c] 27)
  generalize w.alloc (.cells ⟨[c0, c1, c2, c3, c4, .slice A g.length c]⟩ 27) = W1 at *
  have HC1 := Lib.hid (graphOf_any g c0 c1 c2 c3 c4 (.slice A g.length c) w.heap.size W1 (HG.out.next HB1.out) HR1.out HSZ1.out HLEN.out HGN.out)
  go_upto_region 2 with (go_at_call 33; refine HC1.out.mono ?_; rintro e w3 ⟨gb, tb, fb, Vg, rfl, hga, hb3⟩; have HGA := Lib.hid hga; have HB3 := Lib.hid hb3; clear hga hb3)
  have d0 := HGA.out.c0
  have HR3 := Lib.hid (rangeAt_below HR1.out HB3.out HSZ1.out)
  have HS3 := Lib.hid (Nat.lt_of_lt_of_le HSZ1.out HB3.out.size)
  have HBW3 := Lib.hid (HB1.out.trans (HB3.out.mono HB1.out.size))
  go_upto_region 3 with ((with_reducible refine wl_make 31 34 _ _ rfl ?hw iS (.slice none 0 0) 24 g.length Try.underlying31 HIS.out HS0.out HS1.out HS2.out (by decide) rfl ?hx ?hy HGN.out ?_); (case hw => first | exact wanted_none rfl | exact wanted_if rfl rfl rfl rfl); (case hx => rfl); (case hy => rfl); intro w4 hrow htag hb1 hs1; have HROW := Lib.hid hrow; have HB4 := Lib.hid hb1; have HS4 := Lib.hid hs1; clear hrow htag hb1 hs1)
  clear d0
  have HGA4 := Lib.hid (HGA.out.below HB4.out)
  have HR4 := Lib.hid (rangeAt_below HR3.out HB4.out HS3.out)
  have HBW4 := Lib.hid (HBW3.out.trans (HB4.out.mono HBW3.out.size))
  have HSB : Hid (w.heap.size ≤ w3.heap.size) := Lib.hid HBW3.out.size
  have HB34 := Lib.hid HB4.out
  obtain ⟨sb, hsb⟩ : ∃ sb, w3.heap.size = sb := ⟨_, rfl⟩
  have HSB3 : Hid (w3.heap.size ≤ sb) := Lib.hid (by omega)
  rw [hsb] at HROW HS4 HSB
  rw [hsb]
  have HST4 : Hid (SetsAt w4 sb g.length (fun _ => false) (fun _ => .slice none 0 0) (fun _ => [])) := Lib.hid ⟨HROW.out, HS4.out, fun i _ => ⟨rfl, rfl⟩⟩
  have HS34 : Hid (w.heap.size < w4.heap.size) := Lib.hid (Nat.lt_of_lt_of_le HS3.out HB4.out.size)
  clear HROW HB4 HC1 HR3 HR1 HS3 HBW3 hsb HB1 HB3 HSZ1
  have d0 := HGA4.out.c0
  by_cases hneg : a < 0
  · have t1 : decide (a < 0) = true := by simpa using hneg
    have HNO : Hid (∀ i, domsOf g a i = []) := Lib.hid fun i => by unfold domsOf isN; rw [if_neg (by simp; omega)]
    clear hneg
    go_wp2
    rw [Exit.noGoto_ret]
    go_ret
    exact ⟨sb, _, _, rfl, HST4.out.congr (fun _ _ => rfl) (fun i _ => HNO.out i), HBW4.out, HSB.out⟩
  · have t1 : decide (a < 0) = false := by simpa using hneg
    by_cases hbig : (g.length : Int) ≤ a
    · have t2 : decide ((g.length : Int) ≤ a) = true := by simpa using hbig
      have HNO : Hid (∀ i, domsOf g a i = []) := Lib.hid fun i => by unfold domsOf isN; rw [if_neg (by simp; omega)]
      clear hneg hbig
      go_wp2
      rw [Exit.noGoto_ret]
      go_ret
      exact ⟨sb, _, _, rfl, HST4.out.congr (fun _ _ => rfl) (fun i _ => HNO.out i), HBW4.out, HSB.out⟩
    · have t2 : decide ((g.length : Int) ≤ a) = false := by simp; omega
      obtain ⟨r, rfl⟩ : ∃ r : Nat, a = r := ⟨a.toNat, by omega⟩
      have hrn : r < g.length := by omega
      have HDO : Hid (∀ i, domsOf g r i = domL g.length (graphE g) r i) := Lib.hid fun i => by unfold domsOf isN; rw [if_pos (by simp; omega)]; simp
      clear hneg hbig
      have HRC := Lib.hid (reach_any g (r : Int) c0 c1 c2 c3 c4 (.slice A g.length c) w4 (HG.out.next HBW4.out) HLEN.out HGN.out)
      have HCL := Lib.hid (come_list hrn)
      have HRN := Lib.hid (reachL_len g (r : Int))
      have HGEO := Lib.hid (fun e he => (HGE.out e he).2)
      have HSL := Lib.hid (fun i hi => start_setL (E := graphE g) hrn i hi)
      have HSC := Lib.hid (fun i hi => start_come (n := g.length) (r := r) (E := graphE g) i hi)
      have HCM := Lib.hid (fun j x hx => listN_at (n := g.length) (S := come g.length (graphE g) r) (j := j) (x := x) hx)
      have HCI := Lib.hid (fun i hi hc => listN_idx (n := g.length) (S := come g.length (graphE g) r) (i := i) hi hc)
      have HCN := Lib.hid (listN_len (come g.length (graphE g) r) g.length)
      have HCP : Hid (0 < (listN (come g.length (graphE g) r) g.length).length) := Lib.hid (by obtain ⟨j, hj, _⟩ := listN_idx (n := g.length) (S := come g.length (graphE g) r) hrn come_root; omega)
      have HDE := Lib.hid (fun S v hfix i hi => dom_end (n := g.length) (E := graphE g) (r := r) HGEO.out hrn (S := S) v hfix i hi)
      have HDX := Lib.hid (fun S v i hin hi hne hd => dom_next (n := g.length) (E := graphE g) (r := r) HGEO.out (S := S) v (i := i) hin hi hne hd)
      have HDS := Lib.hid (dom_start (n := g.length) (E := graphE g) (r := r) (S := startS g.length (graphE g) r) (fun _ _ => rfl))
      have HAS : Hid (∀ S i, come g.length (graphE g) r i = true → aboveS g.length (graphE g) r S i i = true) := Lib.hid fun S i hi => by unfold aboveS; rw [hi]; simp
      have HSE : Hid (∀ S i, come g.length (graphE g) r i = true → setL g.length (graphE g) r S i = listN (S i) g.length) := Lib.hid fun S i hi => by unfold setL; rw [if_pos hi]
      generalize hCL : listN (come g.length (graphE g) r) g.length = CL at *
      clear hCL
      generalize reachL g (r : Int) = RL at *
      obtain ⟨zs, hzs⟩ : ∃ zs, RL ++ [(r : Int)] = zs := ⟨_, rfl⟩
      rw [hzs] at HCL
      have HZL : Hid (zs.length = RL.length + 1) := Lib.hid (by rw [← hzs]; simp)
      have HK1 : Hid (RL.length + 1 ≤ maxLen) := Lib.hid (room_max (by have := HRN.out; omega))
      have HK2 : Hid ((RL.length + 1) * 8 ≤ 140737488355328) := Lib.hid (by have := HRN.out; omega)
      have hrl2 : (RL.length : Int) + 1 ≤ 5001 := by have := HRN.out; omega
      clear d0 t1 t2
      have d0 := HGA4.out.c0
      have t1 : decide ((r : Int) < 0) = false := decide_eq_false (by omega)
      have t2 : decide ((g.length : Int) ≤ (r : Int)) = false := decide_eq_false (by omega)
      go_upto_region 5 with (fail)
      clear d0 t1 t2
      go_upto_region 6 with (first | ((with_reducible refine wl_sload 27 _ rfl ?hw2 w.heap.size 0 [c0, c1, c2, c3, c4, .slice A g.length c] _ rfl HR4.out Try.underlying27 rfl ?hi2 ?_); (case hw2 => first | exact wanted_none rfl | exact wanted_if rfl rfl rfl rfl); (case hi2 => kernel_rfl)) | (go_at_call 19; refine HRC.out.mono ?_; rintro e w5 ⟨v5, rfl, hown5, hb5⟩; obtain ⟨A5, c5, hv5⟩ := own_sl hown5; subst hv5; have HB5 := Lib.hid hb5; have HWZ := Lib.hid (OwnSl.below hown5 (box_below w5 (.cells ⟨encI (r : Int)⟩ 3))); have HCE := Lib.hid (cells_box w5 (encI (r : Int)) 3); have HBB := Lib.hid (hb5.alloc hb5.size (.cells ⟨encI (r : Int)⟩ 3)); clear hown5 hb5) | (at_builtin; refine wl_push rfl _ _ 34 rfl w4.heap.size 3 i0 (.int .i64 0) 1 8 encI Try.underlying34 HI0.out HZ0.out HZ1.out HZ2.out rfl (by decide) encI_len encI_one _ _ rfl HWZ.out w5.heap.size 1 (r : Int) rfl HCE.out HK1.out HK2.out HBB.out.size ?_; intro v6 w6 hown6 hg6; rw [hzs] at hown6; obtain ⟨rb, c6, hv6, hr1, hr2, hr3, hr4, hr5⟩ := own_some hown6 (by have := HZL.out; omega); subst hv6; have HO6 := Lib.hid hown6; have HG6 := Lib.hid hg6; have HRB6 := Lib.hid hr1; have HRB := Lib.hid hr2; have HRC6 := Lib.hid hr5; clear hown6 hg6 hr1 hr2 hr3 hr4 hr5))
      have HB6 := Lib.hid (push_below HBB.out HBB.out.size HWZ.out (Nat.le_refl _) HG6.out)
      have hzl2 : (zs.length : Int) ≤ 5001 := by have := HZL.out; omega
      clear HB5 HWZ HCE HBB HG6 hzs HK1 HK2 HRC
      have HCS := Lib.hid (Try.slices_Sort_int rb 0 c6 zs w6 HO6.out.holds HRB6.out (by omega))
      go_upto_region 7 with (go_at_call 34; refine HCS.out.mono ?_; rintro e w7 ⟨rfl, q7, os7, hw7⟩; have HW7 := Lib.hid hw7; clear hw7)
      have HTL : Hid ((zs.mergeSort fun x y => decide (x ≤ y)).length = zs.length) := Lib.hid (by rw [List.length_mergeSort])
      have HO7 : Hid (OwnSl 3 1 encI w7 w4.heap.size (.slice (some ⟨rb, 0, none⟩) zs.length c6) (zs.mergeSort fun x y => decide (x ≤ y))) := Lib.hid (by rw [HW7.out]; exact OwnSl.sorted HO6.out HTL.out)
      have HBT7 : Hid (But w6 w7 rb rb) := Lib.hid (by rw [HW7.out]; exact But.of_grown (grownBy_sortedI _))
      have HB7 := Lib.hid (below_but HB6.out HBT7.out HB6.out.size HRB.out)
      have HRB7 : Hid (rb < w7.heap.size) := Lib.hid (Nat.lt_of_lt_of_le HRB6.out HBT7.out.size)
      generalize (zs.mergeSort fun x y => decide (x ≤ y)) = ts at *
      clear HCS HW7 HB6 HBT7 HO6 HRB6
      have HCC : Hid (Calls Try.prog 35 #[.slice (some ⟨rb, 0, none⟩) zs.length c6] w7 fun e w' => e = .returned (.slice (some ⟨rb, 0, none⟩) CL.length c6) ∧ ∃ q, w' = (w7.drewN q).setCells rb 0 ((CL ++ List.replicate (ts.length - CL.length) 0).map (Value.int .i64))) := Lib.hid (by
        have hh := HO7.out.holds
        have htl := HTL.out
        have hk := Try.slices_Compact_int_cells rb 0 zs.length c6 ts w7 (by rw [HTL.out]; exact Nat.le_refl _) (by omega) HRC6.out (fun j hj => by have := (hh j (by simpa using hj)).1; rw [this, List.getD_eq_getElem?_getD, getElem!_pos ts.toArray j (by simpa using hj)]; simp [hj]) (fun j hj => (hh j (by simp; omega)).2)
        rw [← HTL.out, List.take_length, HCL.out] at hk
        rw [← HTL.out]
        exact hk)
      go_upto_region 8 with (go_at_call 35; refine HCC.out.mono ?_; rintro e w8 ⟨rfl, q8, hw8⟩; have HW8 := Lib.hid hw8; clear hw8)
      have hcn : CL.length ≤ ts.length := by
        have h1 := HCL.out
        rw [← h1]
        unfold Go.Lib.compact Go.Lib.compactUpTo
        rw [List.length_map]
        exact Nat.le_trans (List.length_filter_le ..) (by simp)
      have HC8 : Hid (∀ i x, CL[i]? = some x → w8.cell? ⟨rb, i, none⟩ = some (.int .i64 x)) := Lib.hid (by rw [HW8.out]; exact (OwnSl.compacted HO7.out hcn).1)
      have HBT8 : Hid (But w7 w8 rb rb) := Lib.hid (by rw [HW8.out]; exact (OwnSl.compacted HO7.out hcn).2)
      have HB8 := Lib.hid (below_but HB7.out HBT8.out HB7.out.size HRB.out)
      have HRB8 : Hid (rb < w8.heap.size) := Lib.hid (Nat.lt_of_lt_of_le HRB7.out HBT8.out.size)
      have HST8 := Lib.hid (HST4.out.below HB8.out)
      have HBW8 := Lib.hid (HBW4.out.trans (HB8.out.mono HBW4.out.size))
      have HB38 := Lib.hid (HB34.out.trans (HB8.out.mono HB34.out.size))
      have HNE : Hid (rb ≠ sb) := Lib.hid (by have := HRB.out; have := HST4.out.lt; omega)
      have hcl2 : (CL.length : Int) ≤ 5000 := by have := HCN.out; omega
      have HSB8 : Hid (sb < w8.heap.size) := Lib.hid HST8.out.lt
      clear HCC HW8 HBT8 hcn HO7 HRB7 HB7 HCL HTL HRN HZL hzl2 hrl2 HST4 HR4 HB34 HBW4 HGA4 HB8
      go_wp2
      go_loopg [42] CL.length (fun q x u => ∃ (j : Nat) (V : Nat → Value), j + q = CL.length ∧ x = .int .i64 j ∧ SetsAt u sb g.length (cloneC CL j) V (cloneL CL j) ∧ But w8 u sb sb)
      case atStart => exact ⟨0, fun _ => .slice none 0 0, by omega, rfl, HST8.out.congr (fun i _ => by simp [cloneC]) (fun i _ => by simp [cloneL, cloneC]), But.refl _ _ _⟩
      case round =>
        obtain ⟨j, V, hj, rfl, hsa, hbt⟩ := hrel
        have HSA := Lib.hid hsa
        have HBT := Lib.hid hbt
        clear hsa hbt HST8
        obtain ⟨W0, rfl⟩ : ∃ W0, W0 = wr := ⟨_, rfl⟩
        cases gk with
        | succ q =>
          have hlt : (j : Int) < (CL.length : Int) := by omega
          obtain ⟨x, hx⟩ : ∃ x, CL[j]? = some x := ⟨_, List.getElem?_eq_getElem (by omega)⟩
          obtain ⟨i, rfl, hin, hci⟩ := HCM.out j x hx
          have da := (HBT.out.cell (o := j) HRB8.out HNE.out HNE.out).trans (HC8.out j i hx)
          have hin2 : (i : Int) < (g.length : Int) := by omega
          have HX1 := Lib.hid (cloneC_succ hx)
          have HX2 := Lib.hid (cloneL_succ hx)
          have HCK := Lib.hid (Try.slices_Clone_int rb 0 CL.length c6 CL W0 (Nat.le_refl _) (by omega) (cells_getD fun k y hy => (HBT.out.cell (o := k) HRB8.out HNE.out HNE.out).trans (HC8.out k y hy)))
          rw [List.take_length] at HCK
          have HSB0 : Hid (sb < W0.heap.size) := Lib.hid HSA.out.lt
          clear hx hci
          go_upto_region 12 with (go_at_call 36; refine HCK.out.mono ?_; rintro e w9 ⟨v9, rfl, hown9, hnn, hb9⟩; have hown9' := own_flat rfl hown9; obtain ⟨b9, c9, hv9, _⟩ := own_some hown9' HCP.out; subst hv9; have HO9 := Lib.hid hown9'; have HB9 := Lib.hid hb9; have HS9 := Lib.hid (HSA.out.below hb9); have dl := HS9.out.row.c i hin; have fl := HS9.out.row.fz i hin; clear hown9 hown9' hnn hb9)
          have HRV := Lib.hid (HO9.out.rowV (sb := sb) (by have := HCN.out; omega) HCP.out HSB0.out)
          have HS10 := Lib.hid (HS9.out.set hin HRV.out)
          have HBT10 := Lib.hid ((HBT.out.trans (But.of_below HB9.out sb sb)).trans (But.set1 _ sb sb i (.slice (some ⟨b9, 0, none⟩) CL.length c9)))
          clear dl fl da
          go_wp2
          go_roundg q
          case measure => omega
          case rel => exact ⟨j + 1, _, by omega, by go_num, HS10.out.congr (fun k _ => HX1.out k) (fun k _ => HX2.out k), HBT10.out⟩
        | zero =>
          obtain rfl : j = CL.length := by omega
          have hge : ¬ ((CL.length : Int) < (CL.length : Int)) := by omega
          have HSZ := Lib.hid (HSA.out.below (box_below W0 (.cells ⟨encI (r : Int)⟩ 3)))
          have HBZ := Lib.hid (HBT.out.trans (But.of_below (box_below W0 (.cells ⟨encI (r : Int)⟩ 3)) sb sb))
          have HRV := Lib.hid (row_one W0 (r : Int) sb HSA.out.lt)
          have HS10 := Lib.hid (HSZ.out.set hrn HRV.out)
          have HBT10 := Lib.hid (HBZ.out.trans (But.set1 _ sb sb r (.slice (some ⟨W0.heap.size, 0, none⟩) 1 1)))
          have dl : (W0.alloc (.cells #[.int .i64 (r : Int)] 3)).cell? ⟨sb, r, none⟩ = some (V r) := HSZ.out.row.c r hrn
          have fl : (W0.alloc (.cells #[.int .i64 (r : Int)] 3)).frozen? ⟨sb, r, none⟩ = false := HSZ.out.row.fz r hrn
          have hrn2 : (r : Int) < (g.length : Int) := by omega
          have HS11 := Lib.hid (HS10.out.congr (C' := come g.length (graphE g) r) (L' := setL g.length (graphE g) r (startS g.length (graphE g) r)) (fun k hk => HSC.out k hk) (fun k hk => HSL.out k hk))
          obtain ⟨W2, hW2⟩ : ∃ W2, W2 = (W0.alloc (.cells #[.int .i64 (r : Int)] 3)).setCell ⟨sb, r, none⟩ (.slice (some ⟨W0.heap.size, 0, none⟩) 1 1) := ⟨_, rfl⟩
          have HS12 : Hid (SetsAt W2 sb g.length (come g.length (graphE g) r) _ (setL g.length (graphE g) r (startS g.length (graphE g) r))) := Lib.hid (by rw [hW2]; exact HS11.out)
          have HBT12 : Hid (But w8 W2 sb sb) := Lib.hid (by rw [hW2]; exact HBT10.out)
          go_wp2
          go_step3
          rw [← hW2]
          clear hW2 dl fl HS11 HBT10 HS10 HRV HBZ HSZ HSA HBT
          go_wp2
          go_loopg [] (muD g.length (startS g.length (graphE g) r) + 1) (fun q u => ∃ S V, DomInv g.length (graphE g) r S ∧ muD g.length S < q ∧ SetsAt u sb g.length (come g.length (graphE g) r) V (setL g.length (graphE g) r S) ∧ But w8 u sb sb)
          case atStart => exact ⟨_, _, HDS.out, by omega, HS12.out, HBT12.out⟩
          case round =>
            obtain ⟨S, V, hv, hmu, hsa, hbt⟩ := hrel
            have HV := Lib.hid hv
            have HSA := Lib.hid hsa
            have HBT := Lib.hid hbt
            clear hv hsa hbt HS12 HBT12
            cases gk with
            | zero => omega
            | succ q =>
              obtain ⟨W3, rfl⟩ : ∃ W3, W3 = wr := ⟨_, rfl⟩
              go_wp2
              go_loopg [59] CL.length (fun q2 x u => ∃ j : Nat, j + q2 = CL.length ∧ x = .int .i64 j ∧ (∀ (k i : Nat), k < j → CL[k]? = some (i : Int) → i ≠ r → listN (aboveS g.length (graphE g) r S i) g.length = listN (S i) g.length) ∧ Below W3.heap.size W3 u)
              case atStart => exact ⟨0, by omega, rfl, fun k i hk => by omega, Below.refl _ _⟩
              case round =>
                obtain ⟨j, hj, rfl, hfix, hb⟩ := hrel
                have HFIX := Lib.hid hfix
                have HB := Lib.hid hb
                clear hfix hb
                have HSB0 : Hid (sb < W3.heap.size) := Lib.hid HSA.out.lt
                have HBU := Lib.hid (HB38.out.trans ((HBT.out.below (Nat.le_trans HB38.out.size (Nat.le_refl _)) HSB3.out HSB3.out).trans (HB.out.mono (Nat.le_trans (Nat.le_trans HSB3.out (Nat.le_of_lt HSB8.out)) HBT.out.size))))
                cases gk with
                | zero =>
                  obtain rfl : j = CL.length := by omega
                  have hge : ¬ ((CL.length : Int) < (CL.length : Int)) := by omega
                  have HEND := Lib.hid (HDE.out S HV.out fun i hi hc hne => by
                    obtain ⟨k, hk, hke⟩ := HCI.out i hi hc
                    exact HFIX.out k i hk hke hne)
                  go_wp2
                  go_ret
                  refine ⟨sb, _, V, rfl, (HSA.out.below HB.out).congr (fun _ _ => rfl) (fun i hi => by rw [HDO.out i]; exact HEND.out i hi), ?_, HSB.out⟩
                  exact HBW8.out.trans ((HBT.out.below HBW8.out.size HSB.out HSB.out).trans (HB.out.mono (Nat.le_trans HBW8.out.size HBT.out.size)))
                | succ q2 =>
                  have hlt : (j : Int) < (CL.length : Int) := by omega
                  obtain ⟨x, hx⟩ : ∃ x, CL[j]? = some x := ⟨_, List.getElem?_eq_getElem (by omega)⟩
                  obtain ⟨i, rfl, hin, hci⟩ := HCM.out j x hx
                  have HX := Lib.hid hx
                  have HCJ := Lib.hid hci
                  have da := (HB.out.cell (p := ⟨rb, j, none⟩) (Nat.lt_of_lt_of_le HRB8.out HBT.out.size)).trans ((HBT.out.cell (o := j) HRB8.out HNE.out HNE.out).trans (HC8.out j i hx))
                  have hin2 : (i : Int) < (g.length : Int) := by omega
                  clear hx hci
                  by_cases hir : i = r
                  · have t1 : ((i : Int) == (r : Int)) = true := by simp; omega
                    have HIR := Lib.hid hir
                    clear hir
                    go_wp2
                    go_roundg q2
                    case measure => omega
                    case rel => exact ⟨j + 1, by omega, by go_num, fun k i' hk hke hne => by
                      by_cases e : k = j
                      · subst e
                        have := HX.out.symm.trans hke
                        injection this with this
                        exact absurd (by have := HIR.out; omega) hne
                      · exact HFIX.out k i' (by omega) hke hne, HB.out⟩
                  · have t1 : ((i : Int) == (r : Int)) = false := by simp; omega
                    have HIR := Lib.hid hir
                    have HSU := Lib.hid (HSA.out.below HB.out)
                    have HAC := Lib.hid (above_any gb tb fb g.length W1.heap.size sb Vg (graphE g) r S V i wr (HGA.out.below HBU.out) HSU.out hin HGN.out HEL.out HGE.out)
                    have HLA := Lib.hid (listN_len (aboveS g.length (graphE g) r S i) g.length)
                    have HLB := Lib.hid (listN_len (S i) g.length)
                    have HAP : Hid (0 < (listN (aboveS g.length (graphE g) r S i) g.length).length) := Lib.hid (by obtain ⟨k, hk, _⟩ := listN_idx (n := g.length) (S := aboveS g.length (graphE g) r S i) hin (HAS.out S i HCJ.out); omega)
                    have hrv := HSU.out.each i hin
                    unfold RowV at hrv
                    rw [HCJ.out, if_pos rfl, HSE.out S i HCJ.out] at hrv
                    obtain ⟨b2, c2, hV2, hb2, hc2⟩ := hrv
                    have HC2 := Lib.hid (cells_getD hc2)
                    have HVI := Lib.hid hV2
                    clear hir hc2
                    go_upto_region 19 with (go_at_call 37; refine HAC.out.mono ?_; rintro e w11 ⟨v11, rfl, hown11, hb11⟩; obtain ⟨b11, c11, hv11, hl1, hl2, hl3, _⟩ := own_some hown11 HAP.out; subst hv11; have HO11 := Lib.hid hown11; have HB11 := Lib.hid hb11; have HC11 := Lib.hid hl3; clear hown11 hb11 hl1 hl2 hl3)
                    have HS11 := Lib.hid (HSU.out.below HB11.out)
                    have dv := HS11.out.row.c i hin
                    rw [HVI.out] at dv
                    have HE := Lib.hid (Try.slices_Equal_int b11 0 (listN (aboveS g.length (graphE g) r S i) g.length).length c11 b2 0 (listN (S i) g.length).length c2 (listN (aboveS g.length (graphE g) r S i) g.length) (listN (S i) g.length) w11 (Nat.le_refl _) (Nat.le_refl _) (by have := HLA.out; omega) (by have := HLB.out; omega) HC11.out (fun k hk => (HB11.out.cell (p := ⟨b2, 0 + k, none⟩) hb2.1).trans (HC2.out k hk)))
                    rw [List.take_length, List.take_length] at HE
                    clear da HAC HC2 HC11
                    by_cases heq : listN (aboveS g.length (graphE g) r S i) g.length = listN (S i) g.length
                    · have HEQ := Lib.hid heq
                      rw [show (listN (aboveS g.length (graphE g) r S i) g.length == listN (S i) g.length) = true by rw [heq]; simp] at HE
                      clear heq
                      go_upto_region 21 with (go_at_call 38; refine HE.out.mono ?_; rintro e w12 ⟨rfl, q12, rfl⟩)
                      have HBN := Lib.hid (HB.out.trans ((below_drewN HB11.out q12).mono HB.out.size))
                      clear dv
                      go_wp2
                      go_roundg q2
                      case measure => omega
                      case rel => exact ⟨j + 1, by omega, by go_num, fun k i' hk hke hne => by
                        by_cases e : k = j
                        · subst e
                          have := HX.out.symm.trans hke
                          injection this with this
                          have : i = i' := by omega
                          subst this
                          exact HEQ.out
                        · exact HFIX.out k i' (by omega) hke hne, HBN.out⟩
                    · have HDN := Lib.hid (HDX.out S HV.out i hin HCJ.out HIR.out heq)
                      rw [show (listN (aboveS g.length (graphE g) r S i) g.length == listN (S i) g.length) = false by simpa using heq] at HE
                      clear heq
                      go_upto_region 20 with (go_at_call 38; refine HE.out.mono ?_; rintro e w12 ⟨rfl, q12, rfl⟩)
                      have HRV := Lib.hid ((HO11.out.rowV (sb := sb) (by have := HLA.out; omega) HAP.out HSU.out.lt).but (But.of_below (below_drewN (Below.refl _ w11) q12) sb sb))
                      have HS12 := Lib.hid (HS11.out.below (below_drewN (Below.refl _ w11) q12))
                      have HS13 := Lib.hid (HS12.out.set hin HRV.out)
                      have HB13 := Lib.hid ((HBT.out.trans (But.of_below (HB.out.trans ((below_drewN HB11.out q12).mono HB.out.size)) sb sb)).trans (But.set1 (w11.drewN q12) sb sb i (.slice (some ⟨b11, 0, none⟩) (listN (aboveS g.length (graphE g) r S i) g.length).length c11)))
                      have dl := HS12.out.row.c i hin
                      rw [HVI.out] at dl
                      have fl := HS12.out.row.fz i hin
                      clear dv
                      go_wp2
                      go_roundg q
                      case measure => omega
                      case rel => exact ⟨_, _, HDN.out.1, by have := HDN.out.2.1; omega, HS13.out.congr (fun k _ => by by_cases e : k = i; (rw [if_pos e, e]; exact HCJ.out); rw [if_neg e]) (fun k _ => HDN.out.2.2 k), HB13.out⟩
end Go.Proofs.Ytedajbpjokmlaaa
