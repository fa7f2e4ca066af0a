/- The nodes that lead to themselves: the program's. -/
import Derived.Test.YtedajbpjokmlaaaGOrder
namespace Go.Proofs.Ytedajbpjokmlaaa
open Go Go.RowKit
set_option linter.unusedVariables false

/-- the cells of a list of one's own -/
theorem own_ints {w : World} {base : Nat} {v : Value} {l : List Int} (h : OwnSl 3 1 encI w base v l) : (l = [] ∧ v = .slice none 0 0) ∨ ∃ b c, v = .slice (some ⟨b, 0, none⟩) l.length c ∧ b < w.heap.size ∧ base ≤ b ∧ (∀ j, j < l.length → w.cell? ⟨b, 0 + j, none⟩ = some (.int .i64 (l.getD j 0))) ∧
    (∀ j, j < l.length → w.frozen? ⟨b, 0 + j, none⟩ = false) ∧ l.length ≤ c ∧ c ≤ maxLen := by
  rcases h.2 with ⟨rfl, h0⟩ | ⟨g, cap, cur, hv, h1, h2, h3, h4, h5, h6⟩
  · exact .inl ⟨List.length_eq_zero_iff.1 h0, rfl⟩
  · subst hv
    have hlt : g < w.heap.size := h.lt (b := g) rfl
    refine .inr ⟨g, cap, rfl, hlt, h1, fun j hj => ?_, fun j hj => ?_, h3, h4⟩
    · have hx : l[j]? = some (l.getD j 0) := by rw [List.getD_eq_getElem?_getD, List.getElem?_eq_getElem hj]; rfl
      have := World.ownsRow.cells h (g := g) rfl (j * 1 + 0) _ (flat_at encI_len l j _ hx 0 (.int .i64 (l.getD j 0)) rfl)
      rw [Addr.add_mid] at this
      simpa using this
    · simp [World.frozen?, h2]
theorem contains_own {w : World} {base : Nat} {v : Value} {l : List Int} (h : OwnSl 3 1 encI w base v l) (hl : l.length ≤ 10000) (x : Int) :
    Calls Try.prog 44 #[v, .int .i64 x] w (fun e w' => e = .returned (.bool (l.contains x)) ∧ w' = w) := by
  rcases own_ints h with ⟨rfl, rfl⟩ | ⟨b, c, rfl, _, _, hc, _⟩
  · exact Try.slices_Contains_int_empty none 0 x w
  · refine (Try.slices_Contains_int b 0 l.length c l x w (Nat.le_refl _) (by omega) hc).mono ?_
    rintro e w' ⟨rfl, rfl⟩
    rw [List.take_length]
    exact ⟨rfl, rfl⟩
def loopsOf (g : List GN) : List Int := listN (fun i => reach g.length (graphE g) i i) g.length
theorem listN_mem {S : Nat → Bool} {n i : Nat} : ((i : Int) ∈ listN S n) ↔ i < n ∧ S i = true := by
  unfold listN
  rw [List.mem_map]
  constructor
  · rintro ⟨y, hy, e⟩
    have : y = i := by omega
    subst this
    exact ⟨by simpa using (List.mem_filter.1 hy).1, (List.mem_filter.1 hy).2⟩
  · rintro ⟨h1, h2⟩
    exact ⟨i, List.mem_filter.2 ⟨by simpa using h1, h2⟩, rfl⟩
theorem reachL_self {g : List GN} {i : Nat} (hi : i < g.length) : (reachL g i).contains (i : Int) = reach g.length (graphE g) i i := by
  unfold reachL
  rw [if_pos (by unfold isN; simp; omega)]
  rw [Bool.eq_iff_iff, List.contains_iff_mem, show ((i : Int).toNat) = i by simp, listN_mem]
  exact ⟨fun h => h.2, fun h => ⟨hi, h⟩⟩

set_option maxHeartbeats 4000000 in
set_option maxRecDepth 100000 in
theorem loops_any (g : List GN) (c0 c1 c2 c3 c4 v5 : Value) (w : World) (hg : GraphAt w w.heap.size v5 g) (hlen : (edgesOf g).length ≤ 10000) (hgn : g.length ≤ 10000) :
    Calls Try.prog 17 #[.agg ⟨[c0, c1, c2, c3, c4, v5]⟩] w (IntsPost w (loopsOf g)) := by
  have HG := Lib.hid hg
  obtain ⟨hgl, A, c, rfl, hA⟩ := hg
  have HLEN := Lib.hid hlen
  have HGN := Lib.hid hgn
  clear hA hlen hgl
  obtain ⟨i0, hi, hz0, hz1, hz2⟩ := info_parts' info_int
  have HI0 := Lib.hid hi
  have HZ0 := Lib.hid hz0
  have HZ1 := Lib.hid hz1
  have HZ2 := Lib.hid hz2
  clear hi hz0 hz1 hz2
  go_enter Try.func17, Try.ntmps17
  go_upto_region 1 with (fail)
  have HB := Lib.hid (box_below w (.cells ⟨[c0, c1, c2, c3, c4, .slice A g.length c]⟩ 27))
  have HSZ := Lib.hid (box_size w (.cells ⟨[c0, c1, c2, c3, c4, .slice A g.length c]⟩ 27))
  have HC5 := Lib.hid (cells_box w [c0, c1, c2, c3, c4, .slice A g.length c] 27 5 _ rfl)
  have HR := Lib.hid (range_box w [c0, c1, c2, c3, c4, .slice A g.length c] 27)
  generalize w.alloc (.cells ⟨[c0, c1, c2, c3, c4, .slice A g.length c]⟩ 27) = W at *
  have d5 := HC5.out
  go_wp2
  clear d5 HC5
  go_loopg [2, 7] g.length (fun q v i u => ∃ j : Nat, j + q = g.length ∧ i = .int .i64 j ∧ OwnSl 3 1 encI u W.heap.size v (listN (fun i => reach g.length (graphE g) i i) j) ∧ Below W.heap.size W u)
  case atStart => exact ⟨0, by omega, rfl, OwnSl.nil _ _, Below.refl _ _⟩
  case round =>
    obtain ⟨j, hj, rfl, hown, hb⟩ := hrel
    have HO := Lib.hid hown
    have HB1 := Lib.hid hb
    clear hown hb
    cases gk with
    | zero =>
      obtain rfl : j = g.length := by omega
      have hge : ¬ ((g.length : Int) < (g.length : Int)) := by omega
      go_wp2
      go_ret
      exact ⟨_, rfl, HO.out.mono HB.out.size, HB.out.trans (HB1.out.mono HB.out.size)⟩
    | succ q =>
      have hlt : (j : Int) < (g.length : Int) := by omega
      have hlt' : j < g.length := by omega
      have HBW := Lib.hid (HB.out.trans (HB1.out.mono HB.out.size))
      have HCR := Lib.hid (reach_any g j c0 c1 c2 c3 c4 (.slice A g.length c) wr (HG.out.next HBW.out) HLEN.out HGN.out)
      have HR1 := Lib.hid (rangeAt_below HR.out HB1.out HSZ.out)
      have HLS := Lib.hid (listN_succ (fun i => reach g.length (graphE g) i i) j)
      have HLN := Lib.hid (listN_len (fun i => reach g.length (graphE g) i i) j)
      cases hmj : reach g.length (graphE g) j j with
      | false =>
        have HRS : Hid ((reachL g j).contains (j : Int) = false) := Lib.hid ((reachL_self hlt').trans hmj)
        have HN : Hid (listN (fun i => reach g.length (graphE g) i i) (j + 1) = listN (fun i => reach g.length (graphE g) i i) j) := Lib.hid (by rw [HLS.out, hmj]; simp)
        clear hmj
        go_wp2_with (first | ((with_reducible refine wl_sload 27 _ rfl ?hw2 w.heap.size 0 [c0, c1, c2, c3, c4, .slice A g.length c] _ rfl HR1.out Try.underlying27 rfl ?hi2 ?_); (case hw2 => first | exact wanted_none rfl | exact wanted_if rfl rfl rfl rfl); (case hi2 => kernel_rfl)) | (go_at_call 19; refine HCR.out.mono ?_; rintro e w3 ⟨v3, rfl, hown3, hb3⟩; have HO3 := Lib.hid hown3; have HB3 := Lib.hid hb3; clear hown3 hb3; have HCC := Lib.hid (contains_own HO3.out (Nat.le_trans (reachL_len g j) HGN.out) (j : Int))) | (go_at_call 44; refine HCC.out.mono ?_; rintro e w4 ⟨rfl, rfl⟩; rw [HRS.out]))
        have HB4 := Lib.hid (HB1.out.trans (HB3.out.mono HB1.out.size))
        have HO4 := Lib.hid (HO.out.below HB3.out)
        go_roundg q
        case measure => omega
        case rel => exact ⟨j + 1, by omega, by go_num, by rw [HN.out]; exact HO4.out, HB4.out⟩
      | true =>
        have HRS : Hid ((reachL g j).contains (j : Int) = true) := Lib.hid ((reachL_self hlt').trans hmj)
        have HN : Hid (listN (fun i => reach g.length (graphE g) i i) (j + 1) = listN (fun i => reach g.length (graphE g) i i) j ++ [(j : Int)]) := Lib.hid (by rw [HLS.out, hmj]; simp)
        clear hmj
        go_upto_region 5 with (first | ((with_reducible refine wl_sload 27 _ rfl ?hw2 w.heap.size 0 [c0, c1, c2, c3, c4, .slice A g.length c] _ rfl HR1.out Try.underlying27 rfl ?hi2 ?_); (case hw2 => first | exact wanted_none rfl | exact wanted_if rfl rfl rfl rfl); (case hi2 => kernel_rfl)) | (go_at_call 19; refine HCR.out.mono ?_; rintro e w3 ⟨v3, rfl, hown3, hb3⟩; have HO3 := Lib.hid hown3; have HB3 := Lib.hid hb3; clear hown3 hb3; have HCC := Lib.hid (contains_own HO3.out (Nat.le_trans (reachL_len g j) HGN.out) (j : Int))) | (go_at_call 44; refine HCC.out.mono ?_; rintro e w4 ⟨rfl, rfl⟩; rw [HRS.out]))
        have HB4 := Lib.hid (HB1.out.trans (HB3.out.mono HB1.out.size))
        have HO4 := Lib.hid (HO.out.below HB3.out)
        clear HO HO3 HB3 HB1
        have HWZ := Lib.hid (HO4.out.below (box_below w4 (.cells ⟨encI (j : Int)⟩ 3)))
        have HCE := Lib.hid (cells_box w4 (encI (j : Int)) 3)
        have HK1 : Hid ((listN (fun i => reach g.length (graphE g) i i) j).length + 1 ≤ maxLen) := Lib.hid (room_max (by have := HLN.out; omega))
        have HK2 : Hid (((listN (fun i => reach g.length (graphE g) i i) j).length + 1) * 8 ≤ 140737488355328) := Lib.hid (by have := HLN.out; omega)
        have HBB := Lib.hid (HB4.out.alloc HB4.out.size (.cells ⟨encI (j : Int)⟩ 3))
        go_wp2_with (at_builtin; refine wl_push rfl _ _ 34 rfl _ 3 i0 (.int .i64 0) 1 8 encI Try.underlying34 HI0.out HZ0.out HZ1.out HZ2.out rfl (by decide) encI_len encI_one _ _ rfl HWZ.out w4.heap.size 1 (j : Int) rfl HCE.out HK1.out HK2.out HBB.out.size ?_)
        intro v' w' hown hg
        have HO5 := Lib.hid hown
        have HB5 := Lib.hid (push_below HBB.out HBB.out.size HWZ.out (Nat.le_refl _) hg)
        clear hown hg
        go_wp2
        go_roundg q
        case measure => omega
        case rel => exact ⟨j + 1, by omega, by go_num, by rw [HN.out]; exact HO5.out, HB5.out⟩
end Go.Proofs.Ytedajbpjokmlaaa
