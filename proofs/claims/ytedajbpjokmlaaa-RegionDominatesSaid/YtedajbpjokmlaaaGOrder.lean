/- The program's order of a graph. -/
import Derived.Test.YtedajbpjokmlaaaMReach
import Derived.BigQuiet
namespace Go.Proofs.Ytedajbpjokmlaaa
open Go Go.RowKit
set_option linter.unusedVariables false

theorem idx_pick (n : Nat) (E : List (Nat × Nat)) (D : List Nat) : Go.Lib.idxOf ((leftL n E D).take n) 0 = match pickN n E D with | none => -1 | some i => (i : Int) := by
  have hg : ∀ j, j < n → (leftL n E D).getD j 0 = leftAt E D j := fun j hj => by rw [List.getD_eq_getElem?_getD, leftL_at hj]; rfl
  cases h : pickN n E D with
  | none =>
    refine Go.Lib.idxOf_miss _ _ _ fun j hj e => ?_
    rw [hg j hj, left_zero] at e
    unfold pickN at h
    rw [List.find?_eq_none] at h
    exact h j (List.mem_range.2 hj) e
  | some i =>
    obtain ⟨h1, h2, h3, h4⟩ := pick_some h
    refine Go.Lib.idxOf_hit _ _ _ _ h1 (by rw [leftL_len]; exact Nat.le_refl _) ?_ fun j hj e => ?_
    · rw [hg i h1, left_zero]
      unfold pickN at h
      exact List.find?_some h
    · rw [hg j (by omega), left_zero, h4 j hj] at e
      cases e
/-- a row of numbers in a block of one's own -/
def RowL (w : World) (g : Nat) (l : List Int) : Prop := RowF w g l.length (fun i => .int .i64 (l.getD i 0))
section
variable {w w' : World} {g : Nat} {l : List Int}
theorem RowL.at (h : RowL w g l) {i : Nat} (hi : i < l.length) : w.cell? ⟨g, i, none⟩ = some (.int .i64 (l.getD i 0)) := h.c i hi
theorem RowL.below {B : Nat} (h : RowL w g l) (hb : Below B w w') (hg : g < B) : RowL w' g l := RowF.below h hb hg
theorem RowL.keep (h : RowL w g l) (hb : w'.heap[g]? = w.heap[g]?) : RowL w' g l := RowF.keep h hb
theorem RowL.set (h : RowL w g l) {i : Nat} (hi : i < l.length) (y : Int) : RowL (w.setCell ⟨g, i, none⟩ (.int .i64 y)) g (l.set i y) := by
  unfold RowL
  rw [List.length_set]
  refine (RowF.set h hi (.int .i64 y)).congr fun j hj => ?_
  show (if j = i then _ else _) = Value.int .i64 ((l.set i y).getD j 0)
  rw [getD_set hi]
  split <;> rfl
theorem RowL.of {n : Nat} {f : Nat → Value} (h : RowF w g n f) (hl : l.length = n) (hf : ∀ i, i < n → f i = .int .i64 (l.getD i 0)) : RowL w g l := by
  unfold RowL; rw [hl]; exact h.congr hf
end
theorem GAt.below {w w' : World} {gb tb fb n base : Nat} {V : Nat → Value} {E : List (Nat × Nat)} (h : GAt w gb tb fb n base V E) (hb : Below w.heap.size w w') : GAt w' gb tb fb n base V E :=
  ⟨(hb.cell (p := ⟨gb, 0, none⟩) h.lt).trans h.c0, (hb.cell (p := ⟨gb, 1, none⟩) h.lt).trans h.c1, (hb.cell (p := ⟨gb, 2, none⟩) h.lt).trans h.c2, h.rows.below hb, Nat.lt_of_lt_of_le h.lt hb.size, h.ge⟩
/-- what leads out of a node: the cells -/
structure OutAt (w : World) (B : Nat) (v : Value) (l : List Nat) : Prop where
  ex : ∃ A c, v = .slice A l.length c ∧ (0 < l.length → ∃ b, A = some ⟨b, 0, none⟩ ∧ b < B ∧ ∀ (i : Nat) x, l[i]? = some x → w.cell? ⟨b, i, none⟩ = some (.int .i64 x))
theorem own_nats {w : World} {base : Nat} {v : Value} {l : List Nat} (h : OwnSl 3 1 encI w base v (natsI l)) (hl : l.length ≤ 10000) : OutAt w w.heap.size v l := by
  obtain ⟨_, A, c, rfl, h2⟩ := h.at encI_len (by rw [natsI_len]; omega)
  refine ⟨A, c, by rw [natsI_len], fun h0 => ?_⟩
  obtain ⟨b, o, rfl, hlt, hc⟩ := h2 (by rw [natsI_len]; exact h0)
  have ho : o = 0 := by
    rcases h.2 with ⟨h1, _⟩ | ⟨q, cap, cur, h1, _⟩
    · cases h1
    · injection h1 with h1 _ _
      injection h1 with h1
      injection h1 with _ h1 _
  subst ho
  refine ⟨b, rfl, hlt, fun i x hx => ?_⟩
  obtain ⟨ks, h3, h4, h5⟩ := hc i x (by unfold natsI; rw [List.getElem?_map, hx]; rfl)
  have h5' : ks = encI x := h5
  subst h5'
  have := h4 0 (.int .i64 x) rfl
  simpa using this
def startL (n : Nat) (E : List (Nat × Nat)) (j : Nat) : List Int := (List.range n).map fun i => if i < j then ((ins E i).length : Int) else 0
theorem startL_len (n : Nat) (E : List (Nat × Nat)) (j : Nat) : (startL n E j).length = n := by simp [startL]
theorem startL_zero (n : Nat) (E : List (Nat × Nat)) (x : Nat) : (startL n E 0).getD x 0 = 0 := by
  unfold startL; rw [List.getD_eq_getElem?_getD, List.getElem?_map]
  cases (List.range n)[x]? <;> simp
theorem startL_succ (n : Nat) (E : List (Nat × Nat)) (j : Nat) (hj : j < n) : startL n E (j + 1) = (startL n E j).set j ((ins E j).length : Int) := by
  refine ext_below (n := n) (by simp [startL]) (by simp [startL]) fun x hx => ?_
  rw [List.getElem?_set, startL_len]
  unfold startL
  rw [List.getElem?_map, List.getElem?_map, List.getElem?_range hx]
  by_cases h : j = x
  · subst h; rw [if_pos rfl, if_pos hj]; simp
  · rw [if_neg h]; simp only [Option.map_some]
    by_cases h2 : x < j
    · rw [if_pos h2, if_pos (by omega)]
    · rw [if_neg h2, if_neg (by omega)]
theorem startL_end (n : Nat) (E : List (Nat × Nat)) : startL n E n = leftL n E [] := by
  rw [left_start]
  refine ext_below (n := n) (by simp [startL]) (by simp) fun x hx => ?_
  unfold startL
  rw [List.getElem?_map, List.getElem?_map, List.getElem?_range hx]
  simp [hx]
theorem own_set {α : Type} {T : TypeId} {k B lb i : Nat} {enc : α → List Value} {w : World} {v : Value} {l : List α} (h : OwnSl T k enc w B v l) (hlb : lb < B) (y : Value) : OwnSl T k enc (w.setCell ⟨lb, i, none⟩ y) B v l :=
  World.ownsRow.kept h (grown_set (grown_refl w _) y) (.inr fun e => by have := h.block e; omega)
theorem below_set {B lb i : Nat} {w0 w : World} (h : Below B w0 w) (hlb : B ≤ lb) (y : Value) : Below B w0 (w.setCell ⟨lb, i, none⟩ y) := below_sets (vs := [y]) h hlb i
theorem order_stop {n : Nat} {E : List (Nat × Nat)} {D : List Nat} (h : pickN n E D = none) : ∀ k, orderN n E k D = D
  | 0 => rfl
  | k + 1 => by
    unfold orderN
    rw [h]
theorem order_next {n : Nat} {E : List (Nat × Nat)} {D : List Nat} {i : Nat} (h : pickN n E D = some i) (k : Nat) : orderN n E (k + 1) D = orderN n E k (D ++ [i]) := by
  conv => lhs; unfold orderN
  rw [h]
theorem pick_room {n k : Nat} {E : List (Nat × Nat)} {D : List Nat} {i : Nat} (t : Topo n E D) (h : pickN n E D = some i) (hk : D.length + k = n) : ∃ k', k = k' + 1 := by
  obtain ⟨h1, h2, _⟩ := pick_some h
  cases k with
  | zero => exact absurd (t.all (by omega) h1) h2
  | succ k => exact ⟨k, rfl⟩
def OrdPost (w : World) (n : Nat) (E : List (Nat × Nat)) (e : Ending) (w' : World) : Prop :=
  ∃ v, e = .returned (.tuple #[v, .bool ((orderOf n E).length == n)]) ∧ OwnSl 3 1 encI w' w.heap.size v (natsI (orderOf n E)) ∧ Below w.heap.size w w'

set_option maxHeartbeats 4000000 in
set_option maxRecDepth 100000 in
theorem gorder_any (gb tb fb n base : Nat) (V : Nat → Value) (E : List (Nat × Nat)) (w : World) (hg : GAt w gb tb fb n base V E) (hn : n ≤ 10000) (hE : E.length ≤ 10000) (hl : ∀ e ∈ E, e.1 < n ∧ e.2 < n) :
    Calls Try.prog 42 #[.pointer (some ⟨gb, 0, none⟩)] w (OrdPost w n E) := by
  have HG := Lib.hid hg
  have HEL := Lib.hid hE
  have HL := Lib.hid hl
  clear hg hE hl
  have d0 := HG.out.c0
  have hn2 : (n : Int) ≤ 10000 := by omega
  obtain ⟨i0, hi, hz0, hz1, hz2⟩ := info_parts' info_int
  have HI0 := Lib.hid hi
  have HZ0 := Lib.hid hz0
  have HZ1 := Lib.hid hz1
  have HZ2 := Lib.hid hz2
  clear hi hz0 hz1 hz2
  go_enter Try.func42, Try.ntmps42
  go_upto_region 2 with ((with_reducible refine wl_make 34 3 _ _ rfl ?hw i0 (.int .i64 0) 8 n Try.underlying34 HI0.out HZ0.out HZ1.out HZ2.out (by decide) rfl ?hx ?hy hn ?_); (case hw => first | exact wanted_none rfl | exact wanted_if rfl rfl rfl rfl); (case hx => rfl); (case hy => rfl); intro w1 hrow htag hb1 hs1; have HROW := Lib.hid hrow; have HTAG := Lib.hid htag; have HB1 := Lib.hid hb1; have HS1 := Lib.hid hs1; clear hrow htag hb1 hs1)
  have HRL : Hid (RowL w1 w.heap.size (startL n E 0)) := Lib.hid (RowL.of HROW.out (startL_len n E 0) fun i _ => by rw [startL_zero])
  clear d0 HROW
  obtain ⟨lb, hlb⟩ : ∃ lb, w.heap.size = lb := ⟨_, rfl⟩
  have HLB : Hid (w.heap.size ≤ lb) := Lib.hid (by omega)
  have HS : Hid (lb < w1.heap.size) := Lib.hid (hlb ▸ HS1.out)
  rw [hlb] at HRL
  rw [hlb]
  clear HS1 hlb HTAG
  obtain ⟨B1, hB1⟩ : ∃ B1, w1.heap.size = B1 := ⟨_, rfl⟩
  rw [hB1] at HS
  have HBS : Hid (w1.heap.size ≥ B1) := Lib.hid (by omega)
  clear hB1
  go_wp2
  go_loopg [17] n (fun q i u => ∃ j : Nat, j + q = n ∧ i = .int .i64 j ∧ RowL u lb (startL n E j) ∧ Below w.heap.size w u ∧ B1 ≤ u.heap.size)
  case atStart => exact ⟨0, by omega, rfl, HRL.out, HB1.out, HBS.out⟩
  case round =>
    obtain ⟨j, hj, rfl, hrow, hb, hs⟩ := hrel
    have HROW := Lib.hid hrow
    have HB := Lib.hid hb
    have HSZ := Lib.hid hs
    clear hrow hb hs HRL HB1 HBS
    have HGU := Lib.hid (HG.out.below HB.out)
    cases gk with
    | succ q =>
      have hlt : (j : Int) < (n : Int) := by omega
      have hlt' : j < n := by omega
      have d2 := HGU.out.c2
      have ho := own_nats (l := ins E j) (by have := HGU.out.rows.own (n + j) (by omega); unfold rowsG at this; rw [if_neg (by omega), Nat.add_sub_cancel_left] at this; exact this) (Nat.le_trans (ins_len E j) HEL.out)
      obtain ⟨A, c, hv, _⟩ := ho.ex
      have dr := HGU.out.rows.cf.c j hlt'
      rw [hv] at dr
      clear hv ho
      have HSL : Hid (j < (startL n E j).length) := Lib.hid (by rw [startL_len]; exact hlt')
      have dl := HROW.out.at HSL.out
      have fl := HROW.out.fz j HSL.out
      have HR2 := Lib.hid (HROW.out.set HSL.out ((ins E j).length : Int))
      rw [← startL_succ n E j hlt'] at HR2
      go_wp2
      go_roundg q
      case measure => omega
      case rel => exact ⟨j + 1, by omega, by go_num, HR2.out, below_set HB.out HLB.out _, by simpa using HSZ.out⟩
    | zero =>
      obtain rfl : j = n := by omega
      have hge : ¬ ((j : Int) < (j : Int)) := by omega
      have HRL : Hid (RowL wr lb (leftL j E [])) := Lib.hid (by rw [← startL_end]; exact HROW.out)
      clear HROW HGU
      go_wp2
      clear hge
      go_loopg [6] (j + 1) (fun q v u => ∃ (k : Nat) (D : List Nat), k + 1 = q ∧ orderN j E k D = orderOf j E ∧ Topo j E D ∧ D.length + k = j ∧ RowL u lb (leftL j E D) ∧ OwnSl 3 1 encI u B1 v (natsI D) ∧ Below w.heap.size w u ∧ B1 ≤ u.heap.size)
      case atStart => exact ⟨j, [], rfl, rfl, Topo.nil _ _, by simp, HRL.out, OwnSl.nil _ _, HB.out, HSZ.out⟩
      case round =>
        obtain ⟨k, D, rfl, hord, htp, hk, hrow, hown, hb, hs⟩ := hrel
        clear HRL HB HSZ
        have HORD := Lib.hid hord
        have HTP := Lib.hid htp
        have HROW := Lib.hid hrow
        have HOWN := Lib.hid hown
        have HB := Lib.hid hb
        have HSZ := Lib.hid hs
        clear hord htp hrow hown hb hs
        have HGU := Lib.hid (HG.out.below HB.out)
        have HC := Lib.hid (Try.slices_Index_int lb 0 j j (leftL j E D) 0 wr (by rw [leftL_len]; exact Nat.le_refl _) (by omega) (fun i hi => by rw [Nat.zero_add]; exact HROW.out.at hi))
        obtain ⟨A6, c6, hv6⟩ := own_sl HOWN.out
        rw [natsI_len] at hv6
        subst hv6
        go_wp2_with (go_at_call 61; fail)
        refine HC.out.mono ?_
        rintro e w' ⟨rfl, rfl⟩
        rw [idx_pick]
        cases hp : pickN j E D with
        | none =>
          have HOR : Hid (orderOf j E = D) := Lib.hid (by rw [← HORD.out, order_stop hp])
          have d0 := HGU.out.c0
          have hle : (D.length : Int) ≤ 10000 := by omega
          clear hp
          go_upto_region 10 with (fail)
          by_cases hlen : D.length = j
          · have t1 : ((D.length : Int) == (j : Int)) = true := by simp; omega
            have HR : Hid (((orderOf j E).length == j) = true) := Lib.hid (by rw [HOR.out]; simpa using hlen)
            clear hlen
            go_quiet (fail)
            go_wp2
            go_ret2
            exact ⟨.slice A6 D.length c6, by rw [HR.out]; rfl, by rw [HOR.out]; exact (HOWN.out.below (below_drewN (Below.refl _ _) _)).mono (by have := HLB.out; have := HS.out; omega), below_drewN HB.out _⟩
          · have t1 : ((D.length : Int) == (j : Int)) = false := by simp; omega
            have HR : Hid (((orderOf j E).length == j) = false) := Lib.hid (by rw [HOR.out]; simpa using hlen)
            clear hlen
            go_quiet (fail)
            go_wp2
            go_ret2
            exact ⟨.slice A6 D.length c6, by rw [HR.out]; rfl, by rw [HOR.out]; exact (HOWN.out.below (below_drewN (Below.refl _ _) _)).mono (by have := HLB.out; have := HS.out; omega), below_drewN HB.out _⟩
        | some i =>
          obtain ⟨hij, hiD, _, _⟩ := pick_some hp
          obtain ⟨k', rfl⟩ := pick_room HTP.out hp hk
          have HNX := Lib.hid (order_next hp k')
          have HTP2 := Lib.hid (HTP.out.step hp)
          have HMZ := Lib.hid (leftMid_zero (n := j) (E := E) (D := D) (i := i))
          have HME := Lib.hid (leftMid_end HTP.out hp)
          have hi2 : (i : Int) < (j : Int) := by omega
          have HIL : Hid (i < (leftL j E D).length) := Lib.hid (by rw [leftL_len]; exact hij)
          have dl := HROW.out.at HIL.out
          have fl := HROW.out.fz i HIL.out
          have HR2 := Lib.hid (HROW.out.set HIL.out (-1))
          rw [← HMZ.out] at HR2
          have HO2 := Lib.hid (own_set (i := i) HOWN.out HS.out (.int .i64 (-1)))
          have HB2 := Lib.hid (below_set (i := i) HB.out HLB.out (.int .i64 (-1)))
          have HS2 : Hid (B1 ≤ (w'.setCell ⟨lb, i, none⟩ (.int .i64 (-1))).heap.size) := Lib.hid (by simpa using HSZ.out)
          have hdl : (D.length : Int) + 1 ≤ 10000 := by omega
          have HTL : Hid ((natsI D).length + 1 ≤ 10000) := Lib.hid (by rw [natsI_len]; omega)
          clear hp hiD HC HGU HROW HOWN HB HSZ HTP HMZ
          go_upto_region 12 with (fail)
          clear dl fl
          generalize w'.setCell ⟨lb, i, none⟩ (.int .i64 (-1)) = W at *
          have HWZ : Hid (OwnSl 3 1 encI (W.alloc (.cells ⟨encI (i : Int)⟩ 3)) B1 _ (natsI D)) := Lib.hid (OwnSl.below HO2.out (box_below W (.cells ⟨encI (i : Int)⟩ 3)))
          have HCE := Lib.hid (cells_box W (encI (i : Int)) 3)
          have HK1 : Hid ((natsI D).length + 1 ≤ maxLen) := Lib.hid (room_max HTL.out)
          have HK2 : Hid (((natsI D).length + 1) * 8 ≤ 140737488355328) := Lib.hid (by have := HTL.out; omega)
          have HBB := Lib.hid (HB2.out.alloc HB2.out.size (.cells ⟨encI (i : Int)⟩ 3))
          have HSB : Hid (B1 ≤ (W.alloc (.cells ⟨encI (i : Int)⟩ 3)).heap.size) := Lib.hid (Nat.le_trans HS2.out (Nat.le_of_lt (box_size _ _)))
          have HRB := Lib.hid (HR2.out.below (box_below W (.cells ⟨encI (i : Int)⟩ 3)) (Nat.lt_of_lt_of_le HS.out HS2.out))
          go_upto_region 13 with (at_builtin; refine wl_push rfl _ _ 34 rfl B1 3 i0 (.int .i64 0) 1 8 encI Try.underlying34 HI0.out HZ0.out HZ1.out HZ2.out rfl (by decide) encI_len encI_one _ _ rfl HWZ.out W.heap.size 1 (i : Int) rfl HCE.out HK1.out HK2.out HSB.out ?_; intro v' W2 hown hg; have HO3 := Lib.hid hown; have HG3 := Lib.hid hg; clear hown hg)
          rw [← natsI_snoc] at HO3
          have HB3 := Lib.hid (push_below HBB.out HBB.out.size HWZ.out (by have := HLB.out; have := HS.out; omega) HG3.out)
          have HS3 := Lib.hid (Nat.le_trans HSB.out HG3.out.size)
          have HR3 := Lib.hid (HRB.out.keep (HG3.out.block lb (Nat.lt_of_lt_of_le HS.out HSB.out) (fun h => by have := HWZ.out.block h.symm; have := HS.out; omega)))
          have HGU := Lib.hid (HG.out.below HB3.out)
          clear HBB HSB HRB HG3 HWZ HCE HB2 HO2 HR2 HS2
          have d1 := HGU.out.c1
          have HOU := Lib.hid (own_nats (l := outs E i) (w := w) (by have := HG.out.rows.own i (by omega); unfold rowsG at this; rw [if_pos hij] at this; exact this) (Nat.le_trans (outs_len E i) HEL.out))
          obtain ⟨A, c, hv, hA⟩ := HOU.out.ex
          have HA := Lib.hid hA
          have dr := HGU.out.rows.ct.c i hij
          rw [hv] at dr
          clear hv hA HOU
          have HOL := Lib.hid (Nat.le_trans (outs_len E i) HEL.out)
          go_wp2
          clear d1 dr
          go_loopg [59] (outs E i).length (fun q2 x u => ∃ p : Nat, p + q2 = (outs E i).length ∧ x = .int .i64 p ∧ RowL u lb (leftMid j E D i p) ∧ OwnSl 3 1 encI u B1 v' (natsI (D ++ [i])) ∧ Below w.heap.size w u ∧ B1 ≤ u.heap.size)
          case atStart => exact ⟨0, by omega, rfl, HR3.out, HO3.out, HB3.out, HS3.out⟩
          case round =>
            obtain ⟨p, hp, rfl, hrow, hown, hb, hs⟩ := hrel
            clear HR3 HO3 HB3 HGU
            have HROW := Lib.hid hrow
            have HOWN := Lib.hid hown
            have HB := Lib.hid hb
            have HSZ := Lib.hid hs
            clear hrow hown hb hs
            cases gk with
            | zero =>
              obtain rfl : p = (outs E i).length := by omega
              have hge : ¬ (((outs E i).length : Int) < ((outs E i).length : Int)) := by omega
              go_wp2
              go_roundg (k' + 1)
              case measure => omega
              case rel => exact ⟨k', D ++ [i], rfl, by rw [← HORD.out, HNX.out], HTP2.out, by rw [List.length_append, List.length_singleton]; omega, by rw [← HME.out]; exact HROW.out, HOWN.out, HB.out, HSZ.out⟩
            | succ q2 =>
              have hlt : (p : Int) < ((outs E i).length : Int) := by omega
              have hol : ((outs E i).length : Int) ≤ 10000 := by have := HOL.out; omega
              obtain ⟨x, hx⟩ : ∃ x, (outs E i)[p]? = some x := ⟨_, List.getElem?_eq_getElem (by omega)⟩
              have hxj : x < j := (HL.out (i, x) (mem_outs.1 (List.mem_of_getElem? hx))).2
              obtain ⟨b, rfl, hbl, hc⟩ := HA.out (by omega)
              have da := (HB.out.cell (p := ⟨b, p, none⟩) hbl).trans (hc p x hx)
              have hx2 : (x : Int) < (j : Int) := by omega
              have HXL : Hid (x < (leftMid j E D i p).length) := Lib.hid (by rw [leftMid_len]; exact hxj)
              have dl := HROW.out.at HXL.out
              have fl := HROW.out.fz x HXL.out
              have hrg := leftMid_range (n := j) (E := E) (D := D) i p x hxj
              have hEL := HEL.out
              have HR2 := Lib.hid (HROW.out.set HXL.out ((leftMid j E D i p).getD x 0 - 1))
              rw [← leftMid_succ hx hxj] at HR2
              generalize (leftMid j E D i p).getD x 0 = y at *
              have hy1 : -10001 ≤ y := by omega
              have hy2 : y ≤ 10000 := by omega
              have HO2 := Lib.hid (own_set (i := x) HOWN.out HS.out (.int .i64 (y - 1)))
              have HB2 := Lib.hid (below_set (i := x) HB.out HLB.out (.int .i64 (y - 1)))
              have HS2 : Hid (B1 ≤ (wr.setCell ⟨lb, x, none⟩ (.int .i64 (y - 1))).heap.size) := Lib.hid (by simpa using HSZ.out)
              clear hc hx hrg hEL
              go_wp2
              go_roundg q2
              case measure => omega
              case rel => exact ⟨p + 1, by omega, by go_num, HR2.out, HO2.out, HB2.out, HS2.out⟩
end Go.Proofs.Ytedajbpjokmlaaa
