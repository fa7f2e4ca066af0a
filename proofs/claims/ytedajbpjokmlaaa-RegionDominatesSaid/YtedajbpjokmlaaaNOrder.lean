/- The document's order. -/
import Derived.Test.YtedajbpjokmlaaaLongest
namespace Go.Proofs.Ytedajbpjokmlaaa
open Go Go.RowKit
set_option linter.unusedVariables false

def okEs (g : List GN) : List EdgeT := (edgesOf g).filter (okE g.length)
theorem okEs_mem {g : List GN} {e : EdgeT} (h : e ∈ okEs g) : e.1 < g.length ∧ ∃ t : Nat, e.2.2 = t ∧ t < g.length := by
  obtain ⟨h1, h2⟩ := List.mem_filter.1 h
  rw [okE_iff] at h2
  exact ⟨edges_from h1, e.2.2.toNat, by omega, by omega⟩
theorem okEs_graph (g : List GN) : graphE g = (okEs g).map fun e => (e.1, e.2.2.toNat) := rfl
def freeK (l : List EdgeT) (D : List Nat) (i : Nat) : Bool := !D.contains i && l.all fun e => !(e.2.2 == (i : Int)) || D.contains e.1
theorem freeK_succ {l : List EdgeT} {k : Nat} {e : EdgeT} (h : l[k]? = some e) (D : List Nat) (i : Nat) : freeK (l.take (k + 1)) D i = (freeK (l.take k) D i && (!(e.2.2 == (i : Int)) || D.contains e.1)) := by
  unfold freeK
  rw [take_at h, List.all_append]
  simp [Bool.and_assoc]
theorem freeK_end (g : List GN) (D : List Nat) (i : Nat) : freeK (okEs g) D i = freeN (graphE g) D i := by
  unfold freeK freeN
  rw [okEs_graph, List.all_map]
  congr 1
  rw [Bool.eq_iff_iff, List.all_eq_true, List.all_eq_true]
  constructor
  · intro h e he
    have := h e he
    obtain ⟨_, t, h1, h2⟩ := okEs_mem he
    simp only [Function.comp]
    rw [h1] at this ⊢
    simp at this ⊢
    rcases this with h | h
    · exact .inl (by omega)
    · exact .inr h
  · intro h e he
    have := h e he
    obtain ⟨_, t, h1, h2⟩ := okEs_mem he
    simp only [Function.comp] at this
    rw [h1] at this ⊢
    simp at this ⊢
    rcases this with h | h
    · exact .inl (by omega)
    · exact .inr h
theorem ok_loops (g : List GN) : okOf g = true ↔ loopsOf g = [] := by
  unfold okOf
  rw [beq_iff_eq, order_whole (fun e he => (graphE_lt e he).1) (fun e he => (graphE_lt e he).2)]
  constructor
  · intro h
    refine List.eq_nil_iff_forall_not_mem.2 fun x hx => ?_
    unfold loopsOf listN at hx
    obtain ⟨y, hy, rfl⟩ := List.mem_map.1 hx
    obtain ⟨h1, h2⟩ := List.mem_filter.1 hy
    exact h y (by simpa using h1) ((reach_iff (fun e he => (graphE_lt e he).2)).1 h2)
  · intro h i hi hw
    have : (i : Int) ∈ loopsOf g := listN_mem.2 ⟨hi, (reach_iff (fun e he => (graphE_lt e he).2)).2 hw⟩
    rw [h] at this
    cases this
theorem pick_some_of {g : List GN} (hok : okOf g = true) {D : List Nat} (t : Topo g.length (graphE g) D) (hl : D.length < g.length) : ∃ p, pickN g.length (graphE g) D = some p := by
  have hac := (order_whole (n := g.length) (fun e he => (graphE_lt (g := g) e he).1) (fun e he => (graphE_lt e he).2)).1 (by unfold okOf at hok; simpa using hok)
  obtain ⟨i, hi, hD⟩ := t.less hl
  cases h : pickN g.length (graphE g) D with
  | some p => exact ⟨p, rfl⟩
  | none => exact absurd h (pick_free (fun e he => (graphE_lt (g := g) e he).1) (fun e he => (graphE_lt e he).2) hac _ i (Nat.le_refl _) hi hD)
theorem contains_snoc (D : List Nat) (p i : Nat) : (D ++ [p]).contains i = if i = p then true else D.contains i := by
  by_cases h : i = p
  · subst h; simp
  · rw [if_neg h]
    rw [Bool.eq_iff_iff, List.contains_iff_mem, List.contains_iff_mem]
    simp [h]

set_option maxHeartbeats 4000000 in
set_option maxRecDepth 100000 in
theorem norder_any (g : List GN) (c0 c1 c2 c3 c4 v5 : Value) (w : World) (hg : GraphAt w w.heap.size v5 g) (hlen : (edgesOf g).length ≤ 10000) (hgn : g.length ≤ 5000) :
    Calls Try.prog 20 #[.agg ⟨[c0, c1, c2, c3, c4, v5]⟩] w (TwoPost w (ordL g) (okOf g)) := by
  have HG := Lib.hid hg
  obtain ⟨hgl, A, c, rfl, hA⟩ := hg
  have HLEN := Lib.hid hlen
  have HG5 := Lib.hid hgn
  clear hA hlen hgl
  obtain ⟨i0, hi, hz0, hz1, hz2⟩ := info_parts' info_int
  have HI0 := Lib.hid hi
  have HZ0 := Lib.hid hz0
  have HZ1 := Lib.hid hz1
  have HZ2 := Lib.hid hz2
  clear hi hz0 hz1 hz2
  obtain ⟨ib, hib, hib0, hib1, hib2⟩ := info_parts' info_bool
  have HIB := Lib.hid hib
  have HIB0 := Lib.hid hib0
  have HIB1 := Lib.hid hib1
  have HIB2 := Lib.hid hib2
  clear hib hib0 hib1 hib2
  go_enter Try.func20, Try.ntmps20
  go_upto_region 1 with (fail)
  have HB := Lib.hid (box_below w (.cells ⟨[c0, c1, c2, c3, c4, .slice A g.length c]⟩ 27))
  have HSZ := Lib.hid (box_size w (.cells ⟨[c0, c1, c2, c3, c4, .slice A g.length c]⟩ 27))
  have HC5 := Lib.hid (cells_box w [c0, c1, c2, c3, c4, .slice A g.length c] 27 5 _ rfl)
  have HR := Lib.hid (range_box w [c0, c1, c2, c3, c4, .slice A g.length c] 27)
  generalize w.alloc (.cells ⟨[c0, c1, c2, c3, c4, .slice A g.length c]⟩ 27) = W at *
  have HCL := Lib.hid (rloops_any g c0 c1 c2 c3 c4 (.slice A g.length c) W (HG.out.next HB.out) HLEN.out HG5.out)
  have HLL : Hid ((loopsOf g).length ≤ 5000) := Lib.hid (Nat.le_trans (listN_len _ _) HG5.out)
  cases hok : okOf g with
  | false =>
    have HT := Lib.hid hok
    have HL : Hid (ordL g = []) := Lib.hid (by unfold ordL; rw [if_neg (by rw [hok]; simp)])
    have hpos : 0 < (loopsOf g).length := by
      rcases Nat.eq_zero_or_pos (loopsOf g).length with h | h
      · rw [(ok_loops g).2 (List.length_eq_zero_iff.1 h)] at hok; cases hok
      · exact h
    have hpos2 : (0 : Int) < ((loopsOf g).length : Int) := by omega
    clear hok
    go_wp2_with (first | ((with_reducible refine wl_sload 27 _ rfl ?hw2 w.heap.size 0 [c0, c1, c2, c3, c4, .slice A g.length c] _ rfl HR.out Try.underlying27 rfl ?hi2 ?_); (case hw2 => first | exact wanted_none rfl | exact wanted_if rfl rfl rfl rfl); (case hi2 => kernel_rfl)) | (go_at_call 25; refine HCL.out.mono ?_; rintro e w3 ⟨v3, rfl, hown3, hb3⟩; obtain ⟨A3, c3', rfl⟩ := own_sl hown3; have HB3 := Lib.hid hb3; clear hown3 hb3))
    go_ret2
    exact ⟨.slice none 0 0, by rw [HT.out]; rfl, by rw [HL.out]; exact OwnSl.nil _ _, HB.out.trans (HB3.out.mono HB.out.size)⟩
  | true =>
    have HT := Lib.hid hok
    have HL : Hid (ordL g = natsI (orderOf g.length (graphE g))) := Lib.hid (by unfold ordL; rw [if_pos hok])
    have HL0 : Hid ((loopsOf g).length = 0) := Lib.hid (by rw [(ok_loops g).1 hok]; rfl)
    clear hok
    go_upto_region 3 with (first | ((with_reducible refine wl_sload 27 _ rfl ?hw2 w.heap.size 0 [c0, c1, c2, c3, c4, .slice A g.length c] _ rfl HR.out Try.underlying27 rfl ?hi2 ?_); (case hw2 => first | exact wanted_none rfl | exact wanted_if rfl rfl rfl rfl); (case hi2 => kernel_rfl)) | (go_at_call 25; refine HCL.out.mono ?_; rintro e w3 ⟨v3, rfl, hown3, hb3⟩; obtain ⟨A3, c3', rfl⟩ := own_sl hown3; rw [HL0.out]; have HB3 := Lib.hid hb3; clear hown3 hb3))
    have HB4 := Lib.hid (HB.out.trans (HB3.out.mono HB.out.size))
    have d5 := (HB3.out.cell (p := ⟨w.heap.size, 5, none⟩) HSZ.out).trans HC5.out
    have HR3 := Lib.hid (rangeAt_below HR.out HB3.out HSZ.out)
    have HS3 := Lib.hid (Nat.lt_of_lt_of_le HSZ.out HB3.out.size)
    have HGN : Hid (g.length ≤ 10000) := Lib.hid (by have := HG5.out; omega)
    have hgn2 : (g.length : Int) ≤ 5000 := by omega
    clear HB HB3 HC5 HR HSZ HCL HL0
    go_upto_region 5 with ((with_reducible refine wl_make 44 4 _ _ rfl ?hw ib (.bool false) 1 g.length Try.underlying44 HIB.out HIB0.out HIB1.out HIB2.out (by decide) rfl ?hx ?hy HGN.out ?_); (case hw => first | exact wanted_none rfl | exact wanted_if rfl rfl rfl rfl); (case hx => rfl); (case hy => rfl); intro w4 hrow htag hb1 hs1; have HROW := Lib.hid hrow; have HB5 := Lib.hid hb1; have HS5 := Lib.hid hs1; clear hrow htag hb1 hs1)
    clear d5
    have HB6 := Lib.hid (HB4.out.trans (HB5.out.mono HB4.out.size))
    have HR4 := Lib.hid (rangeAt_below HR3.out HB5.out HS3.out)
    have HE := Lib.hid (nedges_any g c0 c1 c2 c3 c4 (.slice A g.length c) w4 (HG.out.next HB6.out) HLEN.out)
    go_upto_region 6 with (first | ((with_reducible refine wl_sload 27 _ rfl ?hw2 w.heap.size 0 [c0, c1, c2, c3, c4, .slice A g.length c] _ rfl HR4.out Try.underlying27 rfl ?hi2 ?_); (case hw2 => first | exact wanted_none rfl | exact wanted_if rfl rfl rfl rfl); (case hi2 => kernel_rfl)) | (go_at_call 47; refine HE.out.mono ?_; rintro e w5 ⟨v5, rfl, hown5, hb5⟩; have HO5 := Lib.hid hown5; have HB7 := Lib.hid hb5; clear hown5 hb5))
    obtain ⟨db, hdb⟩ : ∃ r, w3.heap.size = r := ⟨_, rfl⟩
    have HDB : Hid (w.heap.size ≤ db) := Lib.hid (by have := HS3.out; omega)
    have HROW5 : Hid (RowF w5 db g.length (fun _ => .bool false)) := Lib.hid (by rw [← hdb]; exact HROW.out.below HB7.out HS5.out)
    have HDS : Hid (db < w5.heap.size) := Lib.hid (by rw [← hdb]; exact Nat.lt_of_lt_of_le HS5.out HB7.out.size)
    have HBW5 := Lib.hid (HB6.out.trans (HB7.out.mono HB6.out.size))
    have HDS4 : Hid (db < w4.heap.size) := Lib.hid (by rw [← hdb]; exact HS5.out)
    rw [hdb]
    obtain ⟨hel, EA, ec, rfl, hea⟩ := HO5.out.at encE_len (Nat.le_trans (List.length_filter_le _ _) (by have := HLEN.out; omega))
    have HEB : Hid (0 < (okEs g).length → ∃ b o, EA = some ⟨b, o, none⟩ ∧ b < w5.heap.size ∧ b ≠ db ∧ ∀ (i : Nat) x, (okEs g)[i]? = some x → w5.rangeAt b (o + i * 3) (encE x)) := Lib.hid fun h0 => by
      obtain ⟨b, o, rfl, hlt, hc⟩ := hea h0
      refine ⟨b, o, rfl, hlt, fun hne => ?_, fun i x hx => ?_⟩
      · have := HO5.out.block (b := b) rfl
        have := HDS4.out
        omega
      · obtain ⟨ks, h1, h2, h3⟩ := hc i x hx
        have h3' : ks = encE x := h3
        subst h3'
        exact h2
    have HEL : Hid ((okEs g).length ≤ 10000) := Lib.hid (Nat.le_trans (List.length_filter_le _ _) HLEN.out)
    have HEM := Lib.hid (fun e (he : e ∈ okEs g) => okEs_mem he)
    have HFK := Lib.hid (freeK_end g)
    have HPK := Lib.hid (fun D => pick_some_of HT.out (D := D))
    change Hid (_) at HEB
    clear hdb hel hea HO5 HB7 HROW HS5 HB6 HB5 HB4 HS3 HR3 HR4 HE HDS4
    have hfold : (edgesOf g).filter (okE g.length) = okEs g := rfl
    rw [hfold]
    clear hfold
    generalize okEs g = Es at *
    have hle : (Es.length : Int) ≤ 10000 := by have := HEL.out; omega
    obtain ⟨B1, hB1⟩ : ∃ r, w5.heap.size = r := ⟨_, rfl⟩
    have HB1 : Hid (B1 = w5.heap.size) := Lib.hid hB1.symm
    clear hB1
    have HR5 : Hid (RowF w5 db g.length (fun x => .bool (([] : List Nat).contains x))) := Lib.hid (HROW5.out.congr fun i _ => rfl)
    go_wp2
    go_loopg [7] (g.length + 1) (fun q v u => ∃ (k : Nat) (D : List Nat), k + 1 = q ∧ orderN g.length (graphE g) k D = orderOf g.length (graphE g) ∧ Topo g.length (graphE g) D ∧ D.length + k = g.length ∧ RowF u db g.length (fun x => .bool (D.contains x)) ∧ OwnSl 3 1 encI u B1 v (natsI D) ∧ But w5 u db db)
    case atStart => exact ⟨g.length, [], rfl, rfl, Topo.nil _ _, by simp, HR5.out, OwnSl.nil _ _, But.refl _ _ _⟩
    case round =>
      obtain ⟨k, D, rfl, hord, htp, hk, hrow, hown, hbut⟩ := hrel
      clear HR5 HROW5
      have HORD := Lib.hid hord
      have HTP := Lib.hid htp
      have HROW := Lib.hid hrow
      have HOWN := Lib.hid hown
      have HBUT := Lib.hid hbut
      clear hord htp hrow hown hbut
      obtain ⟨A6, c6, hv6⟩ := own_sl HOWN.out
      rw [natsI_len] at hv6
      subst hv6
      by_cases hlen : D.length = g.length
      · obtain rfl : k = 0 := by omega
        have hge : ¬ ((D.length : Int) < (g.length : Int)) := by omega
        have HOR : Hid (orderOf g.length (graphE g) = D) := Lib.hid HORD.out.symm
        have HBF := Lib.hid (HBW5.out.trans (HBUT.out.below HBW5.out.size HDB.out HDB.out))
        clear hlen
        go_wp2
        go_ret2
        exact ⟨.slice A6 D.length c6, by rw [HT.out]; rfl, by rw [HL.out, HOR.out]; exact HOWN.out.mono (by rw [HB1.out]; exact HBW5.out.size), HBF.out⟩
      · have hlt : (D.length : Int) < (g.length : Int) := by omega
        obtain ⟨p, hp⟩ := HPK.out D HTP.out (by omega)
        obtain ⟨hpn, hpD, _, hpf⟩ := pick_some hp
        obtain ⟨k', rfl⟩ := pick_room HTP.out hp hk
        have HNX := Lib.hid (order_next hp k')
        have HTP2 := Lib.hid (HTP.out.step hp)
        have HPF := Lib.hid hpf
        have HPT : Hid (freeN (graphE g) D p = true) := Lib.hid (by unfold pickN at hp; exact List.find?_some hp)
        clear hlen hpD hp hpf
        go_upto_region 9 with (fail)
        obtain ⟨W9, hW9⟩ : ∃ r, wr = r := ⟨_, rfl⟩
        rw [hW9] at HROW HOWN HBUT ⊢
        clear hW9
        go_loopg [7, 8] (p + 1) (fun q v7 v u => ∃ i : Nat, i + q = p + 1 ∧ v = .int .i64 i ∧ i ≤ p ∧ v7 = .slice A6 D.length c6 ∧ u = W9)
        case atStart => exact ⟨0, by omega, rfl, by omega, rfl, rfl⟩
        case round =>
          obtain ⟨i, hi, rfl, hip, rfl, hwr⟩ := hrel
          subst hwr
          have hin : i < g.length := by omega
          have hin2 : (i : Int) < (g.length : Int) := by omega
          have dd := HROW.out.c i hin
          cases gk with
          | zero => omega
          | succ q1 =>
            go_upto_region 13 with (fail)
            clear dd
            go_loopg [9, 10] Es.length (fun q fv kv u => ∃ k : Nat, k + q = Es.length ∧ kv = .int .i64 k ∧ fv = .bool (freeK (Es.take k) D i) ∧ u = wr)
            case atStart => exact ⟨0, by omega, rfl, by simp [freeK], rfl⟩
            case round =>
              obtain ⟨j, hj, rfl, rfl, hwr⟩ := hrel
              subst hwr
              cases gk with
              | zero =>
                obtain rfl : j = Es.length := by omega
                have hge : ¬ ((Es.length : Int) < (Es.length : Int)) := by omega
                rw [List.take_of_length_le (Nat.le_refl _), HFK.out D i]
                by_cases hlp : i < p
                · rw [HPF.out i hlp]
                  go_wp2
                  go_roundg q1
                  case measure => omega
                  case rel => exact ⟨i + 1, by omega, by go_num, by omega, rfl, rfl⟩
                · obtain rfl : i = p := by omega
                  rw [HPT.out]
                  have dd := HROW.out.c i hin
                  have ff := HROW.out.fz i hin
                  have HR2 : Hid (RowF (wr.setCell ⟨db, i, none⟩ (.bool true)) db g.length (fun x => .bool ((D ++ [i]).contains x))) := Lib.hid ((HROW.out.set hin (.bool true)).congr fun x hx => by
                    rw [contains_snoc]
                    split <;> rfl)
                  have HO2 := Lib.hid (own_set (i := i) HOWN.out (by rw [HB1.out]; exact HDS.out) (.bool true))
                  have HB2 : Hid (But w5 (wr.setCell ⟨db, i, none⟩ (.bool true)) db db) := Lib.hid (HBUT.out.trans (But.set1 _ _ _ _ _))
                  have HS2 : Hid (B1 ≤ (wr.setCell ⟨db, i, none⟩ (.bool true)).heap.size) := Lib.hid (by have := HBUT.out.size; rw [HB1.out]; simpa [World.setCell] using this)
                  go_upto_region 19 with (fail)
                  clear dd ff
                  generalize wr.setCell ⟨db, i, none⟩ (.bool true) = W2 at *
                  have HTL : Hid ((natsI D).length + 1 ≤ 10000) := Lib.hid (by rw [natsI_len]; omega)
                  have HWZ : Hid (OwnSl 3 1 encI (W2.alloc (.cells ⟨encI (i : Int)⟩ 3)) B1 _ (natsI D)) := Lib.hid (OwnSl.below HO2.out (box_below W2 (.cells ⟨encI (i : Int)⟩ 3)))
                  have HCE := Lib.hid (cells_box W2 (encI (i : Int)) 3)
                  have HK1 : Hid ((natsI D).length + 1 ≤ maxLen) := Lib.hid (room_max HTL.out)
                  have HK2 : Hid (((natsI D).length + 1) * 8 ≤ 140737488355328) := Lib.hid (by have := HTL.out; omega)
                  have HBB : Hid (But w5 (W2.alloc (.cells ⟨encI (i : Int)⟩ 3)) db db) := Lib.hid (HB2.out.trans (But.of_below (box_below W2 _) _ _))
                  have HSB : Hid (B1 ≤ (W2.alloc (.cells ⟨encI (i : Int)⟩ 3)).heap.size) := Lib.hid (Nat.le_trans HS2.out (Nat.le_of_lt (box_size _ _)))
                  have HRB := Lib.hid (HR2.out.below (box_below W2 (.cells ⟨encI (i : Int)⟩ 3)) (Nat.lt_of_lt_of_le HDS.out HB2.out.size))
                  go_wp2_with (at_builtin; refine wl_push rfl _ _ 34 rfl B1 3 i0 (.int .i64 0) 1 8 encI Try.underlying34 HI0.out HZ0.out HZ1.out HZ2.out rfl (by decide) encI_len encI_one _ _ rfl HWZ.out W2.heap.size 1 (i : Int) rfl HCE.out HK1.out HK2.out HSB.out ?_)
                  intro v' w' hown hg
                  rw [← natsI_snoc] at hown
                  have HO3 := Lib.hid hown
                  have HB3 : Hid (But w5 w' db db) := Lib.hid (HBB.out.own hg (fun b hb => by have := HWZ.out.block hb; have := HB1.out; omega))
                  have HR3 := Lib.hid (HRB.out.keep (hg.block db (Nat.lt_of_lt_of_le HDS.out HBB.out.size) (fun h => by have := HWZ.out.block h.symm; have := HB1.out; have := HDS.out; omega)))
                  clear hown hg
                  go_wp2
                  go_roundg (k' + 1)
                  case measure => omega
                  case rel => exact ⟨k', D ++ [i], rfl, by rw [← HORD.out, HNX.out], HTP2.out, by rw [List.length_append, List.length_singleton]; omega, HR3.out, HO3.out, HB3.out⟩
              | succ q2 =>
                have hlt3 : (j : Int) < (Es.length : Int) := by omega
                obtain ⟨e, he⟩ : ∃ e, Es[j]? = some e := ⟨_, List.getElem?_eq_getElem (by omega)⟩
                obtain ⟨b, o, rfl, hbl, hbd, hc⟩ := HEB.out (by omega)
                have hre : wr.rangeAt b (o + j * 3) (encE e) := fun x v hv => (HBUT.out.cell (o := o + j * 3 + x) hbl hbd hbd).trans (hc j e he x v hv)
                have d0 : wr.cell? ⟨b, o + j * 3, none⟩ = some (.int .i64 e.1) := range_cell hre 0 rfl
                have d2 := range_cell hre 2 (v := .int .i64 e.2.2) rfl
                have hef := (HEM.out e (List.mem_of_getElem? he)).1
                have hef2 : (e.1 : Int) < (g.length : Int) := by omega
                have dd := HROW.out.c e.1 hef
                have HSU := Lib.hid (freeK_succ he D i)
                clear hre hc he
                by_cases hto : e.2.2 = i
                · rw [hto] at d2
                  cases hcf : D.contains e.1 with
                  | true =>
                    rw [hcf] at dd
                    have HSU2 : Hid (freeK (Es.take (j + 1)) D i = freeK (Es.take j) D i) := Lib.hid (by rw [HSU.out, hcf]; simp)
                    clear hcf hto
                    go_wp2
                    go_roundg q2
                    case measure => omega
                    case rel => exact ⟨j + 1, by omega, by go_num, by rw [HSU2.out], rfl⟩
                  | false =>
                    rw [hcf] at dd
                    have HSU2 : Hid (freeK (Es.take (j + 1)) D i = false) := Lib.hid (by rw [HSU.out, hcf, hto]; simp)
                    clear hcf hto
                    go_wp2
                    go_roundg q2
                    case measure => omega
                    case rel => exact ⟨j + 1, by omega, by go_num, by rw [HSU2.out], rfl⟩
                · have t1 : (e.2.2 == (i : Int)) = false := by simpa using hto
                  have HSU2 : Hid (freeK (Es.take (j + 1)) D i = freeK (Es.take j) D i) := Lib.hid (by rw [HSU.out, t1]; simp)
                  clear hto
                  go_wp2
                  go_roundg q2
                  case measure => omega
                  case rel => exact ⟨j + 1, by omega, by go_num, by rw [HSU2.out], rfl⟩
end Go.Proofs.Ytedajbpjokmlaaa
