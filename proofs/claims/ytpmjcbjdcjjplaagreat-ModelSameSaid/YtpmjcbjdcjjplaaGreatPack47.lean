/- Parts of a proof: MReach. -/
import Derived.Maps.OwnOps
import Derived.Test.YtpmjcbjdcjjplaaGreatPack45
import Derived.Test.YtpmjcbjdcjjplaaGreatPack46
namespace Go.Proofs.YtpmjcbjdcjjplaaGreat
open Go Go.RowKit
set_option linter.unusedVariables false
section
open Go.Maps
variable {P : Program} {ops : Array Oper} {rest : List Oper} {o : Oper} {a : Act} {w : World} {Q : Exit → Act → World → Prop} {H : Type}
theorem wl_lookup (m x : Operand) (t : TypeId) (ho : o.op = .lookup t m x false) (hw : Region.wanted o (yielded ops a.tmps) = true) (k e : TypeId) (K : Keyed P k) (ht : P.underlying t = some (.map k e)) (he : P.underlying e = some (.int .i64))
    (hz : (zeroValue e).run P w = .ok (.int .i64 0) w) (b n : Nat) (D : DataW H) (hm : a.eval m = .map (some b)) (hown : w.ownsMap P k (plainElem P e) b n D) (key : Value) (kl : Lit) (hx : a.eval x = key) (hkey : keyOf P k key = some kl)
    (c : Int) (hc : D.atKey kl (.lit (.int .i64 0)) = .lit (.int .i64 c)) (h : wpList P ops Q rest (a.put o.dst (.int .i64 c)) w) : wpList P ops Q (o :: rest) a w :=
  wpList_step fun K' hK => by
    rw [if_pos hw]
    obtain ⟨c', hrun, hat, _⟩ := hown.lookup_int K ht he hz hkey
    have : c' = c := by
      rw [hc] at hat
      simpa using hat.symm
    subst this
    unfold Oper.wp
    simp [execOp, ho, hm, hx, hrun, Result.andThen]
    exact hK _ _ h
theorem OwnSl.notMap {α : Type} {T k' : TypeId} {k base mb n : Nat} {enc : α → List Value} {w : World} {v : Value} {l : List α} {R : Value → Option (DataW H × List MemPlace)} {D : DataW H} (h : OwnSl T k enc w base v l) (hm : w.ownsMap P k' R mb n D) : some mb ≠ v.ownBlock := by
  intro hb
  obtain ⟨es, clock, hc, _⟩ := hm
  rcases h.2 with ⟨rfl, _⟩ | ⟨g, cap, cur, rfl, _, hg, _⟩
  · cases hb
  · have : mb = g := by simpa [Value.ownBlock] using hb
    subst this
    rw [hc] at hg
    injection hg with hg
    cases hg
theorem OwnSl.pop {w : World} {base : Nat} {A : Option Addr} {n c : Nat} {T : TypeId} {l : List Int} {f : Int} (h : OwnSl T 1 encI w base (.slice A n c) (l ++ [f])) : OwnSl T 1 encI w base (.slice A l.length c) l ∧ n = l.length + 1 ∧ ∃ b, A = some ⟨b, 0, none⟩ ∧ w.cell? ⟨b, l.length, none⟩ = some (.int .i64 f) ∧ l.length + 1 ≤ c ∧ c ≤ maxLen := by
  have h0 := h
  unfold OwnSl at h
  rw [flat_snoc, List.length_append] at h
  rcases h.2 with ⟨h1, h2⟩ | ⟨g, cap, cur, hv, h3, h4, h5, h6, h7⟩
  · simp at h2
  · injection hv with e1 e2 e3
    subst e1 e2 e3
    refine ⟨ownsRow_pop (flat_len encI_len _) h, by simp, g, rfl, ?_, by simpa using h5, h6⟩
    have := World.ownsRow.cells h (g := g) (by rfl) l.length (.int .i64 f) (by
      rw [List.getElem?_append_right (by rw [flat_len encI_len]; omega), flat_len encI_len]
      simp [encI])
    rw [Addr.add_mid, Nat.zero_add] at this
    exact this
end
theorem law3 : Go.Maps.Keyed Tryz.prog 3 := Go.Maps.int_keyed Tryz.underlying3
theorem zero3 (w : World) : (zeroValue 3).run Tryz.prog w = .ok (.int .i64 0) w := by kernel_rfl
theorem own_one (w : World) (a : Int) : OwnSl 3 1 encI ((w.alloc (.map #[] 0)).alloc (.cells #[.int .i64 a] 3)) w.heap.size (.slice (some ⟨w.heap.size + 1, 0, none⟩) 1 1) [a] := by
  refine ⟨rfl, .inr ⟨w.heap.size + 1, 1, #[.int .i64 a], rfl, by omega, ?_, by simp, by decide, rfl, rfl⟩⟩
  have h := heap_alloc_new (w.alloc (.map #[] 0)) (.cells #[.int .i64 a] 3)
  rwa [show (w.alloc (.map #[] 0)).heap.size = w.heap.size + 1 by simp] at h
theorem own_sl {α : Type} {T : TypeId} {k base : Nat} {enc : α → List Value} {w : World} {v : Value} {l : List α} (h : OwnSl T k enc w base v l) : ∃ A c, v = .slice A l.length c := by
  rcases h.2 with ⟨rfl, h0⟩ | ⟨g, cap, cur, rfl, _⟩
  · exact ⟨_, _, by rw [h0]⟩
  · exact ⟨_, _, rfl⟩
theorem nil_or_snoc {α : Type} (l : List α) : l = [] ∨ ∃ t x, l = t ++ [x] := by
  rcases List.eq_nil_or_concat l with h | ⟨t, x, h⟩
  · exact .inl h
  · exact .inr ⟨t, x, by simpa using h⟩
theorem keys_len {H : Type} (D : DataW H) : (intKeys D).length = Go.Maps.size D := by
  cases D <;> simp [intKeys, Go.Maps.size]
theorem World.ownsRow.mono_base {w : World} {base b : Nat} {e : TypeId} {k n : Nat} {v : Value} {xs : List Value} (h : w.ownsRow base e k v n xs) (hb : b ≤ base) : w.ownsRow b e k v n xs := by
  refine ⟨h.1, ?_⟩
  rcases h.2 with h1 | ⟨g, cap, cur, h1, h2, h3⟩
  · exact .inl h1
  · exact .inr ⟨g, cap, cur, h1, by omega, h3⟩
theorem key3 {n : Nat} (h : n ≤ 10000) : keyOf Tryz.prog 3 (.int .i64 n) = some (.int .i64 n) := Go.Maps.keyOf_int_mk Tryz.underlying3 (by
  have := wrap64_wf n
  rwa [Go.IntWalk.wrap64_in _ (by omega)] at this)
set_option maxHeartbeats 4000000 in
set_option maxRecDepth 100000 in
theorem reach_any (g : List GN) (a : Int) (c0 c1 c2 c3 c4 v5 : Value) (w : World) (hg : GraphAt w w.heap.size v5 g) (hlen : (edgesOf g).length ≤ 10000) (hgn : g.length ≤ 10000) :
    Calls Tryz.prog 13 #[.agg ⟨[c0, c1, c2, c3, c4, v5]⟩, .int .i64 a] w (IntsPost w (reachL g a)) := by
  have HG := Lib.hid hg
  obtain ⟨hgl, A, c, rfl, hA⟩ := hg
  have HLEN := Lib.hid hlen
  have HGN := Lib.hid hgn
  clear hA hlen
  have hmm := @run_makeMap Tryz.prog
  go_enter Tryz.func13, Tryz.ntmps13
  go_upto_region 1 with (fail)
  have HB := Lib.hid (box_below w (.cells ⟨[c0, c1, c2, c3, c4, .slice A g.length c]⟩ 27))
  have HSZ := Lib.hid (box_size w (.cells ⟨[c0, c1, c2, c3, c4, .slice A g.length c]⟩ 27))
  have HC5 := Lib.hid (cells_box w [c0, c1, c2, c3, c4, .slice A g.length c] 27 5 _ rfl)
  have HR := Lib.hid (range_box w [c0, c1, c2, c3, c4, .slice A g.length c] 27)
  generalize w.alloc (.cells ⟨[c0, c1, c2, c3, c4, .slice A g.length c]⟩ 27) = W at *
  have HE := Lib.hid (edges_any g c0 c1 c2 c3 c4 (.slice A g.length c) W (HG.out.next HB.out) HLEN.out)
  go_wp2_with (first | ((with_reducible refine wl_sload 27 _ rfl ?hw2 w.heap.size 0 [c0, c1, c2, c3, c4, .slice A g.length c] _ rfl HR.out Tryz.underlying27 rfl ?hi2 ?_); (case hw2 => exact wantA rfl); (case hi2 => kernel_rfl)) | (go_at_call 9; fail))
  refine HE.out.mono ?_
  rintro e w2 ⟨v, rfl, hown, hb⟩
  have HB2 := Lib.hid (HB.out.trans (hb.mono HB.out.size))
  have HZ2 := Lib.hid hb.size
  have HC5' := Lib.hid ((hb.cell (p := ⟨w.heap.size, 5, none⟩) HSZ.out).trans HC5.out)
  have HN2 : Hid (w.heap.size < w2.heap.size) := Lib.hid (Nat.lt_of_lt_of_le HSZ.out hb.size)
  obtain ⟨hel, EA, ec, rfl, hea⟩ := hown.at encE_len (by have := HLEN.out; omega)
  have HEB := Lib.hid hea
  have HEL : Hid (∀ e, e ∈ edgesOf g → e.1 < g.length) := Lib.hid fun e he => edges_from he
  have HGE : Hid (graphE g = inE g.length (edgesOf g)) := Lib.hid rfl
  clear hb hown hel hea HE HR HC5
  have HM0 : Hid (((w2.alloc (.map #[] 0)).alloc (.cells #[.int .i64 a] 3)).ownsMap Tryz.prog 3 (Go.plainElem Tryz.prog 3) w2.heap.size 0 (metD [])) := Lib.hid ((World.ownsMap_made w2 _ _ _).alloc _)
  have HO0 : Hid (OwnSl 3 1 encI ((w2.alloc (.map #[] 0)).alloc (.cells #[.int .i64 a] 3)) w2.heap.size (.slice (some ⟨w2.heap.size + 1, 0, none⟩) 1 1) [a]) := Lib.hid (own_one w2 a)
  have HB0 : Hid (Below w2.heap.size w2 ((w2.alloc (.map #[] 0)).alloc (.cells #[.int .i64 a] 3))) := Lib.hid (((Below.refl _ _).alloc (Nat.le_refl _) _).alloc (by simp) _)
  have HRL := Lib.hid (fun (met : List Nat) (h : Dfs (graphE g) a g.length met []) => h.all)
  have HRP := Lib.hid (reachL_pairwise g a)
  have HRN := Lib.hid (reachL_len g a)
  generalize reachL g a = RL at *
  have HGL := Lib.hid (fun e he => (graphE_lt (g := g) e he).2)
  clear HG
  generalize graphE g = GE at *
  generalize edgesOf g = E at *
  clear hgl
  generalize g.length = n at *
  have hle : (n : Int) ≤ 10000 := by omega
  have hle2 : (E.length : Int) ≤ 10000 := by have := HLEN.out; omega
  go_wp2
  go_loopg [7] (n + 1) (fun q v u => ∃ met todo, Dfs GE a n met todo ∧ todo.length + (n - met.length) ≤ q ∧ OwnSl 3 1 encI u w2.heap.size v todo ∧ u.ownsMap Tryz.prog 3 (Go.plainElem Tryz.prog 3) w2.heap.size met.length (metD met) ∧ Below w2.heap.size w2 u)
  case atStart => exact ⟨[], [a], Dfs.start _ _ _, by simp; omega, HO0.out, HM0.out, HB0.out⟩
  case round =>
    obtain ⟨met, todo, hd, hq, hown, hmap, hb⟩ := hrel
    clear HM0 HO0 HB0
    have HD := Lib.hid hd
    have HMAP := Lib.hid hmap
    have HBL := Lib.hid hb
    have hml := hd.len
    have htl := hd.tl
    clear hd hmap hb
    rcases nil_or_snoc todo with rfl | ⟨td, f, rfl⟩
    · obtain ⟨A2, c2, rfl⟩ := own_sl hown
      clear hown
      have HPK : Hid (RL.Perm (intKeys (metD met))) := Lib.hid (CollectedI.perm (left := fun _ => false) ⟨HRP.out.imp fun h => by omega, fun x => by rw [HRL.out met HD.out x, metD_has]; simp⟩ HMAP.out law3 Tryz.underlying3 (fun _ => rfl))
      have HSL : Hid (Go.Maps.size (metD met) ≤ 10000) := Lib.hid (by rw [← keys_len, ← HPK.out.length_eq]; exact Nat.le_trans HRN.out hgn)
      have HS1 : Hid (Go.Maps.size (metD met) ≤ maxLen) := Lib.hid (room_max HSL.out)
      have HS2 : Hid (Go.Maps.size (metD met) * 8 ≤ 140737488355328) := Lib.hid (by have := HSL.out; omega)
      go_wp2_with (go_at_call 40; fail)
      refine (Tryz.maps_Keys (some w2.heap.size) wr).mono ?_
      rintro e w3 ⟨rfl, rfl⟩
      go_wp2_with (go_at_call 39; fail)
      refine (Tryz.slices_Sorted w2.heap.size met.length (metD met) _ wr HMAP.out HS1.out HS2.out).mono ?_
      rintro e w4 ⟨v, ss, rfl, hp, hown, _, hb⟩
      have HW := Lib.hid (sorted_of_perm (hp.trans HPK.out.symm) HRP.out)
      have HSS : Hid (ss.length = RL.length) := Lib.hid (by rw [← HW.out, List.length_mergeSort])
      have HO3 : Hid (OwnSl 3 1 encI w4 w2.heap.size v RL) := Lib.hid (by
        have h1 := World.ownsRow.mono_base hown (b := w2.heap.size) (Nat.le_trans HBL.out.size (Nat.le_of_lt (box_size _ _)))
        rw [HW.out, HSS.out] at h1
        unfold OwnSl
        rw [flat_ints]
        exact h1)
      have HB3 : Hid (Below w.heap.size w w4) := Lib.hid (HB2.out.trans ((HBL.out.trans ((box_below wr _).trans (hb.mono (Nat.le_of_lt (box_size wr _))) |>.mono HBL.out.size)).mono (by have := HN2.out; omega)))
      clear hp hown hb
      go_wp2
      go_ret
      exact ⟨_, rfl, HO3.out.mono (by have := HN2.out; omega), HB3.out⟩
    · cases gk with
      | zero => simp at hq
      | succ q =>
        obtain ⟨A2, n2, cq, rfl⟩ := own_slice hown
        obtain ⟨hpop, rfl, tb, rfl, hcell, hcq, hmx⟩ := hown.pop
        have HO := Lib.hid hpop
        have HP := Lib.hid HD.out.pop
        rw [List.length_append, List.length_singleton] at hq htl
        have ht1 : ((td.length + 1 : Nat) : Int) ≤ 10002 := by omega
        clear HD hown hpop
        go_upto_region 7 with (fail)
        clear hcell hcq hmx ht1
        go_wp2
        go_loopg [7, 32] E.length (fun q2 v i u => ∃ j met todo, j + q2 = E.length ∧ i = .int .i64 j ∧ Dfs1 GE a n f (inE n (E.take j)) met todo ∧ todo.length + (n - met.length) ≤ q ∧ OwnSl 3 1 encI u w2.heap.size v todo ∧ u.ownsMap Tryz.prog 3 (Go.plainElem Tryz.prog 3) w2.heap.size met.length (metD met) ∧ Below w2.heap.size w2 u)
        case atStart => exact ⟨0, met, td, by omega, rfl, HP.out, by omega, HO.out, HMAP.out, HBL.out⟩
        case round =>
          clear HO HP HMAP HBL hml htl hq
          obtain ⟨j, met, td, hj, rfl, hd, hq, hown, hmap, hb⟩ := hrel
          have HP := Lib.hid hd
          have HO := Lib.hid hown
          have HMAP := Lib.hid hmap
          have HBL := Lib.hid hb
          have HQ := Lib.hid hq
          clear hd hown hmap hb hq
          cases gk with
          | zero =>
            have hge : ¬ ((j : Int) < (E.length : Int)) := by omega
            have HTK := Lib.hid (List.take_of_length_le (l := E) (i := j) (by omega))
            rw [HTK.out, ← HGE.out] at HP
            go_wp2
            go_roundg q
            case measure => omega
            case rel => exact ⟨met, td, HP.out.done, HQ.out, HO.out, HMAP.out, HBL.out⟩
          | succ q2 =>
            have hlt : (j : Int) < (E.length : Int) := by omega
            obtain ⟨e, he⟩ : ∃ e, E[j]? = some e := ⟨_, List.getElem?_eq_getElem (by omega)⟩
            obtain ⟨b, o, rfl, hbl, hc⟩ := HEB.out (by omega)
            have HRE : Hid (wr.rangeAt b (o + j * 3) [.int .i64 e.1, .int .i64 e.2.1, .int .i64 e.2.2]) := Lib.hid (by
              obtain ⟨ks, h1, h2, h3⟩ := hc j e he
              have h3' : ks = encE e := h3
              subst h3'
              exact rangeAt_below h2 HBL.out hbl)
            have HE1 := Lib.hid (HEL.out e (List.mem_of_getElem? he))
            have HEM := Lib.hid (List.mem_of_getElem? he)
            have HSN : Hid (inE n (E.take (j + 1)) = if okE n e = true then inE n (E.take j) ++ [(e.1, e.2.2.toNat)] else inE n (E.take j)) := Lib.hid (by rw [take_at he, inE_snoc])
            clear hc he
            go_upto_region 10 with (first | ((with_reducible refine wl_sload 51 _ rfl ?hw b (o + j * 3) [.int .i64 e.1, .int .i64 e.2.1, .int .i64 e.2.2] _ rfl HRE.out Tryz.underlying51 rfl ?hi ?_); (case hw => exact wantA rfl); (case hi => kernel_rfl)) | ((with_reducible refine wl_sbox 51 _ _ rfl ?hw wr ?z (encE e) ?hwld ?hz ?hx ?hy ?hi ?h1 ?_); (case hwld => rfl); (case hx => rfl); (case hy => rfl); (case hw => exact wantA rfl); (case hz => rfl); (case hi => kernel_rfl); (case h1 => exact encE_one e); intro Z hbx; have HX := Lib.hid hbx; clear hbx))
            have HOZ := Lib.hid (HO.out.below HX.out.below)
            have HMZ := Lib.hid (HMAP.out.kept (below_is_grown HX.out.below none) (by simp))
            have HBZ := Lib.hid (HBL.out.trans (HX.out.below.mono HBL.out.size))
            obtain ⟨eb, heb⟩ : ∃ eb, wr.heap.size = eb := ⟨_, rfl⟩
            have HML : Hid (w2.heap.size < eb) := Lib.hid (heb ▸ HMAP.out.lt)
            have d0 : Z.cell? ⟨eb, 0, none⟩ = some (.int .i64 e.1) := heb ▸ HX.out.cell 0 rfl
            have d2 : Z.cell? ⟨eb, 2, none⟩ = some (.int .i64 e.2.2) := heb ▸ HX.out.cell 2 rfl
            have HXS : Hid (eb < Z.heap.size) := Lib.hid (heb ▸ HX.out.size)
            have d5 := (HBZ.out.cell (p := ⟨w.heap.size, 5, none⟩) HN2.out).trans HC5'.out
            clear HX HRE HO HMAP HBL
            rw [heb]
            clear heb
            by_cases hf : (e.1 : Int) = f
            · by_cases hok : okE n e = true
              · have HOK := Lib.hid hok
                rw [okE_iff] at hok
                obtain ⟨t, ht⟩ : ∃ t : Nat, e.2.2 = t := ⟨e.2.2.toNat, by omega⟩
                have htn : t < n := by omega
                have ht2 : (t : Int) < (n : Int) := by omega
                have HTN : Hid (e.2.2.toNat = t) := Lib.hid (by omega)
                have HST : Hid (inE n (E.take (j + 1)) = inE n (E.take j) ++ [(e.1, t)]) := Lib.hid (by rw [HSN.out, if_pos HOK.out, HTN.out])
                have HIN : Hid ((e.1, t) ∈ GE) := Lib.hid (by rw [HGE.out, ← HTN.out]; exact List.mem_map.2 ⟨e, List.mem_filter.2 ⟨HEM.out, HOK.out⟩, rfl⟩)
                have HKEY := Lib.hid (key3 (n := t) (by omega))
                rw [ht] at d2
                clear hok ht HTN HSN HEM HOK
                subst hf
                by_cases hm : t ∈ met
                · have HAT := Lib.hid (metD_in hm)
                  have HSK : Hid (Dfs1 GE a n e.1 (inE n (E.take (j + 1))) met td) := Lib.hid (by rw [HST.out]; exact HP.out.skip _ (.inr hm))
                  clear hm
                  go_wp2_with (first | ((with_reducible refine wl_lookup _ _ 84 rfl ?hw 3 3 law3 Tryz.underlying84 Tryz.underlying3 (zero3 _) w2.heap.size met.length (metD met) rfl HMZ.out (.int .i64 t) (.int .i64 t) rfl HKEY.out 1 HAT.out ?_); (case hw => exact wantA rfl)))
                  go_roundg q2
                  case measure => omega
                  case rel => exact ⟨j + 1, met, td, by omega, by go_num, HSK.out, HQ.out, HOZ.out, HMZ.out, HBZ.out⟩
                · have HAT := Lib.hid (metD_out hm)
                  have HSK : Hid (Dfs1 GE a n e.1 (inE n (E.take (j + 1))) (met ++ [t]) (td ++ [(t : Int)])) := Lib.hid (by rw [HST.out]; exact HP.out.push _ HIN.out htn rfl hm)
                  have HLM := Lib.hid HSK.out.len
                  have HTL := Lib.hid HSK.out.tl
                  rw [List.length_append, List.length_singleton] at HLM HTL
                  rw [List.length_append, List.length_singleton] at HTL
                  have HNM : Hid (met.length < maxLen) := Lib.hid (by have := HLM.out; unfold maxLen; omega)
                  clear hm
                  go_upto_region 12 with (first | ((with_reducible refine wl_lookup _ _ 84 rfl ?hw 3 3 law3 Tryz.underlying84 Tryz.underlying3 (zero3 _) w2.heap.size met.length (metD met) rfl HMZ.out (.int .i64 t) (.int .i64 t) rfl HKEY.out 0 HAT.out ?_); (case hw => exact wantA rfl)) | (at_mapUpdate; refine wpList_mapUpdate_own _ rfl _ _ _ 84 rfl 3 3 law3 Tryz.underlying84 _ w2.heap.size met.length _ rfl HMZ.out HNM.out _ _ _ rfl rfl HKEY.out _ [] (plainElem_int Tryz.underlying3 (by decide)) ?_; intro w1 hown1 hgrow1; have HM1 := Lib.hid hown1; have HG1 := Lib.hid hgrow1; clear hown1 hgrow1))
                  have d6 := (World.cell?_of_block (a := ⟨eb, 2, none⟩) (HG1.out.block eb HXS.out (by intro h; injection h with h; have := HML.out; omega))).trans d2
                  have HO1 := Lib.hid (World.ownsRow.kept HOZ.out HG1.out (.inr fun h => OwnSl.notMap HOZ.out HMZ.out h.symm))
                  have HB1 := Lib.hid (HBZ.out.grown HG1.out HBZ.out.size (fun j hj => by cases hj; exact Nat.le_refl _))
                  have HM2 : Hid (w1.ownsMap Tryz.prog 3 (Go.plainElem Tryz.prog 3) w2.heap.size (met ++ [t]).length (metD (met ++ [t]))) := Lib.hid (by rw [metD_snoc, List.length_append]; exact HM1.out)
                  clear d0 d2 d5 HOZ HMZ HBZ HG1 HM1
                  obtain ⟨i0, hi, hz0, hz1, hz2⟩ := info_parts' info_intR
                  have HI0 := Lib.hid hi
                  have HZ0 := Lib.hid hz0
                  have HZ1 := Lib.hid hz1
                  have HZ3 := Lib.hid hz2
                  clear hi hz0 hz1 hz2
                  have HWZ : Hid (OwnSl 3 1 encI (w1.alloc (.cells ⟨encI (t : Int)⟩ 3)) w2.heap.size _ td) := Lib.hid (OwnSl.below HO1.out (box_below w1 (.cells ⟨encI (t : Int)⟩ 3)))
                  have HMZ := Lib.hid (HM2.out.alloc (.cells ⟨encI (t : Int)⟩ 3))
                  have HCE := Lib.hid (cells_box w1 (encI (t : Int)) 3)
                  have HK1 : Hid (td.length + 1 ≤ maxLen) := Lib.hid (room_max (by have := HTL.out; have := HLM.out; omega))
                  have HK2 : Hid ((td.length + 1) * 8 ≤ 140737488355328) := Lib.hid (by have := HTL.out; have := HLM.out; omega)
                  have HBB := Lib.hid (HB1.out.alloc HB1.out.size (.cells ⟨encI (t : Int)⟩ 3))
                  go_wp2_with (at_builtin; refine wl_push rfl _ _ 32 rfl _ 3 i0 (.int .i64 0) 1 8 encI Tryz.underlying32 HI0.out HZ0.out HZ1.out HZ3.out rfl (by decide) encI_len encI_one _ _ rfl HWZ.out w1.heap.size 1 (t : Int) rfl HCE.out HK1.out HK2.out HBB.out.size ?_)
                  intro v' w' hown hg
                  have HO5 := Lib.hid hown
                  have HB5 := Lib.hid (push_below HBB.out HBB.out.size HWZ.out (Nat.le_refl _) hg)
                  have HM5 := Lib.hid (HMZ.out.kept hg (OwnSl.notMap HWZ.out HMZ.out))
                  clear hown hg
                  go_wp2
                  go_roundg q2
                  case measure => omega
                  case rel => exact ⟨j + 1, met ++ [t], td ++ [(t : Int)], by omega, by go_num, HSK.out, by have := HLM.out; have := HQ.out; simp; omega, HO5.out, HM5.out, HB5.out⟩
              · have HSAME : Hid (inE n (E.take (j + 1)) = inE n (E.take j)) := Lib.hid (by rw [HSN.out, if_neg hok])
                rw [← HSAME.out] at HP
                have hno : e.2.2 < 0 ∨ (n : Int) ≤ e.2.2 := by rw [okE_iff] at hok; omega
                subst hf
                clear hok
                by_cases hneg : e.2.2 < 0
                · have t3 : decide ((0 : Int) ≤ e.2.2) = false := by simp; omega
                  clear hno hneg
                  go_wp2
                  go_roundg q2
                  case measure => omega
                  case rel => exact ⟨j + 1, met, td, by omega, by go_num, HP.out, HQ.out, HOZ.out, HMZ.out, HBZ.out⟩
                · have t3 : decide ((0 : Int) ≤ e.2.2) = true := by simp; omega
                  have t4 : decide (e.2.2 < (n : Int)) = false := by simp; omega
                  clear hno hneg
                  go_wp2
                  go_roundg q2
                  case measure => omega
                  case rel => exact ⟨j + 1, met, td, by omega, by go_num, HP.out, HQ.out, HOZ.out, HMZ.out, HBZ.out⟩
            · have t1 : ((e.1 : Int) == f) = false := by simpa using hf
              have HSK : Hid (Dfs1 GE a n f (inE n (E.take (j + 1))) met td) := Lib.hid (by
                rw [HSN.out]
                split
                · exact HP.out.skip _ (.inl hf)
                · exact HP.out)
              clear hf
              go_wp2
              go_roundg q2
              case measure => omega
              case rel => exact ⟨j + 1, met, td, by omega, by go_num, HSK.out, HQ.out, HOZ.out, HMZ.out, HBZ.out⟩
end Go.Proofs.YtpmjcbjdcjjplaaGreat
