/- What is reached: the document's. -/
import Derived.Test.YtlfefikhmdbbfaaGreatEdges3
import Derived.Test.YtlfefikhmdbbfaaGreatRow
namespace Go.Proofs.YtlfefikhmdbbfaaGreat
open Go.RowKit
set_option linter.unusedVariables false

theorem info_int : (Tryz.prog.info? 3).map (fun i => (i.zero, i.size, i.bytes)) = some (some (.int .i64 0), 1, 8) := by kernel_rfl
theorem info_bool : (Tryz.prog.info? 4).map (fun i => (i.zero, i.size, i.bytes)) = some (some (.bool false), 1, 1) := by kernel_rfl
def listN (S : Nat → Bool) (n : Nat) : List Int := ((List.range n).filter S).map fun i : Nat => (i : Int)
theorem listN_succ (S : Nat → Bool) (n : Nat) : listN S (n + 1) = listN S n ++ if S n = true then [(n : Int)] else [] := by
  unfold listN
  rw [List.range_succ, List.filter_append, List.map_append]
  by_cases h : S n = true <;> simp [h]
theorem listN_len (S : Nat → Bool) (n : Nat) : (listN S n).length ≤ n := by
  unfold listN; rw [List.length_map]; exact Nat.le_trans (List.length_filter_le ..) (by simp)
theorem encI_len (i : Int) : (encI i).length = 1 := rfl
theorem encI_one (i : Int) : ∀ u ∈ encI i, u.oneCell' = true := by
  intro u hu
  simp only [encI, List.mem_cons, List.not_mem_nil, or_false] at hu
  subst hu; rfl
/-- a list of numbers in new memory -/
def IntsPost (w : World) (l : List Int) (e : Ending) (w' : World) : Prop := ∃ v, e = .returned v ∧ OwnSl 3 1 encI w' w.heap.size v l ∧ Below w.heap.size w w'
def isN (n : Nat) (a : Int) : Bool := decide (0 ≤ a) && decide (a < n)
def reachL (g : List GN) (a : Int) : List Int := if isN g.length a = true then listN (reach g.length (graphE g) a.toNat) g.length else []

set_option maxHeartbeats 4000000 in
set_option maxRecDepth 100000 in
theorem rreach_in (g : List GN) (a : Nat) (c0 c1 c2 c3 c4 v5 : Value) (w : World) (hg : GraphAt w w.heap.size v5 g) (hlen : (edgesOf g).length ≤ 10000) (hgn : g.length ≤ 10000) (ha : a < g.length) :
    Calls Tryz.prog 21 #[.agg ⟨[c0, c1, c2, c3, c4, v5]⟩, .int .i64 a] w (IntsPost w (listN (reach g.length (graphE g) a) g.length)) := by
  have HG := Lib.hid hg
  obtain ⟨hgl, A, c, rfl, hA⟩ := hg
  have HLEN := Lib.hid hlen
  clear hA hlen
  go_enter Tryz.func21, Tryz.ntmps21
  go_upto_region 1 with (fail)
  have HB := Lib.hid (box_below w (.cells ⟨[c0, c1, c2, c3, c4, .slice A g.length c]⟩ 27))
  have HSZ := Lib.hid (box_size w (.cells ⟨[c0, c1, c2, c3, c4, .slice A g.length c]⟩ 27))
  have HC5 := Lib.hid (cells_box w [c0, c1, c2, c3, c4, .slice A g.length c] 27 5 _ rfl)
  have HR := Lib.hid (range_box w [c0, c1, c2, c3, c4, .slice A g.length c] 27)
  generalize w.alloc (.cells ⟨[c0, c1, c2, c3, c4, .slice A g.length c]⟩ 27) = W at *
  have HBT : ∃ i, Tryz.prog.info? 4 = some i ∧ i.zero = some (.bool false) ∧ i.size = 1 ∧ i.bytes = 1 := info_parts' info_bool
  obtain ⟨ib, hib, hib0, hib1, hib2⟩ := HBT
  have HIB := Lib.hid hib
  have HIB0 := Lib.hid hib0
  have HIB1 := Lib.hid hib1
  have HIB2 := Lib.hid hib2
  clear hib hib0 hib1 hib2
  have d5 := HC5.out
  have hlt : (a : Int) < (g.length : Int) := by omega
  have hle : (g.length : Int) ≤ 10000 := by omega
  have t1 : decide ((a : Int) < 0) = false := by simp
  have t2 : decide (g.length ≤ a) = false := by simp; omega
  go_upto_region 5 with ((with_reducible refine wl_make 92 4 _ _ rfl ?hw ib (.bool false) 1 g.length Tryz.underlying92 HIB.out HIB0.out HIB1.out HIB2.out (by decide) rfl ?hx ?hy hgn ?_); (case hw => first | exact wanted_none rfl | exact wanted_if rfl rfl rfl rfl); (case hx => rfl); (case hy => rfl); intro w1 hrow htag hb1 hs1; have HROW := Lib.hid hrow; have HTAG := Lib.hid htag; have HB1 := Lib.hid hb1; have HS1 := Lib.hid hs1; clear hrow htag hb1 hs1)
  have HB1' := Lib.hid (HB.out.trans (HB1.out.mono HB.out.size))
  clear d5 t1 t2
  have HE := Lib.hid (redges_any g c0 c1 c2 c3 c4 (.slice A g.length c) w1 (HG.out.next HB1'.out) HLEN.out)
  have HR1 := Lib.hid (rangeAt_below HR.out HB1.out HSZ.out)
  go_wp2_with (first | ((with_reducible refine wl_sload 27 _ rfl ?hw2 w.heap.size 0 [c0, c1, c2, c3, c4, .slice A g.length c] _ rfl HR1.out Tryz.underlying27 rfl ?hi2 ?_); (case hw2 => first | exact wanted_none rfl | exact wanted_if rfl rfl rfl rfl); (case hi2 => kernel_rfl)) | (go_at_call 11; fail))
  refine HE.out.mono ?_
  rintro e w2 ⟨v, rfl, hown, hb⟩
  obtain ⟨nb, hnb⟩ : ∃ nb, W.heap.size = nb := ⟨_, rfl⟩
  have HNB1 : Hid (nb < w1.heap.size) := Lib.hid (hnb ▸ HS1.out)
  have HWN : Hid (w.heap.size ≤ nb) := Lib.hid (hnb ▸ HB.out.size)
  rw [hnb]
  have HROW2 : Hid (RowF w2 nb g.length (fun _ => .bool false)) := Lib.hid (by rw [← hnb]; exact HROW.out.below hb HS1.out)
  have HB2 := Lib.hid (HB1'.out.trans (hb.mono HB1'.out.size))
  have HEL : Hid (∀ e, e ∈ edgesOf g → e.1 < g.length) := Lib.hid fun e he => edges_from he
  have HGE : Hid (graphE g = inE g.length (edgesOf g)) := Lib.hid rfl
  have HZZ := Lib.hid hb.size
  obtain ⟨hel, EA, ec, rfl, hea⟩ := hown.at encE_len (by have := HLEN.out; omega)
  have HEB : Hid (0 < (edgesOf g).length → ∃ b o, EA = some ⟨b, o, none⟩ ∧ b < w2.heap.size ∧ b ≠ nb ∧ ∀ (i : Nat) x, (edgesOf g)[i]? = some x → w2.rangeAt b (o + i * 3) (encE x)) := Lib.hid fun h0 => by
    obtain ⟨b, o, rfl, hlt, hc⟩ := hea h0
    refine ⟨b, o, rfl, hlt, fun hne => ?_, fun i x hx => ?_⟩
    · have := hown.block (b := b) rfl
      have := HNB1.out
      omega
    · obtain ⟨ks, h1, h2, h3⟩ := hc i x hx
      have h3' : ks = encE x := h3
      subst h3'
      exact h2
  clear hb hown hea hnb HE HR HR1 HROW HTAG HB1 HS1 hel
  generalize edgesOf g = E at *
  go_wp2
  go_loopg [8] (g.length + 1) (fun q i wr => ∃ k : Nat, k + q = g.length + 1 ∧ i = .int .i64 k ∧ RowF wr nb g.length (fun i => .bool (sweepsM (graphE g) a k i)) ∧ w2.grownBy wr (some nb))
  case atStart => exact ⟨0, by omega, rfl, HROW2.out, grown_refl _ _⟩
  case round =>
    obtain ⟨k, hk, rfl, hrow, hgr⟩ := hrel
    have HROW := Lib.hid hrow
    have HGR := Lib.hid hgr
    clear hrow hgr
    cases gk with
    | zero =>
      obtain rfl : k = g.length + 1 := by omega
      have hge : ¬ (((g.length + 1 : Nat) : Int) ≤ (g.length : Int)) := by omega
      have HRC : Hid (RowF wr nb g.length (fun i => .bool (reach g.length (graphE g) a i))) := Lib.hid HROW.out
      have HBW := Lib.hid (HB2.out.trans (grown_is_below HGR.out HWN.out HB2.out.size))
      obtain ⟨i0, hi, hz0, hz1, hz2⟩ := info_parts' info_int
      have HI0 := Lib.hid hi
      have HZ0 := Lib.hid hz0
      have HZ1 := Lib.hid hz1
      have HZ3 := Lib.hid hz2
      have HNW : Hid (nb < wr.heap.size) := Lib.hid (Nat.lt_of_lt_of_le (Nat.lt_of_lt_of_le HNB1.out HZZ.out) HGR.out.size)
      clear hi hz0 hz1 hz2 HROW hk HGE HEB HEL
      generalize reach g.length (graphE g) a = M at *
      go_wp2
      clear hge
      go_loopg [10, 11] g.length (fun q v i u => ∃ j : Nat, j + q = g.length ∧ i = .int .i64 j ∧ OwnSl 3 1 encI u wr.heap.size v (listN M j) ∧ Below wr.heap.size wr u)
      case atStart => exact ⟨0, by omega, rfl, OwnSl.nil _ _, Below.refl _ _⟩
      case round =>
        obtain ⟨j, hj, rfl, hown, hb⟩ := hrel
        have HO := Lib.hid hown
        have HB4 := Lib.hid hb
        clear hown hb
        cases gk with
        | zero =>
          obtain rfl : j = g.length := by omega
          have hge : ¬ ((g.length : Int) < (g.length : Int)) := by omega
          go_wp2
          go_ret
          exact ⟨_, rfl, HO.out.mono HBW.out.size, HBW.out.trans (HB4.out.mono HBW.out.size)⟩
        | succ q =>
          have hlt3 : (j : Int) < (g.length : Int) := by omega
          have dm := (HRC.out.below HB4.out HNW.out).c j (by omega)
          have HLS := Lib.hid (listN_succ M j)
          have HLN := Lib.hid (listN_len M j)
          cases hmj : M j with
          | false =>
            rw [hmj] at dm
            have HN : Hid (listN M (j + 1) = listN M j) := Lib.hid (by rw [HLS.out, hmj]; simp)
            clear hmj
            go_wp2
            go_roundg q
            case measure => omega
            case rel => exact ⟨j + 1, by omega, by go_num, by rw [HN.out]; exact HO.out, HB4.out⟩
          | true =>
            rw [hmj] at dm
            have HN : Hid (listN M (j + 1) = listN M j ++ [(j : Int)]) := Lib.hid (by rw [HLS.out, hmj]; simp)
            have HWZ := Lib.hid (HO.out.below (box_below wr (.cells ⟨encI (j : Int)⟩ 3)))
            have HCE := Lib.hid (cells_box wr (encI (j : Int)) 3)
            have HM1 : Hid ((listN M j).length + 1 ≤ maxLen) := Lib.hid (room_max (by have := HLN.out; omega))
            have HM2 : Hid (((listN M j).length + 1) * 8 ≤ 140737488355328) := Lib.hid (by have := HLN.out; omega)
            have HBB := Lib.hid (HB4.out.alloc HB4.out.size (.cells ⟨encI (j : Int)⟩ 3))
            clear hmj
            go_wp2_with (at_builtin; refine wl_push rfl _ _ 32 rfl _ 3 i0 (.int .i64 0) 1 8 encI Tryz.underlying32 HI0.out HZ0.out HZ1.out HZ3.out rfl (by decide) encI_len encI_one _ _ rfl HWZ.out wr.heap.size 1 (j : Int) rfl HCE.out HM1.out HM2.out HBB.out.size ?_)
            intro v' w' hown hg
            have HO5 := Lib.hid hown
            have HB5 := Lib.hid (push_below HBB.out HBB.out.size HWZ.out (Nat.le_refl _) hg)
            clear hown hg
            go_wp2
            go_roundg q
            case measure => omega
            case rel => exact ⟨j + 1, by omega, by go_num, by rw [HN.out]; exact HO5.out, HB5.out⟩
    | succ q =>
      have hk2 : (k : Int) ≤ (g.length : Int) := by omega
      go_wp2
      go_loopg [9] E.length (fun q2 i u => ∃ j : Nat, j + q2 = E.length ∧ i = .int .i64 j ∧ RowF u nb g.length (fun i => .bool (sweepM (inE g.length (E.take j)) a (sweepsM (graphE g) a k) i)) ∧ w2.grownBy u (some nb))
      case atStart => exact ⟨0, by omega, rfl, HROW.out, HGR.out⟩
      case round =>
        obtain ⟨j, hj, rfl, hrow, hgr⟩ := hrel
        have HROW3 := Lib.hid hrow
        have HGR3 := Lib.hid hgr
        clear hrow hgr
        cases gk with
        | zero =>
          have hge : ¬ ((j : Int) < (E.length : Int)) := by omega
          have HTK := Lib.hid (List.take_of_length_le (l := E) (i := j) (by omega))
          rw [HTK.out, ← HGE.out] at HROW3
          go_wp2
          go_roundg q
          case measure => omega
          case rel => exact ⟨k + 1, by omega, by go_num, HROW3.out, HGR3.out⟩
        | succ q2 =>
          have hlt2 : (j : Int) < (E.length : Int) := by omega
          have hle2 : (E.length : Int) ≤ 10000 := by have := HLEN.out; omega
          obtain ⟨e, he⟩ : ∃ e, E[j]? = some e := ⟨_, List.getElem?_eq_getElem (by omega)⟩
          obtain ⟨b, o, rfl, hbb, hbn, hc⟩ := HEB.out (by omega)
          have hre := range_grown HGR3.out (hc j e he) hbb hbn
          have d0 : wr.cell? ⟨b, o + j * 3, none⟩ = some (.int .i64 e.1) := range_cell hre 0 rfl
          have d2 := range_cell hre 2 (v := .int .i64 e.2.2) rfl
          have he1 : (e.1 : Int) < (g.length : Int) := by have := HEL.out e (List.mem_of_getElem? he); omega
          have HSN : Hid (inE g.length (E.take (j + 1)) = if okE g.length e = true then inE g.length (E.take j) ++ [(e.1, e.2.2.toNat)] else inE g.length (E.take j)) := Lib.hid (by rw [take_at he, inE_snoc])
          have dm := HROW3.out.c e.1 (by omega)
          clear hre hc he
          obtain ⟨M, hM⟩ : ∃ M, sweepM (inE g.length (E.take j)) a (sweepsM (graphE g) a k) = M := ⟨_, rfl⟩
          have HSW : Hid (∀ x, sweepM (inE g.length (E.take j) ++ [x]) a (sweepsM (graphE g) a k) = stepM a M x) := Lib.hid fun x => by unfold sweepM at hM ⊢; rw [List.foldl_append, hM]; rfl
          rw [hM] at HROW3 dm
          have HM := Lib.hid hM
          clear hM
          by_cases hok : okE g.length e = true
          · have HOK := Lib.hid hok
            rw [okE_iff] at hok
            obtain ⟨t, ht⟩ : ∃ t : Nat, e.2.2 = t := ⟨e.2.2.toNat, by omega⟩
            have ht2 : (t : Int) < (g.length : Int) := by omega
            have HTN : Hid (e.2.2.toNat = t) := Lib.hid (by omega)
            rw [ht] at d2
            have HST : Hid (sweepM (inE g.length (E.take (j + 1))) a (sweepsM (graphE g) a k) = stepM a M (e.1, t)) := Lib.hid (by rw [HSN.out, if_pos HOK.out, HSW.out, HTN.out])
            clear hok ht
            have HFZ := Lib.hid (HROW3.out.set (i := t) (by omega) (.bool true))
            have dt := HROW3.out.c t (by omega)
            have ft := HROW3.out.fz t (by omega)
            have HG4 : Hid (w2.grownBy (wr.setCell ⟨nb, t, none⟩ (.bool true)) (some nb)) := Lib.hid (grown_set HGR3.out _)
            have HYES : Hid ((e.1 == a || M e.1) = true → RowF (wr.setCell ⟨nb, t, none⟩ (.bool true)) nb g.length (fun i => .bool (stepM a M (e.1, t) i))) := Lib.hid fun h => HFZ.out.congr fun i _ => by
              unfold stepM
              rw [if_pos h]
              by_cases hi : i = t
              · subst hi; simp
              · rw [if_neg hi]; simp [hi]
            have HNO : Hid ((e.1 == a || M e.1) = false → stepM a M (e.1, t) = M) := Lib.hid fun h => by
              unfold stepM
              rw [if_neg (by rw [h]; simp)]
            clear HFZ
            generalize e.1 = f at *
            by_cases hfa : f = a
            · subst hfa
              have HC1 : Hid ((f == f || M f) = true) := Lib.hid (by simp)
              go_wp2
              go_roundg q2
              case measure => omega
              case rel => exact ⟨j + 1, by omega, by go_num, by rw [HST.out]; exact HYES.out HC1.out, HG4.out⟩
            · have t5 : ((f : Int) == (a : Int)) = false := by simpa using (by omega : ¬ ((f : Int) = (a : Int)))
              have HFA : Hid ((f == a) = false) := Lib.hid (by simpa using hfa)
              clear hfa
              cases hmf : M f with
              | true =>
                rw [hmf] at dm
                have HC1 : Hid ((f == a || M f) = true) := Lib.hid (by rw [hmf]; simp)
                clear hmf
                go_wp2
                go_roundg q2
                case measure => omega
                case rel => exact ⟨j + 1, by omega, by go_num, by rw [HST.out]; exact HYES.out HC1.out, HG4.out⟩
              | false =>
                rw [hmf] at dm
                have HC1 : Hid ((f == a || M f) = false) := Lib.hid (by rw [HFA.out, hmf]; rfl)
                clear hmf
                go_wp2
                go_roundg q2
                case measure => omega
                case rel => exact ⟨j + 1, by omega, by go_num, by rw [HST.out, HNO.out HC1.out]; exact HROW3.out, HGR3.out⟩
          · have HSAME : Hid (sweepM (inE g.length (E.take (j + 1))) a (sweepsM (graphE g) a k) = M) := Lib.hid (by rw [HSN.out, if_neg hok]; exact HM.out)
            have hno : e.2.2 < 0 ∨ (g.length : Int) ≤ e.2.2 := by rw [okE_iff] at hok; omega
            clear hok
            by_cases hneg : e.2.2 < 0
            · have t3 : decide ((0 : Int) ≤ e.2.2) = false := by simp; omega
              clear hno hneg
              go_wp2
              go_roundg q2
              case measure => omega
              case rel => exact ⟨j + 1, by omega, by go_num, by rw [HSAME.out]; exact HROW3.out, HGR3.out⟩
            · have t3 : decide ((0 : Int) ≤ e.2.2) = true := by simp; omega
              have t4 : decide (e.2.2 < (g.length : Int)) = false := by simp; omega
              clear hno hneg
              go_wp2
              go_roundg q2
              case measure => omega
              case rel => exact ⟨j + 1, by omega, by go_num, by rw [HSAME.out]; exact HROW3.out, HGR3.out⟩
end Go.Proofs.YtlfefikhmdbbfaaGreat
