/- The nodes that lead to themselves: the document's. -/
import Derived.Test.YtedajbpjokmlaaaGLoops
namespace Go.Proofs.Ytedajbpjokmlaaa
open Go Go.RowKit
set_option linter.unusedVariables false

theorem pair_count {l : List Int} (h : l.Pairwise (fun x y => x < y)) (x : Int) : l.count x = if l.contains x = true then 1 else 0 := by
  induction l with
  | nil => rfl
  | cons a l ih =>
    obtain ⟨h1, h2⟩ := List.pairwise_cons.1 h
    rw [List.count_cons, ih h2]
    by_cases e : a = x
    · subst e
      simp
      intro hm
      have := h1 a hm
      omega
    · have : ¬ x = a := fun h => e h.symm
      simp [e, this]
/-- one element is put behind a slice of one's own; where it lies then -/
theorem wl_push2 {P : Program} {ops : Array Oper} {rest : List Oper} {o : Oper} {a : Act} {w : World} {Q : Exit → Act → World → Prop} {α : Type} (s x : Operand) (t : TypeId)
    (ho : o.op = .call { callee := .builtin .append, args := #[s, x], argTypes := #[t, t] }) (hw : Region.wanted o (yielded ops a.tmps) = true)
    (base : Nat) (e : TypeId) (j : TypeInfo) (z : Value) (k bytes : Nat) (enc : α → List Value) (ht : P.underlying t = some (.slice e)) (hi : P.info? e = some j) (hz : j.zero = some z)
    (hsize : j.size = k) (hby : j.bytes = bytes) (hzs : z.cells.size = k) (hsz : 0 < k) (hk : ∀ x, (enc x).length = k) (h1 : ∀ x, ∀ u ∈ enc x, u.oneCell' = true)
    (v : Value) (l : List α) (hs : a.eval s = v) (hown : OwnSl e k enc w base v l) (nb c : Nat) (y : α) (hx : a.eval x = .slice (some ⟨nb, 0, none⟩) 1 c)
    (hc : ∀ j u, (enc y)[j]? = some u → w.cell? ⟨nb, j, none⟩ = some u) (h63 : l.length + 1 ≤ maxLen) (hbytes : (l.length + 1) * bytes ≤ 140737488355328) (hbase : base ≤ w.heap.size)
    (h : ∀ v' w', OwnSl e k enc w' base v' (l ++ [y]) → w.grownBy w' v.ownBlock → (v'.ownBlock = v.ownBlock ∨ v'.ownBlock = some w.heap.size) → wpList P ops Q rest (a.put o.dst v') w') : wpList P ops Q (o :: rest) a w := by
  obtain ⟨v', w', k1, k2, k3, _, k5⟩ := run_append_own_at (P := P) w base t o.type e j z k bytes ht hi hz hsize hby hzs hsz v l.length (flat enc l) hown ⟨nb, 0, none⟩ 1 c (enc y) (by rw [hk]; omega)
    (fun j u hu => by rw [Addr.add_mid, Nat.zero_add]; exact hc j u hu) (h1 y) h63 hbytes hbase
  refine wpList_step fun K hK => ?_
  rw [if_pos hw]
  have h4 := hK _ _ (h v' w' (by unfold OwnSl; rw [flat_snoc, List.length_append]; exact k2) k3 k5)
  unfold Oper.wp execOp
  simp only [ho, resolve, invoke, builtin, Sem.run_bind, Sem.run_pure, Result.andThen_ok, List.map_toArray, List.map_cons, List.map_nil, hs, hx, k1]
  exact h4
/-- a list that is read -/
def ReadAt (w : World) (A : Option Addr) (l : List Int) : Prop := ∀ i x, l[i]? = some x → ∃ b o, A = some ⟨b, o, none⟩ ∧ b < w.heap.size ∧ w.cell? ⟨b, o + i, none⟩ = some (.int .i64 x)
theorem ReadAt.below {w w' : World} {A : Option Addr} {l : List Int} (h : ReadAt w A l) (hb : Below w.heap.size w w') : ReadAt w' A l := fun i x hx => by
  obtain ⟨b, o, rfl, h1, h2⟩ := h i x hx
  exact ⟨b, o, rfl, Nat.lt_of_lt_of_le h1 hb.size, (hb.cell (p := ⟨b, o + i, none⟩) h1).trans h2⟩
theorem ReadAt.grown {w w' : World} {A : Option Addr} {l : List Int} {r : Option Nat} (h : ReadAt w A l) (hg : w.grownBy w' r) (hr : ∀ b o, A = some ⟨b, o, none⟩ → r ≠ some b) : ReadAt w' A l := fun i x hx => by
  obtain ⟨b, o, rfl, h1, h2⟩ := h i x hx
  exact ⟨b, o, rfl, Nat.lt_of_lt_of_le h1 hg.size, (World.cell?_of_block (a := ⟨b, o + i, none⟩) (hg.block b h1 (fun e => hr b o rfl e.symm))).trans h2⟩
def loopsMid (g : List GN) (i k : Nat) : List Int := listN (fun i => reach g.length (graphE g) i i) i ++ List.replicate (((reachL g i).take k).count (i : Int)) (i : Int)
theorem loopsMid_end {g : List GN} {i : Nat} (hi : i < g.length) : loopsMid g i (reachL g i).length = listN (fun i => reach g.length (graphE g) i i) (i + 1) := by
  unfold loopsMid
  rw [List.take_of_length_le (Nat.le_refl _), pair_count (reachL_pairwise g i), reachL_self hi, listN_succ]
  split <;> simp
theorem loopsMid_succ {g : List GN} {i k : Nat} {x : Int} (h : (reachL g i)[k]? = some x) : loopsMid g i (k + 1) = if x = i then loopsMid g i k ++ [(i : Int)] else loopsMid g i k := by
  unfold loopsMid
  rw [take_at h, List.count_append]
  by_cases e : x = i
  · subst e; rw [if_pos rfl]; simp [List.replicate_succ']
  · rw [if_neg e]; simp [e]
theorem loopsMid_len {g : List GN} {i k : Nat} (hi : i < g.length) (hg : g.length ≤ 5000) : (loopsMid g i k).length ≤ 10000 := by
  unfold loopsMid
  rw [List.length_append, List.length_replicate]
  have h1 := listN_len (fun i => reach g.length (graphE g) i i) i
  have h2 : ((reachL g i).take k).count (i : Int) ≤ (reachL g i).count (i : Int) := (List.take_sublist k (reachL g i)).count_le (i : Int)
  rw [pair_count (reachL_pairwise g i)] at h2
  split at h2 <;> omega

set_option maxHeartbeats 4000000 in
set_option maxRecDepth 100000 in
theorem rloops_any (g : List GN) (c0 c1 c2 c3 c4 v5 : Value) (w : World) (hg : GraphAt w w.heap.size v5 g) (hlen : (edgesOf g).length ≤ 10000) (hgn : g.length ≤ 5000) :
    Calls Try.prog 25 #[.agg ⟨[c0, c1, c2, c3, c4, v5]⟩] w (IntsPost w (loopsOf g)) := by
  have HG := Lib.hid hg
  obtain ⟨hgl, A, c, rfl, hA⟩ := hg
  have HLEN := Lib.hid hlen
  have HGN : Hid (g.length ≤ 10000) := Lib.hid (by omega)
  have HG5 := Lib.hid hgn
  clear hA hlen hgl
  obtain ⟨i0, hi, hz0, hz1, hz2⟩ := info_parts' info_int
  have HI0 := Lib.hid hi
  have HZ0 := Lib.hid hz0
  have HZ1 := Lib.hid hz1
  have HZ2 := Lib.hid hz2
  clear hi hz0 hz1 hz2
  go_enter Try.func25, Try.ntmps25
  go_upto_region 1 with (fail)
  have HB := Lib.hid (box_below w (.cells ⟨[c0, c1, c2, c3, c4, .slice A g.length c]⟩ 27))
  have HSZ := Lib.hid (box_size w (.cells ⟨[c0, c1, c2, c3, c4, .slice A g.length c]⟩ 27))
  have HC5 := Lib.hid (cells_box w [c0, c1, c2, c3, c4, .slice A g.length c] 27 5 _ rfl)
  have HR := Lib.hid (range_box w [c0, c1, c2, c3, c4, .slice A g.length c] 27)
  generalize w.alloc (.cells ⟨[c0, c1, c2, c3, c4, .slice A g.length c]⟩ 27) = W at *
  go_wp2
  go_loopg [3, 4] g.length (fun q v i u => ∃ j : Nat, j + q = g.length ∧ i = .int .i64 j ∧ OwnSl 3 1 encI u W.heap.size v (listN (fun i => reach g.length (graphE g) i i) j) ∧ Below W.heap.size W u)
  case atStart => exact ⟨0, by omega, rfl, OwnSl.nil _ _, Below.refl _ _⟩
  case round =>
    obtain ⟨j, hj, rfl, hown, hb⟩ := hrel
    have HO := Lib.hid hown
    have HB1 := Lib.hid hb
    clear hown hb
    have d5 := (HB1.out.cell (p := ⟨w.heap.size, 5, none⟩) HSZ.out).trans HC5.out
    cases gk with
    | zero =>
      obtain rfl : j = g.length := by omega
      have hge : ¬ ((g.length : Int) < (g.length : Int)) := by omega
      go_wp2
      go_ret
      exact ⟨_, rfl, HO.out.mono HB.out.size, HB.out.trans (HB1.out.mono HB.out.size)⟩
    | succ q =>
      have hlt : (j : Int) < (g.length : Int) := by omega
      have hlt' : j < g.length := by omega
      have HBW := Lib.hid (HB.out.trans (HB1.out.mono HB.out.size))
      have HCR := Lib.hid (rreach_any g j c0 c1 c2 c3 c4 (.slice A g.length c) wr (HG.out.next HBW.out) HLEN.out HGN.out)
      have HR1 := Lib.hid (rangeAt_below HR.out HB1.out HSZ.out)
      go_upto_region 6 with (first | ((with_reducible refine wl_sload 27 _ rfl ?hw2 w.heap.size 0 [c0, c1, c2, c3, c4, .slice A g.length c] _ rfl HR1.out Try.underlying27 rfl ?hi2 ?_); (case hw2 => first | exact wanted_none rfl | exact wanted_if rfl rfl rfl rfl); (case hi2 => kernel_rfl)) | (go_at_call 48; refine HCR.out.mono ?_; rintro e w3 ⟨v3, rfl, hown3, hb3⟩; have HO3 := Lib.hid hown3; have HB3 := Lib.hid hb3; clear hown3 hb3))
      have HB4 := Lib.hid (HB1.out.trans (HB3.out.mono HB1.out.size))
      have HO4 := Lib.hid (HO.out.below HB3.out)
      obtain ⟨A3, c3', hv3, hc3⟩ := (HO3.out.at encI_len (by have := reachL_len g j; omega)).2
      subst hv3
      have HA3 : Hid (ReadAt w3 A3 (reachL g j)) := Lib.hid fun i x hx => by
        obtain ⟨b, o, rfl, hlt, hc⟩ := hc3 (by have := (List.getElem?_eq_some_iff.1 hx).1; omega)
        obtain ⟨ks, h1, h2, h3⟩ := hc i x hx
        have h3' : ks = encI x := h3
        subst h3'
        refine ⟨b, o, rfl, hlt, ?_⟩
        have := h2 0 (.int .i64 x) rfl
        simpa using this
      have HAP : Hid (∀ b o, A3 = some ⟨b, o, none⟩ → u3.ownBlock ≠ some b) := Lib.hid fun b o he hne => by
        subst he
        have h1 := HO.out.lt hne
        have h2 := HO3.out.block (b := b) rfl
        omega
      have HRL := Lib.hid (reachL_len g j)
      have HLM := Lib.hid (fun k => loopsMid_len (k := k) hlt' HG5.out)
      have HLE := Lib.hid (loopsMid_end hlt')
      have HLK := Lib.hid (fun (k : Nat) (x : Int) (h : (reachL g j)[k]? = some x) => loopsMid_succ h)
      have HL0 : Hid (listN (fun i => reach g.length (graphE g) i i) j = loopsMid g j 0) := Lib.hid (by unfold loopsMid; simp)
      rw [HL0.out] at HO4
      clear HO HO3 HB1 HB3 hc3 HL0 d5 HCR HR1 HBW
      generalize reachL g j = RL at *
      have hrl : (RL.length : Int) ≤ 5000 := by have := HRL.out; omega
      go_wp2
      go_loopg [3, 6] RL.length (fun q2 v i u => ∃ k : Nat, k + q2 = RL.length ∧ i = .int .i64 k ∧ OwnSl 3 1 encI u W.heap.size v (loopsMid g j k) ∧ Below W.heap.size W u ∧ ReadAt u A3 RL ∧ (∀ b o, A3 = some ⟨b, o, none⟩ → v.ownBlock ≠ some b))
      case atStart => exact ⟨0, by omega, rfl, HO4.out, HB4.out, HA3.out, HAP.out⟩
      case round =>
        obtain ⟨k, hk, rfl, hown, hb, hra, hap⟩ := hrel
        clear HO4 HB4 HA3 HAP
        have HO := Lib.hid hown
        have HB4 := Lib.hid hb
        have HRA := Lib.hid hra
        have HAP := Lib.hid hap
        clear hown hb hra hap
        cases gk with
        | zero =>
          obtain rfl : k = RL.length := by omega
          have hge2 : ¬ ((RL.length : Int) < (RL.length : Int)) := by omega
          go_wp2
          go_roundg q
          case measure => omega
          case rel => exact ⟨j + 1, by omega, by go_num, by rw [← HLE.out]; exact HO.out, HB4.out⟩
        | succ q2 =>
          have hlt2 : (k : Int) < (RL.length : Int) := by omega
          obtain ⟨x, hx⟩ : ∃ x, RL[k]? = some x := ⟨_, List.getElem?_eq_getElem (by omega)⟩
          have HNX := Lib.hid (HLK.out k x hx)
          obtain ⟨b, o, rfl, hbl, dx⟩ := HRA.out k x hx
          clear hx
          by_cases hxj : x = j
          · rw [if_pos hxj] at HNX
            subst hxj
            go_upto_region 10 with (fail)
            have HWZ := Lib.hid (HO.out.below (box_below wr (.cells ⟨encI (j : Int)⟩ 3)))
            have HCE := Lib.hid (cells_box wr (encI (j : Int)) 3)
            have HK0 : Hid ((loopsMid g j k).length + 1 ≤ 10000) := Lib.hid (by have := HLM.out (k + 1); rw [HNX.out, List.length_append] at this; exact this)
            have HK1 : Hid ((loopsMid g j k).length + 1 ≤ maxLen) := Lib.hid (room_max HK0.out)
            have HK2 : Hid (((loopsMid g j k).length + 1) * 8 ≤ 140737488355328) := Lib.hid (by have := HK0.out; omega)
            have HBB := Lib.hid (HB4.out.alloc HB4.out.size (.cells ⟨encI (j : Int)⟩ 3))
            have HRB := Lib.hid (HRA.out.below (box_below wr (.cells ⟨encI (j : Int)⟩ 3)))
            have HSB := Lib.hid (box_size wr (.cells ⟨encI (j : Int)⟩ 3))
            go_wp2_with (at_builtin; refine wl_push2 _ _ 34 rfl ?hw _ 3 i0 (.int .i64 0) 1 8 encI Try.underlying34 HI0.out HZ0.out HZ1.out HZ2.out rfl (by decide) encI_len encI_one _ _ rfl HWZ.out wr.heap.size 1 (j : Int) rfl HCE.out HK1.out HK2.out HBB.out.size ?_; (case hw => exact wanted_none rfl))
            intro v' w' hown hg hnb
            have HO5 := Lib.hid hown
            have HB5 := Lib.hid (push_below HBB.out HBB.out.size HWZ.out (Nat.le_refl _) hg)
            have HAP5 : Hid (∀ b' o', some (⟨b, o, none⟩ : Addr) = some ⟨b', o', none⟩ → v'.ownBlock ≠ some b') := Lib.hid fun b' o' he hne => by
              injection he with he
              injection he with he _ _
              subst he
              rcases hnb with h | h
              · exact HAP.out b o rfl (h ▸ hne)
              · rw [h] at hne
                injection hne with hne
                have := HSB.out
                omega
            have HR5 := Lib.hid (HRB.out.grown hg (fun b' o' he => HAP.out b' o' he))
            clear hown hg hnb
            go_wp2
            go_roundg q2
            case measure => omega
            case rel => exact ⟨k + 1, by omega, by go_num, by rw [HNX.out]; exact HO5.out, HB5.out, HR5.out, HAP5.out⟩
          · rw [if_neg hxj] at HNX
            have t1 : (x == (j : Int)) = false := by simpa using hxj
            clear hxj
            go_wp2
            go_roundg q2
            case measure => omega
            case rel => exact ⟨k + 1, by omega, by go_num, by rw [HNX.out]; exact HO.out, HB4.out, HRA.out, HAP.out⟩
end Go.Proofs.Ytedajbpjokmlaaa
