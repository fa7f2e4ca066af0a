/- ref12.Exprs: a node's expressions. -/
import Derived.Test.YtlfefikhmdbbfaaGreatExprs
import Derived.Test.YtlfefikhmdbbfaaGreatOrder5
namespace Go.Proofs.YtlfefikhmdbbfaaGreat
open Go Go.RowKit
set_option linter.unusedVariables false

def exT : OrdT := .take 1 (.take 2 (.take 4 (.take 5 (.take 6 (.take 7 (.two 0 8 (.two 3 8 (.act 8 (.act 9 (.take 10 .done))) (.act 3 (.act 9 (.take 10 .done)))) (.act 0 (.act 3 (.act 9 (.take 10 .done))))))))))
/-- an empty slice that a literal made -/
def EmptyE (B : Nat) (u : Value) (z : World) : Prop := ∃ b, u = .slice (some ⟨b, 0, none⟩) 0 0 ∧ OwnSl 40 10 enc10 z B u [] ∧ z.cell? ⟨b, 0, none⟩ = none ∧ b < z.heap.size
/-- a literal of two -/
def PairE (l : List Value) (x : Value) (z : World) : Prop := ∃ b, x = .slice (some ⟨b, 0, none⟩) 2 2 ∧ (∀ (j : Nat) u, l[j]? = some u → z.cell? ⟨b, j, none⟩ = some u) ∧ b < z.heap.size
theorem EmptyE.next {B : Nat} {u : Value} {z z' : World} (h : EmptyE B u z) (hb : Below z.heap.size z z') : EmptyE B u z' := by
  obtain ⟨b, h1, h2, h3, h4⟩ := h
  exact ⟨b, h1, h2.below hb, (hb.cell (p := ⟨b, 0, none⟩) h4).trans h3, Nat.lt_of_lt_of_le h4 hb.size⟩
theorem PairE.next {l : List Value} {x : Value} {z z' : World} (h : PairE l x z) (hb : Below z.heap.size z z') : PairE l x z' := by
  obtain ⟨b, h1, h2, h3⟩ := h
  exact ⟨b, h1, fun j u hu => (hb.cell (p := ⟨b, j, none⟩) h3).trans (h2 j u hu), Nat.lt_of_lt_of_le h3 hb.size⟩
theorem PairE.grown {l : List Value} {x u : Value} {B : Nat} {z z' : World} (h : PairE l x z) (hl : 0 < l.length) (hu : EmptyE B u z) (hg : z.grownBy z' u.ownBlock) : PairE l x z' := by
  obtain ⟨b, h1, h2, h3⟩ := h
  obtain ⟨b6, rfl, -, h5, h6⟩ := hu
  have hne : b ≠ b6 := by
    rintro rfl
    obtain ⟨y, hy⟩ : ∃ y, l[0]? = some y := ⟨_, List.getElem?_eq_getElem hl⟩
    have := h2 0 y hy
    rw [h5] at this; cases this
  have hk : z'.heap[b]? = z.heap[b]? := hg.block b h3 (by show some b ≠ some b6; simpa using hne)
  exact ⟨b, h1, fun j u hu => (World.cell?_of_block (a := ⟨b, j, none⟩) hk).trans (h2 j u hu), Nat.lt_of_lt_of_le h3 hg.size⟩
theorem flatE_get {Q : List C10} {m : Nat} {u : Value} (h : (flat enc10 Q)[m]? = some u) : ∃ q, Q[m / 10]? = some q ∧ q.cs[m % 10]? = some u := by
  have hm := (List.getElem?_eq_some_iff.1 h).1
  rw [flat_len enc10_len] at hm
  have hq : m / 10 < Q.length := by omega
  obtain ⟨q, hk⟩ : ∃ q, Q[m / 10]? = some q := ⟨_, List.getElem?_eq_getElem hq⟩
  have hl : m % 10 < q.cs.length := by rw [q.len]; omega
  have h2 := flat_at enc10_len Q (m / 10) q hk (m % 10) q.cs[m % 10] (List.getElem?_eq_getElem hl)
  rw [show m / 10 * 10 + m % 10 = m by omega, h] at h2
  injection h2 with h2
  exact ⟨q, hk, by rw [List.getElem?_eq_getElem hl, ← h2]⟩
theorem flatE_ones {Q : List C10} (h : ∀ q ∈ Q, OkC q) : ∀ u ∈ flat enc10 Q, u.oneCell' = true := by
  intro u hu
  obtain ⟨q, hq, hx⟩ := List.mem_flatMap.1 hu
  exact (h q hq).2 u hx
theorem flatE_two (a b : C10) : flat enc10 [a, b] = a.cs ++ b.cs := by simp [flat, enc10]
set_option maxHeartbeats 8000000 in
set_option maxRecDepth 100000 in
theorem rexprs_any (Q : List C10) (ce cb : C10) (v0 v1 v2 vc : Value) (t : List Value) (w : World) (hq : SlAt w w.heap.size 10 Raw10 vc Q) (hok : ∀ q ∈ Q ++ [ce, cb], OkC q) (hlen : Q.length ≤ 40) :
    Calls Tryz.prog 13 #[.agg ⟨nodeC v0 v1 v2 vc ce cb t⟩] w (ExprPost w ((Q ++ [ce, cb]).filter nzC)) := by
  obtain ⟨hql, A, c, rfl, hA⟩ := hq
  have HA := Lib.hid hA
  have HOK := Lib.hid (fun q h => hok q (List.mem_append.2 (.inl h)))
  have HOKE := Lib.hid (hok ce (by simp))
  have HOKB := Lib.hid (hok cb (by simp))
  have HLEN := Lib.hid hlen
  obtain ⟨j0, hi, hz0, hz1, hz2⟩ := info_parts' info_expr
  have HJ0 := Lib.hid hi
  have HY0 := Lib.hid hz0
  have HY1 := Lib.hid hz1
  have HY2 := Lib.hid hz2
  obtain ⟨R, hR⟩ : ∃ R, (Q ++ [ce, cb]).filter nzC = R := ⟨_, rfl⟩
  rw [hR]
  have HRR := Lib.hid hR
  clear hA hok hlen hi hz0 hz1 hz2 hR
  have hql2 : (Q.length : Int) ≤ 9223372036854775807 := by omega
  go_enter Tryz.func13, Tryz.ntmps13
  go_upto_region 1 with (fail)
  have HB := Lib.hid (box_below w (.cells ⟨nodeC v0 v1 v2 (.slice A Q.length c) ce cb t⟩ 42))
  have HS := Lib.hid (box_size w (.cells ⟨nodeC v0 v1 v2 (.slice A Q.length c) ce cb t⟩ 42))
  have HN := Lib.hid (nodeC_at (range_box w (nodeC v0 v1 v2 (.slice A Q.length c) ce cb t) 42))
  generalize w.alloc (.cells ⟨nodeC v0 v1 v2 (.slice A Q.length c) ce cb t⟩ 42) = W at *
  have d3 := HN.out.1
  obtain ⟨p1, hp1⟩ : ∃ p1, w.heap.size = p1 := ⟨_, rfl⟩
  have HPB : Hid (w.heap.size = p1) := Lib.hid hp1
  have HN' := Lib.hid (hp1 ▸ HN.out)
  have HS' := Lib.hid (hp1 ▸ HS.out)
  rw [hp1] at d3
  rw [hp1]
  clear HN HS hp1
  clear d3
  have HCE := Lib.hid ce.len
  have HCB := Lib.hid cb.len
  have HNEWS : Hid (∀ z : World, Below W.heap.size W z → 0 < Q.length → ∃ ad, A = some ad ∧ ∀ j u, (flat enc10 Q)[j]? = some u → z.cell? (ad.add j) = some u) := Lib.hid fun z hz h0 => by
    obtain ⟨b, o, rfl, hbl, hc⟩ := HA.out h0
    refine ⟨_, rfl, fun j u hu => ?_⟩
    obtain ⟨q, hk, hku⟩ := flatE_get hu
    obtain ⟨ks, h1, h2, h3⟩ := hc (j / 10) q hk
    have h3' : ks = q.cs := h3
    subst h3'
    rw [Addr.add_mid]
    have := h2 (j % 10) u hku
    rw [show o + j / 10 * 10 + j % 10 = o + j by omega] at this
    exact ((HB.out.trans (hz.mono HB.out.size)).cell (p := ⟨b, o + j, none⟩) hbl).trans this
  have HON := Lib.hid (flatE_ones HOK.out)
  have HNIL : Hid (flat enc10 [] = []) := Lib.hid rfl
  have R1 : Hid (∀ z : World, Below W.heap.size W z → Below W.heap.size W (z.alloc (.cells #[] 40)) ∧ EmptyE W.heap.size (.slice (some ⟨z.heap.size, 0, none⟩) 0 0) (z.alloc (.cells #[] 40)) ∧ ∀ x, PairE (ce.cs ++ cb.cs) x z → PairE (ce.cs ++ cb.cs) x (z.alloc (.cells #[] 40))) := Lib.hid fun z hz =>
    ⟨hz.alloc hz.size _, ⟨_, rfl, ownsRow_empty z 40 10 W.heap.size hz.size, by rw [cell_box]; rfl, box_size z _⟩, fun x hx => hx.next (box_below z _)⟩
  have R2 : Hid (∀ u (z : World) (ty : TypeId), Below W.heap.size W z → EmptyE W.heap.size u z → ∃ v z', (Builtin.append_ #[33, 33] ty #[u, .slice A Q.length c]).run Tryz.prog z = .ok v z' ∧ Below W.heap.size W z' ∧ OwnSl 40 10 enc10 z' W.heap.size v Q ∧ ∀ x, PairE (ce.cs ++ cb.cs) x z → PairE (ce.cs ++ cb.cs) x z') := Lib.hid fun u z ty hz hu => by
    obtain ⟨b6, rfl, ho, h5, h6⟩ := id hu
    obtain ⟨v', w', k1, k2, k3⟩ := run_append_opt (P := Tryz.prog) z W.heap.size 33 ty 40 j0 _ 10 160 Tryz.underlying33 HJ0.out HY0.out HY1.out HY2.out rfl (by decide) _ 0 [] ho A Q.length c (flat enc10 Q) (flat_len enc10_len Q) (HNEWS.out z hz) HON.out (by have := HLEN.out; unfold maxLen; omega) (by have := HLEN.out; omega) hz.size
    rw [Nat.zero_add, List.nil_append] at k2
    exact ⟨v', w', k1, push_below hz hz.size ho (Nat.le_refl _) k3, k2, fun x hx => hx.grown (by rw [List.length_append, ce.len]; omega) hu k3⟩
  have R3 : Hid (∀ z : World, Below W.heap.size W z → Below W.heap.size W (z.alloc (.cells ⟨ce.cs ++ cb.cs⟩ 40)) ∧ PairE (ce.cs ++ cb.cs) (.slice (some ⟨z.heap.size, 0, none⟩) 2 2) (z.alloc (.cells ⟨ce.cs ++ cb.cs⟩ 40)) ∧ (∀ u, EmptyE W.heap.size u z → EmptyE W.heap.size u (z.alloc (.cells ⟨ce.cs ++ cb.cs⟩ 40))) ∧ ∀ u, OwnSl 40 10 enc10 z W.heap.size u Q → OwnSl 40 10 enc10 (z.alloc (.cells ⟨ce.cs ++ cb.cs⟩ 40)) W.heap.size u Q) := Lib.hid fun z hz =>
    ⟨hz.alloc hz.size _, ⟨_, rfl, cells_box z (ce.cs ++ cb.cs) 40, box_size z _⟩, fun u hu => hu.next (box_below z _), fun u hu => hu.below (box_below z _)⟩
  refine wp_region_tree exT (fun z => Below W.heap.size W z) (by kernel_rfl) (by kernel_rfl) (by kernel_rfl) rfl (by intro c a d v w h; cases d <;> exact h) ?_
  have hs0 : Below W.heap.size W W.drew := (Below.refl _ W).drew
  refine tree_load (some 7) (.pointer (some ⟨p1, 3, none⟩)) _ rfl rfl (by first | exact wanted_none rfl | exact wanted_if rfl rfl rfl rfl) hs0 (fun z hz => by go_simp) ?_
  go_frame
  refine tree_load (some 8) (.slice A Q.length c) _ rfl rfl (by first | exact wanted_none rfl | exact wanted_if rfl rfl rfl rfl) hs0 (fun z hz => by have dd := (hz.cell (p := ⟨p1, 3, none⟩) HS'.out).trans HN'.out.1; go_simp) ?_
  go_frame
  refine tree_load (some 10) (.pointer (some ⟨p1, 4, none⟩)) _ rfl rfl (by first | exact wanted_none rfl | exact wanted_if rfl rfl rfl rfl) hs0 (fun z hz => by go_simp) ?_
  go_frame
  refine tree_load (some 11) (.agg ⟨ce.cs⟩) _ rfl rfl (by first | exact wanted_none rfl | exact wanted_if rfl rfl rfl rfl) hs0 (fun z hz => exec_sload 40 rfl p1 4 ce.cs _ rfl (rangeAt_below HN'.out.2.1 hz HS'.out) Tryz.underlying40 rfl (by rw [ce.len]; kernel_rfl)) ?_
  go_frame
  refine tree_load (some 12) (.pointer (some ⟨p1, 14, none⟩)) _ rfl rfl (by first | exact wanted_none rfl | exact wanted_if rfl rfl rfl rfl) hs0 (fun z hz => by go_simp) ?_
  go_frame
  refine tree_load (some 13) (.agg ⟨cb.cs⟩) _ rfl rfl (by first | exact wanted_none rfl | exact wanted_if rfl rfl rfl rfl) hs0 (fun z hz => exec_sload 40 rfl p1 14 cb.cs _ rfl (rangeAt_below HN'.out.2.2 hz HS'.out) Tryz.underlying40 rfl (by rw [cb.len]; kernel_rfl)) ?_
  go_frame
  refine tree_three (i := 0) (k := 3) (j := 8) (d1 := 6) (d2 := 9) (d3 := 14) (EmptyE W.heap.size) (fun v z => OwnSl 40 10 enc10 z W.heap.size v Q) (PairE (ce.cs ++ cb.cs)) _ _ _ rfl rfl rfl rfl rfl rfl (by first | exact wanted_none rfl | exact wanted_if rfl rfl rfl rfl) (fun v => (by first | exact wanted_none rfl | exact wanted_if rfl rfl rfl rfl)) (fun u => (by first | exact wanted_none rfl | exact wanted_if rfl rfl rfl rfl)) (fun u v => (by first | exact wanted_none rfl | exact wanted_if rfl rfl rfl rfl)) (by first | exact wanted_none rfl | exact wanted_if rfl rfl rfl rfl) (fun u => (by first | exact wanted_none rfl | exact wanted_if rfl rfl rfl rfl)) (fun u v => (by first | exact wanted_none rfl | exact wanted_if rfl rfl rfl rfl))
    (fun z hz => ⟨_, _, exec_build0 33 rfl 40 j0 Tryz.underlying33 HJ0.out, R1.out z hz⟩) (fun x z hz => ⟨_, _, exec_build0 33 rfl 40 j0 Tryz.underlying33 HJ0.out, R1.out z hz⟩) ?r2 ?r2' (fun z hz => ⟨_, _, exec_build2 33 _ _ rfl 40 j0 _ ce.cs cb.cs rfl rfl Tryz.underlying33 HJ0.out HY0.out (by rw [HCE.out]; exact HY1.out) (by rw [HCE.out, HCB.out]) (by rw [HCE.out]; decide) (by rw [HCE.out]; decide), R3.out z hz⟩) (fun u z hz => ⟨_, _, exec_build2 33 _ _ rfl 40 j0 _ ce.cs cb.cs rfl rfl Tryz.underlying33 HJ0.out HY0.out (by rw [HCE.out]; exact HY1.out) (by rw [HCE.out, HCB.out]) (by rw [HCE.out]; decide) (by rw [HCE.out]; decide), R3.out z hz⟩) (fun u x z hz => ⟨_, _, exec_build2 33 _ _ rfl 40 j0 _ ce.cs cb.cs rfl rfl Tryz.underlying33 HJ0.out HY0.out (by rw [HCE.out]; exact HY1.out) (by rw [HCE.out, HCB.out]) (by rw [HCE.out]; decide) (by rw [HCE.out]; decide), R3.out z hz⟩) (by decide) (by decide) hs0 ?_
  case r2 =>
    intro u z hz hu
    obtain ⟨v', z', k1, k2⟩ := R2.out u z _ hz hu
    exact ⟨v', z', exec_append _ _ 33 rfl u A Q.length c v' z' rfl rfl k1, k2⟩
  case r2' =>
    intro u x z hz hu
    obtain ⟨v', z', k1, k2⟩ := R2.out u z _ hz hu
    exact ⟨v', z', exec_append _ _ 33 rfl u A Q.length c v' z' rfl rfl k1, k2⟩
  intro u v x z hs1 hv hx
  go_frame
  obtain ⟨nb, rfl, hcx, hnb⟩ := hx
  obtain ⟨v9, z9, k1, k2, k3⟩ := run_append_opt (P := Tryz.prog) z W.heap.size 33 33 40 j0 _ 10 160 Tryz.underlying33 HJ0.out HY0.out HY1.out HY2.out rfl (by decide) v Q.length (flat enc10 Q) hv (some ⟨nb, 0, none⟩) 2 2 (ce.cs ++ cb.cs) (by rw [List.length_append, HCE.out, HCB.out]) (fun _ => ⟨_, rfl, fun j u hu => by rw [Addr.add_mid, Nat.zero_add]; exact hcx j u hu⟩) (fun u hu => (List.mem_append.1 hu).elim (fun h => HOKE.out.2 u h) (fun h => HOKB.out.2 u h)) (by have := HLEN.out; unfold maxLen; omega) (by have := HLEN.out; omega) hs1.size
  have HALL : Hid (OwnSl 40 10 enc10 z9 W.heap.size v9 (Q ++ [ce, cb])) := Lib.hid (by
    show z9.ownsRow _ _ _ _ _ _
    have hfl : flat enc10 (Q ++ [ce, cb]) = flat enc10 Q ++ (ce.cs ++ cb.cs) := by rw [← flatE_two]; simp [flat]
    rw [hfl, List.length_append]
    exact k2)
  have hs9 : Below W.heap.size W z9 := push_below hs1 hs1.size hv (Nat.le_refl _) k3
  refine tree_run (some 15) _ v9 z9 rfl rfl (by first | exact wanted_none rfl | exact wanted_if rfl rfl rfl rfl) (exec_append _ _ 33 rfl v (some ⟨nb, 0, none⟩) 2 2 v9 z9 rfl rfl k1) hs9 ?_
  go_frame
  refine tree_assign (some 3) v9 _ _ rfl rfl rfl (by first | exact wanted_none rfl | exact wanted_if rfl rfl rfl rfl) hs9 rfl ?_
  go_frame
  refine tree_end ?_
  have HB9 := Lib.hid hs9
  clear hs0 hs1 hv hcx hnb k1 k2 k3 hs9 R1 R2 R3
  have HOKM : Hid (∀ q ∈ Q ++ [ce, cb], OkC q) := Lib.hid fun q hq => by
    rcases List.mem_append.1 hq with h | h
    · exact HOK.out q h
    · simp only [List.mem_cons, List.not_mem_nil, or_false] at h
      rcases h with rfl | rfl
      · exact HOKE.out
      · exact HOKB.out
  have HML : Hid ((Q ++ [ce, cb]).length ≤ 42) := Lib.hid (by rw [List.length_append]; have := HLEN.out; simp; omega)
  generalize Q ++ [ce, cb] = M at *
  obtain ⟨hml, MA, mc, rfl, hMA⟩ := HALL.out.at enc10_len (by have := HML.out; omega)
  have HMA := Lib.hid hMA
  have hml2 : (M.length : Int) ≤ 42 := by have := HML.out; omega
  clear hMA hml HALL
  go_wp2
  go_loopg [4, 5] M.length (fun g v i u => ∃ j : Nat, j + g = M.length ∧ i = .int .i64 j ∧ OwnSl 40 10 enc10 u z9.heap.size v ((M.take j).filter nzC) ∧ Below z9.heap.size z9 u)
  case atStart => exact ⟨0, by omega, rfl, OwnSl.nil _ _, Below.refl _ _⟩
  case round =>
    obtain ⟨j, hj, rfl, hown, hb⟩ := hrel
    have HO := Lib.hid hown
    have HBK := Lib.hid hb
    clear hown hb
    cases gk with
    | zero =>
      obtain rfl : j = M.length := by omega
      have hge : ¬ ((M.length : Int) < (M.length : Int)) := by omega
      have HTK : Hid ((M.take M.length).filter nzC = R) := Lib.hid (by rw [List.take_length, HRR.out])
      go_wp2
      go_ret
      exact ⟨_, rfl, by have := HO.out; rw [HTK.out] at this; exact this.mono (Nat.le_trans HB.out.size HB9.out.size), HB.out.trans ((HB9.out.trans (HBK.out.mono HB9.out.size)).mono HB.out.size)⟩
    | succ q =>
      have hlt : (j : Int) < (M.length : Int) := by omega
      obtain ⟨x, hx⟩ : ∃ x, M[j]? = some x := ⟨_, List.getElem?_eq_getElem (by omega)⟩
      obtain ⟨b, o, rfl, hbl, hc⟩ := HMA.out (by omega)
      have HRE : Hid (wr.rangeAt b (o + j * 10) x.cs) := Lib.hid (by
        obtain ⟨ks, h1, h2, h3⟩ := hc j x hx
        have h3' : ks = x.cs := h3
        subst h3'
        exact rangeAt_below h2 HBK.out hbl)
      have HOX := Lib.hid (HOKM.out x (List.mem_of_getElem? hx))
      have HF := Lib.hid (filter_take (p := nzC) hx)
      have HLL : Hid (((M.take j).filter nzC).length ≤ 42) := Lib.hid (filter_le (Nat.le_trans (by rw [List.length_take]; exact Nat.min_le_right _ _) HML.out))
      have d0 : wr.cell? ⟨b, o + j * 10, none⟩ = some (.int .i64 (kindC x)) := HRE.out 0 _ HOX.out.1
      clear hc hx
      by_cases hk : kindC x = 0
      · have t1 : (kindC x != 0) = false := by rw [hk]; rfl
        have HN2 : Hid ((M.take (j + 1)).filter nzC = (M.take j).filter nzC) := Lib.hid (by rw [HF.out, if_neg (by unfold nzC; rw [t1]; decide), List.append_nil])
        generalize kindC x = kx at *
        clear hk
        go_wp2
        go_roundg q
        case measure => omega
        case rel => exact ⟨j + 1, by omega, by go_num, by rw [HN2.out]; exact HO.out, HBK.out⟩
      · have t1 : (kindC x != 0) = true := by simpa using hk
        have HN2 : Hid ((M.take (j + 1)).filter nzC = (M.take j).filter nzC ++ [x]) := Lib.hid (by rw [HF.out, if_pos (by unfold nzC; exact t1)])
        clear hk
        have HWZ := Lib.hid (HO.out.below (box_below wr (.cells ⟨x.cs⟩ 40)))
        have HCX : Hid (∀ i u, (enc10 x)[i]? = some u → (wr.alloc (.cells ⟨x.cs⟩ 40)).cell? ⟨wr.heap.size, i, none⟩ = some u) := Lib.hid (cells_box wr x.cs 40)
        have HBX := Lib.hid (HBK.out.alloc HBK.out.size (.cells ⟨x.cs⟩ 40))
        have HK1 : Hid (((M.take j).filter nzC).length + 1 ≤ maxLen) := Lib.hid (by have := HLL.out; unfold maxLen; omega)
        have HK2 : Hid ((((M.take j).filter nzC).length + 1) * 160 ≤ 140737488355328) := Lib.hid (by have := HLL.out; omega)
        have HQL := Lib.hid x.len
        go_wp2_with (first | ((with_reducible refine wl_sload 40 _ rfl ?hwa b (o + j * 10) x.cs _ rfl HRE.out Tryz.underlying40 rfl ?hia ?_); (case hwa => (first | exact wanted_none rfl | exact wanted_if rfl rfl rfl rfl)); (case hia => rw [HQL.out]; kernel_rfl)) | ((with_reducible refine wl_build1 33 _ rfl ?hw3 40 j0 _ x.cs ?hx3 Tryz.underlying33 HJ0.out HY0.out ?hs3 ?h03 ?hm3 ?_); (case hw3 => (first | exact wanted_none rfl | exact wanted_if rfl rfl rfl rfl)); (case hx3 => rfl); (case hs3 => rw [HQL.out]; exact HY1.out); (case h03 => rw [HQL.out]; decide); (case hm3 => rw [HQL.out]; decide)) | (at_builtin; (refine wl_pushE rfl _ _ 33 rfl z9.heap.size 40 j0 _ 10 160 enc10 Tryz.underlying33 HJ0.out HY0.out HY1.out HY2.out rfl (by decide) enc10_len _ _ rfl HWZ.out wr.heap.size 1 x HOX.out.2 rfl HCX.out HK1.out HK2.out HBX.out.size ?_; intro v6 w6 hown hg; have HO6 := Lib.hid hown; have HG6 := Lib.hid hg; clear hown hg)))
        have HB6 := Lib.hid (push_below HBX.out HBX.out.size HWZ.out (Nat.le_refl _) HG6.out)
        clear HWZ HCX HBX HK1 HK2 HQL HG6
        go_roundg q
        case measure => omega
        case rel => exact ⟨j + 1, by omega, by go_num, by rw [HN2.out]; exact HO6.out, HB6.out⟩
end Go.Proofs.YtlfefikhmdbbfaaGreat
