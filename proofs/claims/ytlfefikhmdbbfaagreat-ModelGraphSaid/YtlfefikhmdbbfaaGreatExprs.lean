/- model.Exprs: a node's expressions. -/
import Derived.Test.YtlfefikhmdbbfaaGreatModA
import Derived.Test.YtlfefikhmdbbfaaGreatBuild1
namespace Go.Proofs.YtlfefikhmdbbfaaGreat
open Go Go.RowKit
set_option linter.unusedVariables false

structure C10 where
  cs : List Value
  len : cs.length = 10
def enc10 (q : C10) : List Value := q.cs
theorem enc10_len (q : C10) : (enc10 q).length = 10 := q.len
def kindC (q : C10) : Int := match q.cs with | .int .i64 k :: _ => k | _ => 0
def nzC (q : C10) : Bool := kindC q != 0
def OkC (q : C10) : Prop := q.cs[0]? = some (.int .i64 (kindC q)) ∧ ∀ u ∈ q.cs, u.oneCell' = true
def Raw10 (cs : List Value) (q : C10) : Prop := cs = q.cs
theorem info_expr : (Tryz.prog.info? 40).map (fun i => (i.zero, i.size, i.bytes)) = some (some (.agg #[.int .i64 0, .string ⟨#[]⟩, .int .i64 0, .int .i64 0, .float .f64 0, .string ⟨#[]⟩, .slice none 0 0, .slice none 0 0, .slice none 0 0, .slice none 0 0]), 10, 160) := by kernel_rfl
theorem wl_pushE {α : Type} {P : Program} {ops : Array Oper} {rest : List Oper} {o : Oper} {a : Act} {w : World} {Q : Exit → Act → World → Prop} (hgd : o.guard = none) (s x : Operand) (t : TypeId) (ho : o.op = .call { callee := .builtin .append, args := #[s, x], argTypes := #[t, t] })
    (base : Nat) (e : TypeId) (i : TypeInfo) (z : Value) (k bytes : Nat) (enc : α → List Value) (ht : P.underlying t = some (.slice e)) (hi : P.info? e = some i) (hz : i.zero = some z)
    (hsize : i.size = k) (hby : i.bytes = bytes) (hzs : z.cells.size = k) (hsz : 0 < k) (hk : ∀ x, (enc x).length = k)
    (v : Value) (l : List α) (hs : a.eval s = v) (hown : OwnSl e k enc w base v l) (nb c : Nat) (y : α) (h1 : ∀ u ∈ enc y, u.oneCell' = true) (hx : a.eval x = .slice (some ⟨nb, 0, none⟩) 1 c)
    (hc : ∀ j u, (enc y)[j]? = some u → w.cell? ⟨nb, j, none⟩ = some u) (h63 : l.length + 1 ≤ maxLen) (hbytes : (l.length + 1) * bytes ≤ 140737488355328) (hbase : base ≤ w.heap.size)
    (h : ∀ v' w', OwnSl e k enc w' base v' (l ++ [y]) → w.grownBy w' v.ownBlock → wpList P ops Q rest (a.put o.dst v') w') : wpList P ops Q (o :: rest) a w := by
  obtain ⟨v', w', hrun, k2, k3, _, k5⟩ := run_append_own_at (P := P) w base t o.type e i z k bytes ht hi hz hsize hby hzs hsz v l.length (flat enc l) hown ⟨nb, 0, none⟩ 1 c (enc y) (by rw [hk]; omega)
    (fun j u hu => by rw [Addr.add_mid, Nat.zero_add]; exact hc j u hu) h1 h63 hbytes hbase
  refine wpList_plain hgd fun _ hK => ?_
  unfold Oper.wp execOp
  simp only [ho, resolve, invoke, builtin, Sem.run_bind, Sem.run_pure, Result.andThen_ok, List.map_toArray, List.map_cons, List.map_nil, hs, hx, hrun]
  exact hK _ _ (h v' w' (by unfold OwnSl; rw [flat_snoc, List.length_append]; exact k2) k3)
def ExprPost (w : World) (l : List C10) (e : Ending) (w' : World) : Prop := ∃ v, e = .returned v ∧ OwnSl 40 10 enc10 w' w.heap.size v l ∧ Below w.heap.size w w'
def nodeC (v0 v1 v2 vc : Value) (ce cb : C10) (t : List Value) : List Value := [v0, v1, v2, vc] ++ ce.cs ++ (cb.cs ++ t)
theorem nodeC_at {w : World} {p : Nat} {v0 v1 v2 vc : Value} {ce cb : C10} {t : List Value} (h : w.rangeAt p 0 (nodeC v0 v1 v2 vc ce cb t)) : w.cell? ⟨p, 3, none⟩ = some vc ∧ w.rangeAt p 4 ce.cs ∧ w.rangeAt p 14 cb.cs := by
  refine ⟨?_, ?_, ?_⟩
  · have := h 3 vc rfl; rwa [Nat.zero_add] at this
  · exact range_sub (p := [v0, v1, v2, vc]) (q := cb.cs ++ t) h 4 rfl
  · exact range_sub (p := [v0, v1, v2, vc] ++ ce.cs) (cs := cb.cs) (q := t) (by unfold nodeC at h; rw [← List.append_assoc] at h; exact h) 14 (by rw [List.length_append, ce.len]; rfl)
theorem nodeC_len (v0 v1 v2 vc : Value) (ce cb : C10) {t : List Value} (ht : t.length = 5) : (nodeC v0 v1 v2 vc ce cb t).length = 29 := by
  unfold nodeC; simp [ce.len, cb.len, ht]
theorem filter_le {l : List C10} {p : C10 → Bool} {n : Nat} (h : l.length ≤ n) : (l.filter p).length ≤ n := Nat.le_trans (List.length_filter_le _ _) h
set_option maxHeartbeats 8000000 in
set_option maxRecDepth 100000 in
theorem exprs_any (Q : List C10) (ce cb : C10) (v0 v1 v2 vc : Value) (t : List Value) (w : World) (hq : SlAt w w.heap.size 10 Raw10 vc Q) (hok : ∀ q ∈ Q ++ [ce, cb], OkC q) (hlen : Q.length ≤ 40) :
    Calls Tryz.prog 12 #[.agg ⟨nodeC v0 v1 v2 vc ce cb t⟩] w (ExprPost w ((Q ++ [ce, cb]).filter nzC)) := by
  obtain ⟨hql, A, c, rfl, hA⟩ := hq
  have HA := Lib.hid hA
  have HOK := Lib.hid (fun q h => hok q (List.mem_append.2 (.inl h)))
  have HOKE := Lib.hid (hok ce (by simp))
  have HOKB := Lib.hid (hok cb (by simp))
  have HLEN := Lib.hid hlen
  obtain ⟨j0, hi, hz0, hz1, hz2⟩ := info_parts' info_expr
  have HJ0 := Lib.hid hi
  have HY0 := Lib.hid hz0
  have HY1 := Lib.hid hz1
  have HY2 := Lib.hid hz2
  obtain ⟨R, hR⟩ : ∃ R, (Q ++ [ce, cb]).filter nzC = R := ⟨_, rfl⟩
  rw [hR]
  have HRR := Lib.hid hR
  clear hA hok hlen hi hz0 hz1 hz2 hR
  have hql2 : (Q.length : Int) ≤ 9223372036854775807 := by omega
  go_enter Tryz.func12, Tryz.ntmps12
  go_upto_region 1 with (fail)
  have HB := Lib.hid (box_below w (.cells ⟨nodeC v0 v1 v2 (.slice A Q.length c) ce cb t⟩ 42))
  have HS := Lib.hid (box_size w (.cells ⟨nodeC v0 v1 v2 (.slice A Q.length c) ce cb t⟩ 42))
  have HN := Lib.hid (nodeC_at (range_box w (nodeC v0 v1 v2 (.slice A Q.length c) ce cb t) 42))
  generalize w.alloc (.cells ⟨nodeC v0 v1 v2 (.slice A Q.length c) ce cb t⟩ 42) = W at *
  have d3 := HN.out.1
  obtain ⟨p1, hp1⟩ : ∃ p1, w.heap.size = p1 := ⟨_, rfl⟩
  have HPB : Hid (w.heap.size = p1) := Lib.hid hp1
  have HN' := Lib.hid (hp1 ▸ HN.out)
  have HS' := Lib.hid (hp1 ▸ HS.out)
  rw [hp1] at d3
  rw [hp1]
  clear HN HS hp1
  go_wp2
  clear d3
  go_loopg [2, 8] Q.length (fun g v i u => ∃ j : Nat, j + g = Q.length ∧ i = .int .i64 j ∧ OwnSl 40 10 enc10 u W.heap.size v ((Q.take j).filter nzC) ∧ Below W.heap.size W u)
  case atStart => exact ⟨0, by omega, rfl, OwnSl.nil _ _, Below.refl _ _⟩
  case round =>
    obtain ⟨j, hj, rfl, hown, hb⟩ := hrel
    have HO := Lib.hid hown
    have HBK := Lib.hid hb
    clear hown hb
    cases gk with
    | succ q =>
      have hlt : (j : Int) < (Q.length : Int) := by omega
      obtain ⟨x, hx⟩ : ∃ x, Q[j]? = some x := ⟨_, List.getElem?_eq_getElem (by omega)⟩
      obtain ⟨b, o, rfl, hbl, hc⟩ := HA.out (by omega)
      have HRE : Hid (wr.rangeAt b (o + j * 10) x.cs) := Lib.hid (by
        obtain ⟨ks, h1, h2, h3⟩ := hc j x hx
        have h3' : ks = x.cs := h3
        subst h3'
        exact rangeAt_below h2 (HB.out.trans (HBK.out.mono HB.out.size)) hbl)
      have HOX := Lib.hid (HOK.out x (List.mem_of_getElem? hx))
      have HF := Lib.hid (filter_take (p := nzC) hx)
      have HXL := Lib.hid x.len
      have HLL : Hid (((Q.take j).filter nzC).length ≤ 40) := Lib.hid (filter_le (Nat.le_trans (by rw [List.length_take]; exact Nat.min_le_right _ _) HLEN.out))
      clear hc hx
      go_upto_region 4 with (first | ((with_reducible refine wl_sload 40 _ rfl ?hwa b (o + j * 10) x.cs _ rfl HRE.out Tryz.underlying40 rfl ?hia ?_); (case hwa => (first | exact wanted_none rfl | exact wanted_if rfl rfl rfl rfl)); (case hia => rw [HXL.out]; kernel_rfl)) | ((with_reducible refine wl_sbox 40 _ _ rfl ?hw wr ?z x.cs ?hwld ?hz ?hx ?hy ?hi ?h1 ?_); (case hwld => rfl); (case hx => rfl); (case hy => rfl); (case hw => (first | exact wanted_none rfl | exact wanted_if rfl rfl rfl rfl)); (case hz => exact HXL.out); (case hi => rw [HXL.out]; kernel_rfl); (case h1 => exact HOX.out.2); intro Z hbx; have HX := Lib.hid hbx; clear hbx))
      have HBZ := Lib.hid (HBK.out.trans (HX.out.below.mono HBK.out.size))
      have HOZ := Lib.hid (HO.out.below HX.out.below)
      have HRZ := Lib.hid HX.out.range
      obtain ⟨eb, heb⟩ : ∃ eb, wr.heap.size = eb := ⟨_, rfl⟩
      have d0 : Z.cell? ⟨eb, 0, none⟩ = some (.int .i64 (kindC x)) := heb ▸ HX.out.cell 0 HOX.out.1
      rw [heb] at HRZ
      rw [heb]
      clear heb HX HRE
      by_cases hk : kindC x = 0
      · have t1 : (kindC x != 0) = false := by rw [hk]; rfl
        have HN2 : Hid ((Q.take (j + 1)).filter nzC = (Q.take j).filter nzC) := Lib.hid (by rw [HF.out, if_neg (by unfold nzC; rw [t1]; decide), List.append_nil])
        generalize kindC x = kx at *
        clear hk
        go_wp2
        go_roundg q
        case measure => omega
        case rel => exact ⟨j + 1, by omega, by go_num, by rw [HN2.out]; exact HOZ.out, HBZ.out⟩
      · have t1 : (kindC x != 0) = true := by simpa using hk
        have HN2 : Hid ((Q.take (j + 1)).filter nzC = (Q.take j).filter nzC ++ [x]) := Lib.hid (by rw [HF.out, if_pos (by unfold nzC; exact t1)])
        clear hk
        have HWZ := Lib.hid (HOZ.out.below (box_below Z (.cells ⟨x.cs⟩ 40)))
        have HCX : Hid (∀ i u, (enc10 x)[i]? = some u → (Z.alloc (.cells ⟨x.cs⟩ 40)).cell? ⟨Z.heap.size, i, none⟩ = some u) := Lib.hid (cells_box Z x.cs 40)
        have HBX := Lib.hid (HBZ.out.alloc HBZ.out.size (.cells ⟨x.cs⟩ 40))
        have HK1 : Hid (((Q.take j).filter nzC).length + 1 ≤ maxLen) := Lib.hid (by have := HLL.out; unfold maxLen; omega)
        have HK2 : Hid ((((Q.take j).filter nzC).length + 1) * 160 ≤ 140737488355328) := Lib.hid (by have := HLL.out; omega)
        have HQL := Lib.hid x.len
        go_wp2_with (first | ((with_reducible refine wl_sload 40 _ rfl ?hwa eb 0 x.cs _ rfl HRZ.out Tryz.underlying40 rfl ?hia ?_); (case hwa => (first | exact wanted_none rfl | exact wanted_if rfl rfl rfl rfl)); (case hia => rw [HQL.out]; kernel_rfl)) | ((with_reducible refine wl_build1 33 _ rfl ?hw3 40 j0 _ x.cs ?hx3 Tryz.underlying33 HJ0.out HY0.out ?hs3 ?h03 ?hm3 ?_); (case hw3 => (first | exact wanted_none rfl | exact wanted_if rfl rfl rfl rfl)); (case hx3 => rfl); (case hs3 => rw [HQL.out]; exact HY1.out); (case h03 => rw [HQL.out]; decide); (case hm3 => rw [HQL.out]; decide)) | (at_builtin; (refine wl_pushE rfl _ _ 33 rfl W.heap.size 40 j0 _ 10 160 enc10 Tryz.underlying33 HJ0.out HY0.out HY1.out HY2.out rfl (by decide) enc10_len _ _ rfl HWZ.out Z.heap.size 1 x HOX.out.2 rfl HCX.out HK1.out HK2.out HBX.out.size ?_; intro v6 w6 hown hg; have HO6 := Lib.hid hown; have HG6 := Lib.hid hg; clear hown hg)))
        have HB6 := Lib.hid (push_below HBX.out HBX.out.size HWZ.out (Nat.le_refl _) HG6.out)
        clear HWZ HCX HBX HK1 HK2 HQL HG6
        go_roundg q
        case measure => omega
        case rel => exact ⟨j + 1, by omega, by go_num, by rw [HN2.out]; exact HO6.out, HB6.out⟩
    | zero =>
      obtain rfl : j = Q.length := by omega
      have hge : ¬ ((Q.length : Int) < (Q.length : Int)) := by omega
      have HTK : Hid ((Q.take Q.length).filter nzC = Q.filter nzC) := Lib.hid (by rw [List.take_length])
      have HO1 : Hid (OwnSl 40 10 enc10 wr W.heap.size u2 (Q.filter nzC)) := Lib.hid (HTK.out ▸ HO.out)
      have HNE := Lib.hid (rangeAt_below HN'.out.2.1 HBK.out HS'.out)
      have HNB := Lib.hid (rangeAt_below HN'.out.2.2 HBK.out HS'.out)
      have HLL : Hid ((Q.filter nzC).length ≤ 40) := Lib.hid (filter_le HLEN.out)
      have de : wr.cell? ⟨p1, 4, none⟩ = some (.int .i64 (kindC ce)) := by have := HNE.out 0 _ HOKE.out.1; simpa using this
      have db : wr.cell? ⟨p1, 14, none⟩ = some (.int .i64 (kindC cb)) := by have := HNB.out 0 _ HOKB.out.1; simpa using this
      have HFA : Hid (R = Q.filter nzC ++ ((if nzC ce = true then [ce] else []) ++ (if nzC cb = true then [cb] else []))) := Lib.hid (by
        rw [← HRR.out, List.filter_append]
        congr 1
        simp only [List.filter_cons, List.filter_nil]
        split <;> split <;> rfl)
      clear HO HTK hj
      by_cases he0 : kindC ce = 0
      · have t1 : (kindC ce != 0) = false := by rw [he0]; rfl
        clear he0
        by_cases hb0 : kindC cb = 0
        · have t2 : (kindC cb != 0) = false := by rw [hb0]; rfl
          have HFF : Hid (R = Q.filter nzC) := Lib.hid (by rw [HFA.out, if_neg (by unfold nzC; rw [t1]; decide), if_neg (by unfold nzC; rw [t2]; decide)]; simp)
          clear hb0
          generalize kindC ce = ke at *
          generalize kindC cb = kb at *
          go_wp2
          go_ret
          exact ⟨_, rfl, by rw [HFF.out]; exact (HO1.out).mono HB.out.size, HB.out.trans ((HBK.out).mono HB.out.size)⟩
        · have t2 : (kindC cb != 0) = true := by simpa using hb0
          have HFF : Hid (R = Q.filter nzC ++ [cb]) := Lib.hid (by rw [HFA.out, if_neg (by unfold nzC; rw [t1]; decide), if_pos (by unfold nzC; exact t2)]; simp)
          clear hb0
          have HWZ := Lib.hid (HO1.out.below (box_below wr (.cells ⟨cb.cs⟩ 40)))
          have HCX : Hid (∀ i u, (enc10 cb)[i]? = some u → (wr.alloc (.cells ⟨cb.cs⟩ 40)).cell? ⟨wr.heap.size, i, none⟩ = some u) := Lib.hid (cells_box wr cb.cs 40)
          have HBX := Lib.hid (HBK.out.alloc HBK.out.size (.cells ⟨cb.cs⟩ 40))
          have HK1 : Hid ((Q.filter nzC).length + 1 ≤ maxLen) := Lib.hid (by have := HLL.out; unfold maxLen; omega)
          have HK2 : Hid (((Q.filter nzC).length + 1) * 160 ≤ 140737488355328) := Lib.hid (by have := HLL.out; omega)
          have HQL := Lib.hid cb.len
          go_wp2_with (first | ((with_reducible refine wl_sload 40 _ rfl ?hwa p1 14 cb.cs _ rfl HNB.out Tryz.underlying40 rfl ?hia ?_); (case hwa => (first | exact wanted_none rfl | exact wanted_if rfl rfl rfl rfl)); (case hia => rw [HQL.out]; kernel_rfl)) | ((with_reducible refine wl_build1 33 _ rfl ?hw3 40 j0 _ cb.cs ?hx3 Tryz.underlying33 HJ0.out HY0.out ?hs3 ?h03 ?hm3 ?_); (case hw3 => (first | exact wanted_none rfl | exact wanted_if rfl rfl rfl rfl)); (case hx3 => rfl); (case hs3 => rw [HQL.out]; exact HY1.out); (case h03 => rw [HQL.out]; decide); (case hm3 => rw [HQL.out]; decide)) | (at_builtin; (refine wl_pushE rfl _ _ 33 rfl W.heap.size 40 j0 _ 10 160 enc10 Tryz.underlying33 HJ0.out HY0.out HY1.out HY2.out rfl (by decide) enc10_len _ _ rfl HWZ.out wr.heap.size 1 cb HOKB.out.2 rfl HCX.out HK1.out HK2.out HBX.out.size ?_; intro v6 w6 hown hg; have HO6 := Lib.hid hown; have HG6 := Lib.hid hg; clear hown hg)))
          have HB6 := Lib.hid (push_below HBX.out HBX.out.size HWZ.out (Nat.le_refl _) HG6.out)
          clear HWZ HCX HBX HK1 HK2 HQL HG6
          go_ret
          exact ⟨_, rfl, by rw [HFF.out]; exact (HO6.out).mono HB.out.size, HB.out.trans ((HB6.out).mono HB.out.size)⟩
      · have t1 : (kindC ce != 0) = true := by simpa using he0
        clear he0
        have HWZ := Lib.hid (HO1.out.below (box_below wr (.cells ⟨ce.cs⟩ 40)))
        have HCX : Hid (∀ i u, (enc10 ce)[i]? = some u → (wr.alloc (.cells ⟨ce.cs⟩ 40)).cell? ⟨wr.heap.size, i, none⟩ = some u) := Lib.hid (cells_box wr ce.cs 40)
        have HBX := Lib.hid (HBK.out.alloc HBK.out.size (.cells ⟨ce.cs⟩ 40))
        have HK1 : Hid ((Q.filter nzC).length + 1 ≤ maxLen) := Lib.hid (by have := HLL.out; unfold maxLen; omega)
        have HK2 : Hid (((Q.filter nzC).length + 1) * 160 ≤ 140737488355328) := Lib.hid (by have := HLL.out; omega)
        have HQL := Lib.hid ce.len
        go_upto_region 9 with (first | ((with_reducible refine wl_sload 40 _ rfl ?hwa p1 4 ce.cs _ rfl HNE.out Tryz.underlying40 rfl ?hia ?_); (case hwa => (first | exact wanted_none rfl | exact wanted_if rfl rfl rfl rfl)); (case hia => rw [HQL.out]; kernel_rfl)) | ((with_reducible refine wl_build1 33 _ rfl ?hw3 40 j0 _ ce.cs ?hx3 Tryz.underlying33 HJ0.out HY0.out ?hs3 ?h03 ?hm3 ?_); (case hw3 => (first | exact wanted_none rfl | exact wanted_if rfl rfl rfl rfl)); (case hx3 => rfl); (case hs3 => rw [HQL.out]; exact HY1.out); (case h03 => rw [HQL.out]; decide); (case hm3 => rw [HQL.out]; decide)) | (at_builtin; (refine wl_pushE rfl _ _ 33 rfl W.heap.size 40 j0 _ 10 160 enc10 Tryz.underlying33 HJ0.out HY0.out HY1.out HY2.out rfl (by decide) enc10_len _ _ rfl HWZ.out wr.heap.size 1 ce HOKE.out.2 rfl HCX.out HK1.out HK2.out HBX.out.size ?_; intro v6 w6 hown hg; have HO6 := Lib.hid hown; have HG6 := Lib.hid hg; clear hown hg)))
        have HB6 := Lib.hid (push_below HBX.out HBX.out.size HWZ.out (Nat.le_refl _) HG6.out)
        clear HWZ HCX HBX HK1 HK2 HQL HG6

        have HO7 := HO6
        have HB7 := HB6
        clear HO6 HB6
        have HNB7 := Lib.hid (rangeAt_below HN'.out.2.2 HB7.out HS'.out)
        have db7 : w6.cell? ⟨p1, 14, none⟩ = some (.int .i64 (kindC cb)) := by have := HNB7.out 0 _ HOKB.out.1; simpa using this
        have HLL2 := HLL
        clear HLL
        have HLL : Hid ((Q.filter nzC ++ [ce]).length ≤ 41) := Lib.hid (by rw [List.length_append]; have := HLL2.out; simp; omega)
        clear de db HLL2
        by_cases hb0 : kindC cb = 0
        · have t2 : (kindC cb != 0) = false := by rw [hb0]; rfl
          have HFF : Hid (R = Q.filter nzC ++ [ce]) := Lib.hid (by rw [HFA.out, if_pos (by unfold nzC; exact t1), if_neg (by unfold nzC; rw [t2]; decide)]; simp)
          clear hb0
          generalize kindC cb = kb at *
          go_wp2
          go_ret
          exact ⟨_, rfl, by rw [HFF.out]; exact (HO7.out).mono HB.out.size, HB.out.trans ((HB7.out).mono HB.out.size)⟩
        · have t2 : (kindC cb != 0) = true := by simpa using hb0
          have HFF : Hid (R = Q.filter nzC ++ [ce] ++ [cb]) := Lib.hid (by rw [HFA.out, if_pos (by unfold nzC; exact t1), if_pos (by unfold nzC; exact t2)]; simp)
          clear hb0
          have HWZ := Lib.hid (HO7.out.below (box_below w6 (.cells ⟨cb.cs⟩ 40)))
          have HCX : Hid (∀ i u, (enc10 cb)[i]? = some u → (w6.alloc (.cells ⟨cb.cs⟩ 40)).cell? ⟨w6.heap.size, i, none⟩ = some u) := Lib.hid (cells_box w6 cb.cs 40)
          have HBX := Lib.hid (HB7.out.alloc HB7.out.size (.cells ⟨cb.cs⟩ 40))
          have HK1 : Hid ((Q.filter nzC ++ [ce]).length + 1 ≤ maxLen) := Lib.hid (by have := HLL.out; unfold maxLen; omega)
          have HK2 : Hid (((Q.filter nzC ++ [ce]).length + 1) * 160 ≤ 140737488355328) := Lib.hid (by have := HLL.out; omega)
          have HQL := Lib.hid cb.len
          go_wp2_with (first | ((with_reducible refine wl_sload 40 _ rfl ?hwa p1 14 cb.cs _ rfl HNB7.out Tryz.underlying40 rfl ?hia ?_); (case hwa => (first | exact wanted_none rfl | exact wanted_if rfl rfl rfl rfl)); (case hia => rw [HQL.out]; kernel_rfl)) | ((with_reducible refine wl_build1 33 _ rfl ?hw3 40 j0 _ cb.cs ?hx3 Tryz.underlying33 HJ0.out HY0.out ?hs3 ?h03 ?hm3 ?_); (case hw3 => (first | exact wanted_none rfl | exact wanted_if rfl rfl rfl rfl)); (case hx3 => rfl); (case hs3 => rw [HQL.out]; exact HY1.out); (case h03 => rw [HQL.out]; decide); (case hm3 => rw [HQL.out]; decide)) | (at_builtin; (refine wl_pushE rfl _ _ 33 rfl W.heap.size 40 j0 _ 10 160 enc10 Tryz.underlying33 HJ0.out HY0.out HY1.out HY2.out rfl (by decide) enc10_len _ _ rfl HWZ.out w6.heap.size 1 cb HOKB.out.2 rfl HCX.out HK1.out HK2.out HBX.out.size ?_; intro v6 w6 hown hg; have HO6 := Lib.hid hown; have HG6 := Lib.hid hg; clear hown hg)))
          have HB6 := Lib.hid (push_below HBX.out HBX.out.size HWZ.out (Nat.le_refl _) HG6.out)
          clear HWZ HCX HBX HK1 HK2 HQL HG6
          go_ret
          exact ⟨_, rfl, by rw [HFF.out]; exact (HO6.out).mono HB.out.size, HB.out.trans ((HB6.out).mono HB.out.size)⟩
end Go.Proofs.YtlfefikhmdbbfaaGreat
