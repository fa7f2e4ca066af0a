/- Parts of a proof: RSamN2, RSamN5, RSamO, RSamM. -/
import Derived.Test.YtpmjcbjdcjjplaaGreatPack43
import Derived.Test.YtpmjcbjdcjjplaaGreatPack55
section
namespace Go.Proofs.YtpmjcbjdcjjplaaGreat
open Go Go.RowKit
set_option linter.unusedVariables false
set_option linter.unusedSimpArgs false
set_option maxHeartbeats 16000000 in
set_option maxRecDepth 100000 in
theorem rnode_f4 (x y : NodeT) (X Y : List Value) (w : World) (hx : NodeAt w w.heap.size X x) (hy : NodeAt w w.heap.size Y y) (hk0 : (x.kind == y.kind) = true) (hk1 : (x.label == y.label) = true) (hk2 : (x.next == y.next) = true) (hk3 : ((x.conds.length : Int) == y.conds.length) = true) (hk4 : sameE x.expr y.expr = false) :
    Calls Tryz.prog 27 #[.agg ⟨X⟩, .agg ⟨Y⟩] w fun e w' => e = .returned (.bool (sameNd x y)) ∧ Below w.heap.size w w' := by
  obtain ⟨⟨vn, vc, ce, cb, hX, hce, hcb, hnx, hcs, hcl, hex, hbd⟩, _⟩ := hx
  have HNX := Lib.hid hnx
  have HCS := Lib.hid hcs
  obtain ⟨hn1, NA, nc, rfl, hna⟩ := hnx
  obtain ⟨hn2, CA, cc, rfl, hca⟩ := hcs
  have HX : Hid (X = [.int .i64 x.kind, .int .i64 x.label, .slice NA x.next.length nc, .slice CA x.conds.length cc] ++ (ce ++ (cb ++ [.int .i64 x.var, .int .i64 x.msg, .int .i64 x.catch_, .int .i64 x.wait, .int .i64 x.from_]))) := Lib.hid (by rw [hX]; simp)
  have HX2 : Hid (X = ([.int .i64 x.kind, .int .i64 x.label, .slice NA x.next.length nc, .slice CA x.conds.length cc] ++ ce) ++ (cb ++ [.int .i64 x.var, .int .i64 x.msg, .int .i64 x.catch_, .int .i64 x.wait, .int .i64 x.from_])) := Lib.hid (by rw [HX.out, List.append_assoc])
  have HL : Hid (([.int .i64 x.kind, .int .i64 x.label, .slice NA x.next.length nc, .slice CA x.conds.length cc] ++ ce : List Value).length = 14) := Lib.hid (by rw [List.length_append, hce]; rfl)
  have HCE := Lib.hid hce
  have HCB := Lib.hid hcb
  have HEX := Lib.hid (And.intro hex hbd)
  have HCA := Lib.hid hca
  have HCN : Hid (x.conds.length ≤ maxLen) := Lib.hid hcl
  clear hX hce hcb hcl hex hbd hna hca hn1 hn2
  obtain ⟨⟨vn', vc', de, db, hY, hce', hcb', hnx', hcs', hcl', hex', hbd'⟩, _⟩ := hy
  have HNX' := Lib.hid hnx'
  have HCS' := Lib.hid hcs'
  obtain ⟨hn1', MA, nd, rfl, hna'⟩ := hnx'
  obtain ⟨hn2', DA, cd, rfl, hca'⟩ := hcs'
  have HY : Hid (Y = [.int .i64 y.kind, .int .i64 y.label, .slice MA y.next.length nd, .slice DA y.conds.length cd] ++ (de ++ (db ++ [.int .i64 y.var, .int .i64 y.msg, .int .i64 y.catch_, .int .i64 y.wait, .int .i64 y.from_]))) := Lib.hid (by rw [hY]; simp)
  have HY2 : Hid (Y = ([.int .i64 y.kind, .int .i64 y.label, .slice MA y.next.length nd, .slice DA y.conds.length cd] ++ de) ++ (db ++ [.int .i64 y.var, .int .i64 y.msg, .int .i64 y.catch_, .int .i64 y.wait, .int .i64 y.from_])) := Lib.hid (by rw [HY.out, List.append_assoc])
  have HL' : Hid (([.int .i64 y.kind, .int .i64 y.label, .slice MA y.next.length nd, .slice DA y.conds.length cd] ++ de : List Value).length = 14) := Lib.hid (by rw [List.length_append, hce']; rfl)
  have HCE' := Lib.hid hce'
  have HCB' := Lib.hid hcb'
  have HEX' := Lib.hid (And.intro hex' hbd')
  have HCA' := Lib.hid hca'
  have HCN' : Hid (y.conds.length ≤ maxLen) := Lib.hid hcl'
  clear hY hce' hcb' hcl' hex' hbd' hna' hca' hn1' hn2'
  obtain ⟨f0, f1, f2, f3, f4, f5, f6, f7, f8, f9, rfl⟩ := list10M HCE.out
  obtain ⟨g0, g1, g2, g3, g4, g5, g6, g7, g8, g9, rfl⟩ := list10M HCE'.out
  obtain ⟨k0, k1, k2, k3, k4, k5, k6, k7, k8, k9, rfl⟩ := list10M HCB.out
  obtain ⟨l0, l1, l2, l3, l4, l5, l6, l7, l8, l9, rfl⟩ := list10M HCB'.out
  have HO : Hid (sameNd x y = ((x.kind == y.kind) && ((x.label == y.label) && ((x.next == y.next) && (((x.conds.length : Int) == y.conds.length) && (sameE x.expr y.expr && (sameE x.body y.body && ((x.var == y.var) && ((x.msg == y.msg) && ((x.catch_ == y.catch_) && ((x.wait == y.wait) && ((x.from_ == y.from_) && sameEL x.conds y.conds)))))))))))) := Lib.hid (sameNd_ref x y)
  generalize sameNd x y = res at HO ⊢
  go_enter Tryz.func27, Tryz.ntmps27
  go_upto_region 1 with (fail)
  have HTB := Lib.hid (twoP_start 42 w X Y)
  generalize (w.alloc (.cells ⟨X⟩ 42)).alloc (.cells ⟨Y⟩ 42) = W at *
  obtain ⟨pb, hpb⟩ : ∃ pb, w.heap.size + 1 = pb := ⟨_, rfl⟩
  rw [hpb] at HTB
  rw [hpb]
  clear hpb
  have ra0 := HTB.out.ca 0 (v := .int .i64 x.kind) (by rw [HX.out]; rfl)
  have rb0 := HTB.out.cb 0 (v := .int .i64 y.kind) (by rw [HY.out]; rfl)
  have ra1 := HTB.out.ca 1 (v := .int .i64 x.label) (by rw [HX.out]; rfl)
  have rb1 := HTB.out.cb 1 (v := .int .i64 y.label) (by rw [HY.out]; rfl)
  have p2_ := HTB.out.ca 2 (v := (.slice NA x.next.length nc)) (by rw [HX.out]; rfl)
  have q2_ := HTB.out.cb 2 (v := (.slice MA y.next.length nd)) (by rw [HY.out]; rfl)
  have hn0 : (x.kind != y.kind) = false := by rw [bne, hk0]; rfl
  have hn1 : (x.label != y.label) = false := by rw [bne, hk1]; rfl
  have HC2 : Hid (∀ z, Below W.heap.size W z → Calls Tryz.prog 10 #[(.slice NA x.next.length nc), (.slice MA y.next.length nd)] z fun e w' => e = .returned (.bool ((x.next == y.next))) ∧ Below z.heap.size z w') := Lib.hid fun z hz => by
    have hz2 := HTB.out.bel.trans (hz.mono HTB.out.bel.size)
    exact (same_any _ _ _ _ z.heap.size z (intsR ((HNX.out.below hz2 (fun _ _ _ h2 => h2)).more hz2.size)) (intsR ((HNX'.out.below hz2 (fun _ _ _ h2 => h2)).more hz2.size))).mono fun e w' h => ⟨h.1, by obtain ⟨m, rfl⟩ := h.2; exact below_drewN (Below.refl _ _) m⟩
  rw [hk2] at HC2
  have hn3 : ((x.conds.length : Int) != y.conds.length) = false := by rw [bne, hk3]; rfl
  have HC4 : Hid (∀ z, Below W.heap.size W z → Calls Tryz.prog 53 #[.agg ⟨[f0, f1, f2, f3, f4, f5, f6, f7, f8, f9]⟩, .agg ⟨[g0, g1, g2, g3, g4, g5, g6, g7, g8, g9]⟩] z fun e w' => e = .returned (.bool (sameE x.expr y.expr)) ∧ Below z.heap.size z w') := Lib.hid fun z hz => by
    have hz2 := HTB.out.bel.trans (hz.mono HTB.out.bel.size)
    exact resame_any _ _ _ _ z ((HEX.out.1.under hz2).more hz2.size) ((HEX'.out.1.under hz2).more hz2.size)
  rw [hk4] at HC4
  have HV : Hid (res = false) := Lib.hid (by rw [HO.out, hk0, hk1, hk2, hk3, hk4]; rfl)
  clear hk2 hk4
  go_wp2_with (first | (go_at_call 53; refine (HC4.out z2 HB2.out).mono ?_; rintro e z4 ⟨rfl, hb4⟩; have HB4 := Lib.hid (HB2.out.trans (hb4.mono HB2.out.size)); have u14_4 := (HTB.out.on HB4.out).ca 14 (v := k0) (by rw [HX.out]; rfl); have u15_4 := (HTB.out.on HB4.out).ca 15 (v := k1) (by rw [HX.out]; rfl); have u16_4 := (HTB.out.on HB4.out).ca 16 (v := k2) (by rw [HX.out]; rfl); have u17_4 := (HTB.out.on HB4.out).ca 17 (v := k3) (by rw [HX.out]; rfl); have u18_4 := (HTB.out.on HB4.out).ca 18 (v := k4) (by rw [HX.out]; rfl); have u19_4 := (HTB.out.on HB4.out).ca 19 (v := k5) (by rw [HX.out]; rfl); have u20_4 := (HTB.out.on HB4.out).ca 20 (v := k6) (by rw [HX.out]; rfl); have u21_4 := (HTB.out.on HB4.out).ca 21 (v := k7) (by rw [HX.out]; rfl); have u22_4 := (HTB.out.on HB4.out).ca 22 (v := k8) (by rw [HX.out]; rfl); have u23_4 := (HTB.out.on HB4.out).ca 23 (v := k9) (by rw [HX.out]; rfl); have v14_4 := (HTB.out.on HB4.out).cb 14 (v := l0) (by rw [HY.out]; rfl); have v15_4 := (HTB.out.on HB4.out).cb 15 (v := l1) (by rw [HY.out]; rfl); have v16_4 := (HTB.out.on HB4.out).cb 16 (v := l2) (by rw [HY.out]; rfl); have v17_4 := (HTB.out.on HB4.out).cb 17 (v := l3) (by rw [HY.out]; rfl); have v18_4 := (HTB.out.on HB4.out).cb 18 (v := l4) (by rw [HY.out]; rfl); have v19_4 := (HTB.out.on HB4.out).cb 19 (v := l5) (by rw [HY.out]; rfl); have v20_4 := (HTB.out.on HB4.out).cb 20 (v := l6) (by rw [HY.out]; rfl); have v21_4 := (HTB.out.on HB4.out).cb 21 (v := l7) (by rw [HY.out]; rfl); have v22_4 := (HTB.out.on HB4.out).cb 22 (v := l8) (by rw [HY.out]; rfl); have v23_4 := (HTB.out.on HB4.out).cb 23 (v := l9) (by rw [HY.out]; rfl); clear hb4) | (go_at_call 10; refine (HC2.out W (Below.refl _ _)).mono ?_; rintro e z2 ⟨rfl, hb2⟩; have HB2 := Lib.hid hb2; have p3_2 := (HTB.out.on HB2.out).ca 3 (v := (.slice CA x.conds.length cc)) (by rw [HX.out]; rfl); have q3_2 := (HTB.out.on HB2.out).cb 3 (v := (.slice DA y.conds.length cd)) (by rw [HY.out]; rfl); have u4_2 := (HTB.out.on HB2.out).ca 4 (v := f0) (by rw [HX.out]; rfl); have u5_2 := (HTB.out.on HB2.out).ca 5 (v := f1) (by rw [HX.out]; rfl); have u6_2 := (HTB.out.on HB2.out).ca 6 (v := f2) (by rw [HX.out]; rfl); have u7_2 := (HTB.out.on HB2.out).ca 7 (v := f3) (by rw [HX.out]; rfl); have u8_2 := (HTB.out.on HB2.out).ca 8 (v := f4) (by rw [HX.out]; rfl); have u9_2 := (HTB.out.on HB2.out).ca 9 (v := f5) (by rw [HX.out]; rfl); have u10_2 := (HTB.out.on HB2.out).ca 10 (v := f6) (by rw [HX.out]; rfl); have u11_2 := (HTB.out.on HB2.out).ca 11 (v := f7) (by rw [HX.out]; rfl); have u12_2 := (HTB.out.on HB2.out).ca 12 (v := f8) (by rw [HX.out]; rfl); have u13_2 := (HTB.out.on HB2.out).ca 13 (v := f9) (by rw [HX.out]; rfl); have v4_2 := (HTB.out.on HB2.out).cb 4 (v := g0) (by rw [HY.out]; rfl); have v5_2 := (HTB.out.on HB2.out).cb 5 (v := g1) (by rw [HY.out]; rfl); have v6_2 := (HTB.out.on HB2.out).cb 6 (v := g2) (by rw [HY.out]; rfl); have v7_2 := (HTB.out.on HB2.out).cb 7 (v := g3) (by rw [HY.out]; rfl); have v8_2 := (HTB.out.on HB2.out).cb 8 (v := g4) (by rw [HY.out]; rfl); have v9_2 := (HTB.out.on HB2.out).cb 9 (v := g5) (by rw [HY.out]; rfl); have v10_2 := (HTB.out.on HB2.out).cb 10 (v := g6) (by rw [HY.out]; rfl); have v11_2 := (HTB.out.on HB2.out).cb 11 (v := g7) (by rw [HY.out]; rfl); have v12_2 := (HTB.out.on HB2.out).cb 12 (v := g8) (by rw [HY.out]; rfl); have v13_2 := (HTB.out.on HB2.out).cb 13 (v := g9) (by rw [HY.out]; rfl); clear hb2))
  go_ret
  exact ⟨ret_bool HV.out.symm, HTB.out.bel.trans (HB4.out.mono HTB.out.bel.size)⟩
set_option maxHeartbeats 16000000 in
set_option maxRecDepth 100000 in
theorem rnode_f8 (x y : NodeT) (X Y : List Value) (w : World) (hx : NodeAt w w.heap.size X x) (hy : NodeAt w w.heap.size Y y) (hk0 : (x.kind == y.kind) = true) (hk1 : (x.label == y.label) = true) (hk2 : (x.next == y.next) = true) (hk3 : ((x.conds.length : Int) == y.conds.length) = true) (hk4 : sameE x.expr y.expr = true) (hk5 : sameE x.body y.body = true) (hk6 : (x.var == y.var) = true) (hk7 : (x.msg == y.msg) = true) (hk8 : (x.catch_ == y.catch_) = false) :
    Calls Tryz.prog 27 #[.agg ⟨X⟩, .agg ⟨Y⟩] w fun e w' => e = .returned (.bool (sameNd x y)) ∧ Below w.heap.size w w' := by
  obtain ⟨⟨vn, vc, ce, cb, hX, hce, hcb, hnx, hcs, hcl, hex, hbd⟩, _⟩ := hx
  have HNX := Lib.hid hnx
  have HCS := Lib.hid hcs
  obtain ⟨hn1, NA, nc, rfl, hna⟩ := hnx
  obtain ⟨hn2, CA, cc, rfl, hca⟩ := hcs
  have HX : Hid (X = [.int .i64 x.kind, .int .i64 x.label, .slice NA x.next.length nc, .slice CA x.conds.length cc] ++ (ce ++ (cb ++ [.int .i64 x.var, .int .i64 x.msg, .int .i64 x.catch_, .int .i64 x.wait, .int .i64 x.from_]))) := Lib.hid (by rw [hX]; simp)
  have HX2 : Hid (X = ([.int .i64 x.kind, .int .i64 x.label, .slice NA x.next.length nc, .slice CA x.conds.length cc] ++ ce) ++ (cb ++ [.int .i64 x.var, .int .i64 x.msg, .int .i64 x.catch_, .int .i64 x.wait, .int .i64 x.from_])) := Lib.hid (by rw [HX.out, List.append_assoc])
  have HL : Hid (([.int .i64 x.kind, .int .i64 x.label, .slice NA x.next.length nc, .slice CA x.conds.length cc] ++ ce : List Value).length = 14) := Lib.hid (by rw [List.length_append, hce]; rfl)
  have HCE := Lib.hid hce
  have HCB := Lib.hid hcb
  have HEX := Lib.hid (And.intro hex hbd)
  have HCA := Lib.hid hca
  have HCN : Hid (x.conds.length ≤ maxLen) := Lib.hid hcl
  clear hX hce hcb hcl hex hbd hna hca hn1 hn2
  obtain ⟨⟨vn', vc', de, db, hY, hce', hcb', hnx', hcs', hcl', hex', hbd'⟩, _⟩ := hy
  have HNX' := Lib.hid hnx'
  have HCS' := Lib.hid hcs'
  obtain ⟨hn1', MA, nd, rfl, hna'⟩ := hnx'
  obtain ⟨hn2', DA, cd, rfl, hca'⟩ := hcs'
  have HY : Hid (Y = [.int .i64 y.kind, .int .i64 y.label, .slice MA y.next.length nd, .slice DA y.conds.length cd] ++ (de ++ (db ++ [.int .i64 y.var, .int .i64 y.msg, .int .i64 y.catch_, .int .i64 y.wait, .int .i64 y.from_]))) := Lib.hid (by rw [hY]; simp)
  have HY2 : Hid (Y = ([.int .i64 y.kind, .int .i64 y.label, .slice MA y.next.length nd, .slice DA y.conds.length cd] ++ de) ++ (db ++ [.int .i64 y.var, .int .i64 y.msg, .int .i64 y.catch_, .int .i64 y.wait, .int .i64 y.from_])) := Lib.hid (by rw [HY.out, List.append_assoc])
  have HL' : Hid (([.int .i64 y.kind, .int .i64 y.label, .slice MA y.next.length nd, .slice DA y.conds.length cd] ++ de : List Value).length = 14) := Lib.hid (by rw [List.length_append, hce']; rfl)
  have HCE' := Lib.hid hce'
  have HCB' := Lib.hid hcb'
  have HEX' := Lib.hid (And.intro hex' hbd')
  have HCA' := Lib.hid hca'
  have HCN' : Hid (y.conds.length ≤ maxLen) := Lib.hid hcl'
  clear hY hce' hcb' hcl' hex' hbd' hna' hca' hn1' hn2'
  obtain ⟨f0, f1, f2, f3, f4, f5, f6, f7, f8, f9, rfl⟩ := list10M HCE.out
  obtain ⟨g0, g1, g2, g3, g4, g5, g6, g7, g8, g9, rfl⟩ := list10M HCE'.out
  obtain ⟨k0, k1, k2, k3, k4, k5, k6, k7, k8, k9, rfl⟩ := list10M HCB.out
  obtain ⟨l0, l1, l2, l3, l4, l5, l6, l7, l8, l9, rfl⟩ := list10M HCB'.out
  have HO : Hid (sameNd x y = ((x.kind == y.kind) && ((x.label == y.label) && ((x.next == y.next) && (((x.conds.length : Int) == y.conds.length) && (sameE x.expr y.expr && (sameE x.body y.body && ((x.var == y.var) && ((x.msg == y.msg) && ((x.catch_ == y.catch_) && ((x.wait == y.wait) && ((x.from_ == y.from_) && sameEL x.conds y.conds)))))))))))) := Lib.hid (sameNd_ref x y)
  generalize sameNd x y = res at HO ⊢
  go_enter Tryz.func27, Tryz.ntmps27
  go_upto_region 1 with (fail)
  have HTB := Lib.hid (twoP_start 42 w X Y)
  generalize (w.alloc (.cells ⟨X⟩ 42)).alloc (.cells ⟨Y⟩ 42) = W at *
  obtain ⟨pb, hpb⟩ : ∃ pb, w.heap.size + 1 = pb := ⟨_, rfl⟩
  rw [hpb] at HTB
  rw [hpb]
  clear hpb
  have ra0 := HTB.out.ca 0 (v := .int .i64 x.kind) (by rw [HX.out]; rfl)
  have rb0 := HTB.out.cb 0 (v := .int .i64 y.kind) (by rw [HY.out]; rfl)
  have ra1 := HTB.out.ca 1 (v := .int .i64 x.label) (by rw [HX.out]; rfl)
  have rb1 := HTB.out.cb 1 (v := .int .i64 y.label) (by rw [HY.out]; rfl)
  have p2_ := HTB.out.ca 2 (v := (.slice NA x.next.length nc)) (by rw [HX.out]; rfl)
  have q2_ := HTB.out.cb 2 (v := (.slice MA y.next.length nd)) (by rw [HY.out]; rfl)
  have hn0 : (x.kind != y.kind) = false := by rw [bne, hk0]; rfl
  have hn1 : (x.label != y.label) = false := by rw [bne, hk1]; rfl
  have HC2 : Hid (∀ z, Below W.heap.size W z → Calls Tryz.prog 10 #[(.slice NA x.next.length nc), (.slice MA y.next.length nd)] z fun e w' => e = .returned (.bool ((x.next == y.next))) ∧ Below z.heap.size z w') := Lib.hid fun z hz => by
    have hz2 := HTB.out.bel.trans (hz.mono HTB.out.bel.size)
    exact (same_any _ _ _ _ z.heap.size z (intsR ((HNX.out.below hz2 (fun _ _ _ h2 => h2)).more hz2.size)) (intsR ((HNX'.out.below hz2 (fun _ _ _ h2 => h2)).more hz2.size))).mono fun e w' h => ⟨h.1, by obtain ⟨m, rfl⟩ := h.2; exact below_drewN (Below.refl _ _) m⟩
  rw [hk2] at HC2
  have hn3 : ((x.conds.length : Int) != y.conds.length) = false := by rw [bne, hk3]; rfl
  have HC4 : Hid (∀ z, Below W.heap.size W z → Calls Tryz.prog 53 #[.agg ⟨[f0, f1, f2, f3, f4, f5, f6, f7, f8, f9]⟩, .agg ⟨[g0, g1, g2, g3, g4, g5, g6, g7, g8, g9]⟩] z fun e w' => e = .returned (.bool (sameE x.expr y.expr)) ∧ Below z.heap.size z w') := Lib.hid fun z hz => by
    have hz2 := HTB.out.bel.trans (hz.mono HTB.out.bel.size)
    exact resame_any _ _ _ _ z ((HEX.out.1.under hz2).more hz2.size) ((HEX'.out.1.under hz2).more hz2.size)
  rw [hk4] at HC4
  have HC5 : Hid (∀ z, Below W.heap.size W z → Calls Tryz.prog 53 #[.agg ⟨[k0, k1, k2, k3, k4, k5, k6, k7, k8, k9]⟩, .agg ⟨[l0, l1, l2, l3, l4, l5, l6, l7, l8, l9]⟩] z fun e w' => e = .returned (.bool (sameE x.body y.body)) ∧ Below z.heap.size z w') := Lib.hid fun z hz => by
    have hz2 := HTB.out.bel.trans (hz.mono HTB.out.bel.size)
    exact resame_any _ _ _ _ z ((HEX.out.2.under hz2).more hz2.size) ((HEX'.out.2.under hz2).more hz2.size)
  rw [hk5] at HC5
  have hn6 : (x.var != y.var) = false := by rw [bne, hk6]; rfl
  have hn7 : (x.msg != y.msg) = false := by rw [bne, hk7]; rfl
  have hn8 : (x.catch_ != y.catch_) = true := by rw [bne, hk8]; rfl
  have HV : Hid (res = false) := Lib.hid (by rw [HO.out, hk0, hk1, hk2, hk3, hk4, hk5, hk6, hk7, hk8]; rfl)
  clear hk2 hk4 hk5
  go_wp2_with (first | (go_at_call 53; refine (HC5.out z4 HB4.out).mono ?_; rintro e z5 ⟨rfl, hb5⟩; have HB5 := Lib.hid (HB4.out.trans (hb5.mono HB4.out.size)); have ra2_5 := (HTB.out.on HB5.out).ca 24 (v := .int .i64 x.var) (tail_atM (i := 0) HX2.out HL.out HCB.out rfl); have rb2_5 := (HTB.out.on HB5.out).cb 24 (v := .int .i64 y.var) (tail_atM (i := 0) HY2.out HL'.out HCB'.out rfl); have ra3_5 := (HTB.out.on HB5.out).ca 25 (v := .int .i64 x.msg) (tail_atM (i := 1) HX2.out HL.out HCB.out rfl); have rb3_5 := (HTB.out.on HB5.out).cb 25 (v := .int .i64 y.msg) (tail_atM (i := 1) HY2.out HL'.out HCB'.out rfl); have ra4_5 := (HTB.out.on HB5.out).ca 26 (v := .int .i64 x.catch_) (tail_atM (i := 2) HX2.out HL.out HCB.out rfl); have rb4_5 := (HTB.out.on HB5.out).cb 26 (v := .int .i64 y.catch_) (tail_atM (i := 2) HY2.out HL'.out HCB'.out rfl); have ra5_5 := (HTB.out.on HB5.out).ca 27 (v := .int .i64 x.wait) (tail_atM (i := 3) HX2.out HL.out HCB.out rfl); have rb5_5 := (HTB.out.on HB5.out).cb 27 (v := .int .i64 y.wait) (tail_atM (i := 3) HY2.out HL'.out HCB'.out rfl); have ra6_5 := (HTB.out.on HB5.out).ca 28 (v := .int .i64 x.from_) (tail_atM (i := 4) HX2.out HL.out HCB.out rfl); have rb6_5 := (HTB.out.on HB5.out).cb 28 (v := .int .i64 y.from_) (tail_atM (i := 4) HY2.out HL'.out HCB'.out rfl); clear hb5) | (go_at_call 53; refine (HC4.out z2 HB2.out).mono ?_; rintro e z4 ⟨rfl, hb4⟩; have HB4 := Lib.hid (HB2.out.trans (hb4.mono HB2.out.size)); have u14_4 := (HTB.out.on HB4.out).ca 14 (v := k0) (by rw [HX.out]; rfl); have u15_4 := (HTB.out.on HB4.out).ca 15 (v := k1) (by rw [HX.out]; rfl); have u16_4 := (HTB.out.on HB4.out).ca 16 (v := k2) (by rw [HX.out]; rfl); have u17_4 := (HTB.out.on HB4.out).ca 17 (v := k3) (by rw [HX.out]; rfl); have u18_4 := (HTB.out.on HB4.out).ca 18 (v := k4) (by rw [HX.out]; rfl); have u19_4 := (HTB.out.on HB4.out).ca 19 (v := k5) (by rw [HX.out]; rfl); have u20_4 := (HTB.out.on HB4.out).ca 20 (v := k6) (by rw [HX.out]; rfl); have u21_4 := (HTB.out.on HB4.out).ca 21 (v := k7) (by rw [HX.out]; rfl); have u22_4 := (HTB.out.on HB4.out).ca 22 (v := k8) (by rw [HX.out]; rfl); have u23_4 := (HTB.out.on HB4.out).ca 23 (v := k9) (by rw [HX.out]; rfl); have v14_4 := (HTB.out.on HB4.out).cb 14 (v := l0) (by rw [HY.out]; rfl); have v15_4 := (HTB.out.on HB4.out).cb 15 (v := l1) (by rw [HY.out]; rfl); have v16_4 := (HTB.out.on HB4.out).cb 16 (v := l2) (by rw [HY.out]; rfl); have v17_4 := (HTB.out.on HB4.out).cb 17 (v := l3) (by rw [HY.out]; rfl); have v18_4 := (HTB.out.on HB4.out).cb 18 (v := l4) (by rw [HY.out]; rfl); have v19_4 := (HTB.out.on HB4.out).cb 19 (v := l5) (by rw [HY.out]; rfl); have v20_4 := (HTB.out.on HB4.out).cb 20 (v := l6) (by rw [HY.out]; rfl); have v21_4 := (HTB.out.on HB4.out).cb 21 (v := l7) (by rw [HY.out]; rfl); have v22_4 := (HTB.out.on HB4.out).cb 22 (v := l8) (by rw [HY.out]; rfl); have v23_4 := (HTB.out.on HB4.out).cb 23 (v := l9) (by rw [HY.out]; rfl); clear hb4) | (go_at_call 10; refine (HC2.out W (Below.refl _ _)).mono ?_; rintro e z2 ⟨rfl, hb2⟩; have HB2 := Lib.hid hb2; have p3_2 := (HTB.out.on HB2.out).ca 3 (v := (.slice CA x.conds.length cc)) (by rw [HX.out]; rfl); have q3_2 := (HTB.out.on HB2.out).cb 3 (v := (.slice DA y.conds.length cd)) (by rw [HY.out]; rfl); have u4_2 := (HTB.out.on HB2.out).ca 4 (v := f0) (by rw [HX.out]; rfl); have u5_2 := (HTB.out.on HB2.out).ca 5 (v := f1) (by rw [HX.out]; rfl); have u6_2 := (HTB.out.on HB2.out).ca 6 (v := f2) (by rw [HX.out]; rfl); have u7_2 := (HTB.out.on HB2.out).ca 7 (v := f3) (by rw [HX.out]; rfl); have u8_2 := (HTB.out.on HB2.out).ca 8 (v := f4) (by rw [HX.out]; rfl); have u9_2 := (HTB.out.on HB2.out).ca 9 (v := f5) (by rw [HX.out]; rfl); have u10_2 := (HTB.out.on HB2.out).ca 10 (v := f6) (by rw [HX.out]; rfl); have u11_2 := (HTB.out.on HB2.out).ca 11 (v := f7) (by rw [HX.out]; rfl); have u12_2 := (HTB.out.on HB2.out).ca 12 (v := f8) (by rw [HX.out]; rfl); have u13_2 := (HTB.out.on HB2.out).ca 13 (v := f9) (by rw [HX.out]; rfl); have v4_2 := (HTB.out.on HB2.out).cb 4 (v := g0) (by rw [HY.out]; rfl); have v5_2 := (HTB.out.on HB2.out).cb 5 (v := g1) (by rw [HY.out]; rfl); have v6_2 := (HTB.out.on HB2.out).cb 6 (v := g2) (by rw [HY.out]; rfl); have v7_2 := (HTB.out.on HB2.out).cb 7 (v := g3) (by rw [HY.out]; rfl); have v8_2 := (HTB.out.on HB2.out).cb 8 (v := g4) (by rw [HY.out]; rfl); have v9_2 := (HTB.out.on HB2.out).cb 9 (v := g5) (by rw [HY.out]; rfl); have v10_2 := (HTB.out.on HB2.out).cb 10 (v := g6) (by rw [HY.out]; rfl); have v11_2 := (HTB.out.on HB2.out).cb 11 (v := g7) (by rw [HY.out]; rfl); have v12_2 := (HTB.out.on HB2.out).cb 12 (v := g8) (by rw [HY.out]; rfl); have v13_2 := (HTB.out.on HB2.out).cb 13 (v := g9) (by rw [HY.out]; rfl); clear hb2))
  go_ret
  exact ⟨ret_bool HV.out.symm, HTB.out.bel.trans (HB5.out.mono HTB.out.bel.size)⟩
end Go.Proofs.YtpmjcbjdcjjplaaGreat
end
section
namespace Go.Proofs.YtpmjcbjdcjjplaaGreat
open Go Go.RowKit
set_option linter.unusedVariables false
set_option linter.unusedSimpArgs false
set_option maxHeartbeats 16000000 in
set_option maxRecDepth 100000 in
theorem rnode_all (x y : NodeT) (X Y : List Value) (w : World) (hx : NodeAt w w.heap.size X x) (hy : NodeAt w w.heap.size Y y) (hk0 : (x.kind == y.kind) = true) (hk1 : (x.label == y.label) = true) (hk2 : (x.next == y.next) = true) (hk3 : ((x.conds.length : Int) == y.conds.length) = true) (hk4 : sameE x.expr y.expr = true) (hk5 : sameE x.body y.body = true) (hk6 : (x.var == y.var) = true) (hk7 : (x.msg == y.msg) = true) (hk8 : (x.catch_ == y.catch_) = true) (hk9 : (x.wait == y.wait) = true) (hk10 : (x.from_ == y.from_) = true) :
    Calls Tryz.prog 27 #[.agg ⟨X⟩, .agg ⟨Y⟩] w fun e w' => e = .returned (.bool (sameNd x y)) ∧ Below w.heap.size w w' := by
  obtain ⟨⟨vn, vc, ce, cb, hX, hce, hcb, hnx, hcs, hcl, hex, hbd⟩, _⟩ := hx
  have HNX := Lib.hid hnx
  have HCS := Lib.hid hcs
  obtain ⟨hn1, NA, nc, rfl, hna⟩ := hnx
  obtain ⟨hn2, CA, cc, rfl, hca⟩ := hcs
  have HX : Hid (X = [.int .i64 x.kind, .int .i64 x.label, .slice NA x.next.length nc, .slice CA x.conds.length cc] ++ (ce ++ (cb ++ [.int .i64 x.var, .int .i64 x.msg, .int .i64 x.catch_, .int .i64 x.wait, .int .i64 x.from_]))) := Lib.hid (by rw [hX]; simp)
  have HX2 : Hid (X = ([.int .i64 x.kind, .int .i64 x.label, .slice NA x.next.length nc, .slice CA x.conds.length cc] ++ ce) ++ (cb ++ [.int .i64 x.var, .int .i64 x.msg, .int .i64 x.catch_, .int .i64 x.wait, .int .i64 x.from_])) := Lib.hid (by rw [HX.out, List.append_assoc])
  have HL : Hid (([.int .i64 x.kind, .int .i64 x.label, .slice NA x.next.length nc, .slice CA x.conds.length cc] ++ ce : List Value).length = 14) := Lib.hid (by rw [List.length_append, hce]; rfl)
  have HCE := Lib.hid hce
  have HCB := Lib.hid hcb
  have HEX := Lib.hid (And.intro hex hbd)
  have HCA := Lib.hid hca
  have HCN : Hid (x.conds.length ≤ maxLen) := Lib.hid hcl
  clear hX hce hcb hcl hex hbd hna hca hn1 hn2
  obtain ⟨⟨vn', vc', de, db, hY, hce', hcb', hnx', hcs', hcl', hex', hbd'⟩, _⟩ := hy
  have HNX' := Lib.hid hnx'
  have HCS' := Lib.hid hcs'
  obtain ⟨hn1', MA, nd, rfl, hna'⟩ := hnx'
  obtain ⟨hn2', DA, cd, rfl, hca'⟩ := hcs'
  have HY : Hid (Y = [.int .i64 y.kind, .int .i64 y.label, .slice MA y.next.length nd, .slice DA y.conds.length cd] ++ (de ++ (db ++ [.int .i64 y.var, .int .i64 y.msg, .int .i64 y.catch_, .int .i64 y.wait, .int .i64 y.from_]))) := Lib.hid (by rw [hY]; simp)
  have HY2 : Hid (Y = ([.int .i64 y.kind, .int .i64 y.label, .slice MA y.next.length nd, .slice DA y.conds.length cd] ++ de) ++ (db ++ [.int .i64 y.var, .int .i64 y.msg, .int .i64 y.catch_, .int .i64 y.wait, .int .i64 y.from_])) := Lib.hid (by rw [HY.out, List.append_assoc])
  have HL' : Hid (([.int .i64 y.kind, .int .i64 y.label, .slice MA y.next.length nd, .slice DA y.conds.length cd] ++ de : List Value).length = 14) := Lib.hid (by rw [List.length_append, hce']; rfl)
  have HCE' := Lib.hid hce'
  have HCB' := Lib.hid hcb'
  have HEX' := Lib.hid (And.intro hex' hbd')
  have HCA' := Lib.hid hca'
  have HCN' : Hid (y.conds.length ≤ maxLen) := Lib.hid hcl'
  clear hY hce' hcb' hcl' hex' hbd' hna' hca' hn1' hn2'
  obtain ⟨f0, f1, f2, f3, f4, f5, f6, f7, f8, f9, rfl⟩ := list10M HCE.out
  obtain ⟨g0, g1, g2, g3, g4, g5, g6, g7, g8, g9, rfl⟩ := list10M HCE'.out
  obtain ⟨k0, k1, k2, k3, k4, k5, k6, k7, k8, k9, rfl⟩ := list10M HCB.out
  obtain ⟨l0, l1, l2, l3, l4, l5, l6, l7, l8, l9, rfl⟩ := list10M HCB'.out
  have HO : Hid (sameNd x y = ((x.kind == y.kind) && ((x.label == y.label) && ((x.next == y.next) && (((x.conds.length : Int) == y.conds.length) && (sameE x.expr y.expr && (sameE x.body y.body && ((x.var == y.var) && ((x.msg == y.msg) && ((x.catch_ == y.catch_) && ((x.wait == y.wait) && ((x.from_ == y.from_) && sameEL x.conds y.conds)))))))))))) := Lib.hid (sameNd_ref x y)
  generalize sameNd x y = res at HO ⊢
  go_enter Tryz.func27, Tryz.ntmps27
  go_upto_region 1 with (fail)
  have HTB := Lib.hid (twoP_start 42 w X Y)
  generalize (w.alloc (.cells ⟨X⟩ 42)).alloc (.cells ⟨Y⟩ 42) = W at *
  obtain ⟨pb, hpb⟩ : ∃ pb, w.heap.size + 1 = pb := ⟨_, rfl⟩
  rw [hpb] at HTB
  rw [hpb]
  clear hpb
  have ra0 := HTB.out.ca 0 (v := .int .i64 x.kind) (by rw [HX.out]; rfl)
  have rb0 := HTB.out.cb 0 (v := .int .i64 y.kind) (by rw [HY.out]; rfl)
  have ra1 := HTB.out.ca 1 (v := .int .i64 x.label) (by rw [HX.out]; rfl)
  have rb1 := HTB.out.cb 1 (v := .int .i64 y.label) (by rw [HY.out]; rfl)
  have p2_ := HTB.out.ca 2 (v := (.slice NA x.next.length nc)) (by rw [HX.out]; rfl)
  have q2_ := HTB.out.cb 2 (v := (.slice MA y.next.length nd)) (by rw [HY.out]; rfl)
  have hn0 : (x.kind != y.kind) = false := by rw [bne, hk0]; rfl
  have hn1 : (x.label != y.label) = false := by rw [bne, hk1]; rfl
  have HC2 : Hid (∀ z, Below W.heap.size W z → Calls Tryz.prog 10 #[(.slice NA x.next.length nc), (.slice MA y.next.length nd)] z fun e w' => e = .returned (.bool ((x.next == y.next))) ∧ Below z.heap.size z w') := Lib.hid fun z hz => by
    have hz2 := HTB.out.bel.trans (hz.mono HTB.out.bel.size)
    exact (same_any _ _ _ _ z.heap.size z (intsR ((HNX.out.below hz2 (fun _ _ _ h2 => h2)).more hz2.size)) (intsR ((HNX'.out.below hz2 (fun _ _ _ h2 => h2)).more hz2.size))).mono fun e w' h => ⟨h.1, by obtain ⟨m, rfl⟩ := h.2; exact below_drewN (Below.refl _ _) m⟩
  rw [hk2] at HC2
  have hn3 : ((x.conds.length : Int) != y.conds.length) = false := by rw [bne, hk3]; rfl
  have HC4 : Hid (∀ z, Below W.heap.size W z → Calls Tryz.prog 53 #[.agg ⟨[f0, f1, f2, f3, f4, f5, f6, f7, f8, f9]⟩, .agg ⟨[g0, g1, g2, g3, g4, g5, g6, g7, g8, g9]⟩] z fun e w' => e = .returned (.bool (sameE x.expr y.expr)) ∧ Below z.heap.size z w') := Lib.hid fun z hz => by
    have hz2 := HTB.out.bel.trans (hz.mono HTB.out.bel.size)
    exact resame_any _ _ _ _ z ((HEX.out.1.under hz2).more hz2.size) ((HEX'.out.1.under hz2).more hz2.size)
  rw [hk4] at HC4
  have HC5 : Hid (∀ z, Below W.heap.size W z → Calls Tryz.prog 53 #[.agg ⟨[k0, k1, k2, k3, k4, k5, k6, k7, k8, k9]⟩, .agg ⟨[l0, l1, l2, l3, l4, l5, l6, l7, l8, l9]⟩] z fun e w' => e = .returned (.bool (sameE x.body y.body)) ∧ Below z.heap.size z w') := Lib.hid fun z hz => by
    have hz2 := HTB.out.bel.trans (hz.mono HTB.out.bel.size)
    exact resame_any _ _ _ _ z ((HEX.out.2.under hz2).more hz2.size) ((HEX'.out.2.under hz2).more hz2.size)
  rw [hk5] at HC5
  have hn6 : (x.var != y.var) = false := by rw [bne, hk6]; rfl
  have hn7 : (x.msg != y.msg) = false := by rw [bne, hk7]; rfl
  have hn8 : (x.catch_ != y.catch_) = false := by rw [bne, hk8]; rfl
  have hn9 : (x.wait != y.wait) = false := by rw [bne, hk9]; rfl
  have hn10 : (x.from_ != y.from_) = false := by rw [bne, hk10]; rfl
  have hbc : (x.conds.length : Int) ≤ 9223372036854775807 := by have := HCN.out; unfold maxLen at this; omega
  have hbd2 : (y.conds.length : Int) ≤ 9223372036854775807 := by have := HCN'.out; unfold maxLen at this; omega
  have HLC : Hid (x.conds.length = y.conds.length) := Lib.hid (by have := eq_of_beq hk3; omega)
  obtain ⟨rt, hrt⟩ : ∃ b, sameEL x.conds y.conds = b := ⟨_, rfl⟩
  have H1 : Hid (sameEL (x.conds.drop 0) (y.conds.drop 0) = rt) := Lib.hid hrt
  have HO2 : Hid (res = rt) := Lib.hid (by rw [HO.out, hk0, hk1, hk2, hk3, hk4, hk5, hk6, hk7, hk8, hk9, hk10, hrt]; rfl)
  clear hrt HO hk2 hk4 hk5
  go_upto_region 4 with (first | (go_at_call 53; refine (HC5.out z4 HB4.out).mono ?_; rintro e z5 ⟨rfl, hb5⟩; have HB5 := Lib.hid (HB4.out.trans (hb5.mono HB4.out.size)); have ra2_5 := (HTB.out.on HB5.out).ca 24 (v := .int .i64 x.var) (tail_atM (i := 0) HX2.out HL.out HCB.out rfl); have rb2_5 := (HTB.out.on HB5.out).cb 24 (v := .int .i64 y.var) (tail_atM (i := 0) HY2.out HL'.out HCB'.out rfl); have ra3_5 := (HTB.out.on HB5.out).ca 25 (v := .int .i64 x.msg) (tail_atM (i := 1) HX2.out HL.out HCB.out rfl); have rb3_5 := (HTB.out.on HB5.out).cb 25 (v := .int .i64 y.msg) (tail_atM (i := 1) HY2.out HL'.out HCB'.out rfl); have ra4_5 := (HTB.out.on HB5.out).ca 26 (v := .int .i64 x.catch_) (tail_atM (i := 2) HX2.out HL.out HCB.out rfl); have rb4_5 := (HTB.out.on HB5.out).cb 26 (v := .int .i64 y.catch_) (tail_atM (i := 2) HY2.out HL'.out HCB'.out rfl); have ra5_5 := (HTB.out.on HB5.out).ca 27 (v := .int .i64 x.wait) (tail_atM (i := 3) HX2.out HL.out HCB.out rfl); have rb5_5 := (HTB.out.on HB5.out).cb 27 (v := .int .i64 y.wait) (tail_atM (i := 3) HY2.out HL'.out HCB'.out rfl); have ra6_5 := (HTB.out.on HB5.out).ca 28 (v := .int .i64 x.from_) (tail_atM (i := 4) HX2.out HL.out HCB.out rfl); have rb6_5 := (HTB.out.on HB5.out).cb 28 (v := .int .i64 y.from_) (tail_atM (i := 4) HY2.out HL'.out HCB'.out rfl); clear hb5) | (go_at_call 53; refine (HC4.out z2 HB2.out).mono ?_; rintro e z4 ⟨rfl, hb4⟩; have HB4 := Lib.hid (HB2.out.trans (hb4.mono HB2.out.size)); have u14_4 := (HTB.out.on HB4.out).ca 14 (v := k0) (by rw [HX.out]; rfl); have u15_4 := (HTB.out.on HB4.out).ca 15 (v := k1) (by rw [HX.out]; rfl); have u16_4 := (HTB.out.on HB4.out).ca 16 (v := k2) (by rw [HX.out]; rfl); have u17_4 := (HTB.out.on HB4.out).ca 17 (v := k3) (by rw [HX.out]; rfl); have u18_4 := (HTB.out.on HB4.out).ca 18 (v := k4) (by rw [HX.out]; rfl); have u19_4 := (HTB.out.on HB4.out).ca 19 (v := k5) (by rw [HX.out]; rfl); have u20_4 := (HTB.out.on HB4.out).ca 20 (v := k6) (by rw [HX.out]; rfl); have u21_4 := (HTB.out.on HB4.out).ca 21 (v := k7) (by rw [HX.out]; rfl); have u22_4 := (HTB.out.on HB4.out).ca 22 (v := k8) (by rw [HX.out]; rfl); have u23_4 := (HTB.out.on HB4.out).ca 23 (v := k9) (by rw [HX.out]; rfl); have v14_4 := (HTB.out.on HB4.out).cb 14 (v := l0) (by rw [HY.out]; rfl); have v15_4 := (HTB.out.on HB4.out).cb 15 (v := l1) (by rw [HY.out]; rfl); have v16_4 := (HTB.out.on HB4.out).cb 16 (v := l2) (by rw [HY.out]; rfl); have v17_4 := (HTB.out.on HB4.out).cb 17 (v := l3) (by rw [HY.out]; rfl); have v18_4 := (HTB.out.on HB4.out).cb 18 (v := l4) (by rw [HY.out]; rfl); have v19_4 := (HTB.out.on HB4.out).cb 19 (v := l5) (by rw [HY.out]; rfl); have v20_4 := (HTB.out.on HB4.out).cb 20 (v := l6) (by rw [HY.out]; rfl); have v21_4 := (HTB.out.on HB4.out).cb 21 (v := l7) (by rw [HY.out]; rfl); have v22_4 := (HTB.out.on HB4.out).cb 22 (v := l8) (by rw [HY.out]; rfl); have v23_4 := (HTB.out.on HB4.out).cb 23 (v := l9) (by rw [HY.out]; rfl); clear hb4) | (go_at_call 10; refine (HC2.out W (Below.refl _ _)).mono ?_; rintro e z2 ⟨rfl, hb2⟩; have HB2 := Lib.hid hb2; have p3_2 := (HTB.out.on HB2.out).ca 3 (v := (.slice CA x.conds.length cc)) (by rw [HX.out]; rfl); have q3_2 := (HTB.out.on HB2.out).cb 3 (v := (.slice DA y.conds.length cd)) (by rw [HY.out]; rfl); have u4_2 := (HTB.out.on HB2.out).ca 4 (v := f0) (by rw [HX.out]; rfl); have u5_2 := (HTB.out.on HB2.out).ca 5 (v := f1) (by rw [HX.out]; rfl); have u6_2 := (HTB.out.on HB2.out).ca 6 (v := f2) (by rw [HX.out]; rfl); have u7_2 := (HTB.out.on HB2.out).ca 7 (v := f3) (by rw [HX.out]; rfl); have u8_2 := (HTB.out.on HB2.out).ca 8 (v := f4) (by rw [HX.out]; rfl); have u9_2 := (HTB.out.on HB2.out).ca 9 (v := f5) (by rw [HX.out]; rfl); have u10_2 := (HTB.out.on HB2.out).ca 10 (v := f6) (by rw [HX.out]; rfl); have u11_2 := (HTB.out.on HB2.out).ca 11 (v := f7) (by rw [HX.out]; rfl); have u12_2 := (HTB.out.on HB2.out).ca 12 (v := f8) (by rw [HX.out]; rfl); have u13_2 := (HTB.out.on HB2.out).ca 13 (v := f9) (by rw [HX.out]; rfl); have v4_2 := (HTB.out.on HB2.out).cb 4 (v := g0) (by rw [HY.out]; rfl); have v5_2 := (HTB.out.on HB2.out).cb 5 (v := g1) (by rw [HY.out]; rfl); have v6_2 := (HTB.out.on HB2.out).cb 6 (v := g2) (by rw [HY.out]; rfl); have v7_2 := (HTB.out.on HB2.out).cb 7 (v := g3) (by rw [HY.out]; rfl); have v8_2 := (HTB.out.on HB2.out).cb 8 (v := g4) (by rw [HY.out]; rfl); have v9_2 := (HTB.out.on HB2.out).cb 9 (v := g5) (by rw [HY.out]; rfl); have v10_2 := (HTB.out.on HB2.out).cb 10 (v := g6) (by rw [HY.out]; rfl); have v11_2 := (HTB.out.on HB2.out).cb 11 (v := g7) (by rw [HY.out]; rfl); have v12_2 := (HTB.out.on HB2.out).cb 12 (v := g8) (by rw [HY.out]; rfl); have v13_2 := (HTB.out.on HB2.out).cb 13 (v := g9) (by rw [HY.out]; rfl); clear hb2))
  have HTP := Lib.hid (HTB.out.on HB5.out)
  clear ra0 rb0 ra1 rb1 p2_ q2_ p3_2 q3_2 ra2_5 rb2_5 ra3_5 rb3_5 ra4_5 rb4_5 ra5_5 rb5_5 ra6_5 rb6_5 u4_2 v4_2 u5_2 v5_2 u6_2 v6_2 u7_2 v7_2 u8_2 v8_2 u9_2 v9_2 u10_2 v10_2 u11_2 v11_2 u12_2 v12_2 u13_2 v13_2 u14_4 v14_4 u15_4 v15_4 u16_4 v16_4 u17_4 v17_4 u18_4 v18_4 u19_4 v19_4 u20_4 v20_4 u21_4 v21_4 u22_4 v22_4 u23_4 v23_4 hn0 hn1 hn3 hn6 hn7 hn8 hn9 hn10
  go_loopg [5] x.conds.length (fun g i u => ∃ j : Nat, j + g = x.conds.length ∧ i = .int .i64 j ∧ Below z5.heap.size z5 u ∧ sameEL (x.conds.drop j) (y.conds.drop j) = rt)
  case atStart => exact ⟨0, by omega, rfl, Below.refl _ _, H1.out⟩
  case round =>
    obtain ⟨j, hj, rfl, hb, hres⟩ := hrel
    have HR := Lib.hid hres
    have HBW := Lib.hid hb
    have HTR := Lib.hid (HTP.out.on hb)
    have x1 := HTR.out.ca 3 (v := .slice CA x.conds.length cc) (by rw [HX.out]; rfl)
    have y1 := HTR.out.cb 3 (v := .slice DA y.conds.length cd) (by rw [HY.out]; rfl)
    clear hb hres
    cases gk with
    | zero =>
      obtain rfl : j = x.conds.length := by omega
      have hge : ¬ ((x.conds.length : Int) < (x.conds.length : Int)) := by omega
      have HV := Lib.hid (HR.out.symm.trans (sameEL_end HLC.out))
      clear HR
      go_wp2
      go_ret
      exact ⟨ret_bool (HO2.out.trans HV.out).symm, HTR.out.bel⟩
    | succ g =>
      have hlt : (j : Int) < (x.conds.length : Int) := by omega
      have hlt2 : (j : Int) < (y.conds.length : Int) := by have := HLC.out; omega
      obtain ⟨x5, hx⟩ : ∃ e0, x.conds[j]? = some e0 := ⟨_, List.getElem?_eq_getElem (by omega)⟩
      obtain ⟨y5, hy⟩ : ∃ e0, y.conds[j]? = some e0 := ⟨_, List.getElem?_eq_getElem (by have := HLC.out; omega)⟩
      obtain ⟨b1, o1, rfl, hb1, hc1⟩ := HCA.out (by omega)
      obtain ⟨b2, o2, rfl, hb2, hc2⟩ := HCA'.out (by have := HLC.out; omega)
      obtain ⟨ks, hl1, hks, hvx⟩ := hc1 j x5 hx
      obtain ⟨ks', hl2, hks', hvy⟩ := hc2 j y5 hy
      have HL1 := Lib.hid hl1
      have HL2 := Lib.hid hl2
      have HK1 := Lib.hid (rangeAt_below hks HTR.out.bel hb1)
      have HK2 := Lib.hid (rangeAt_below hks' HTR.out.bel hb2)
      have HST := Lib.hid (HR.out.symm.trans (sameEL_at hx hy))
      have HMX := Lib.hid (List.mem_of_getElem? hx)
      have HVX := Lib.hid hvx
      have HVY := Lib.hid hvy
      have HBB : Hid (b1 < wr.heap.size ∧ b2 < wr.heap.size) := Lib.hid ⟨Nat.lt_of_lt_of_le hb1 HTR.out.bel.size, Nat.lt_of_lt_of_le hb2 HTR.out.bel.size⟩
      clear hx hy hc1 hc2 hks hks' hvx hvy hb1 hb2 hl1 hl2 HR
      obtain ⟨sx, hsx⟩ : ∃ b, sameE x5 y5 = b := ⟨_, rfl⟩
      rw [hsx] at HST
      have HSX := Lib.hid hsx
      clear hsx
      go_upto_region 6 with (fail)
      clear x1 y1
      go_cut [104] (fun q z => q = .bool (!sx) ∧ Below wr.heap.size wr z)
      case first =>
        refine wp_region_ord [(0, true), (1, true), (2, true), (3, true), (4, true), (5, true), (6, true), (7, true), (8, true), (9, true), (10, false), (11, true)] (fun z => Below wr.heap.size wr z) (by kernel_rfl) (by kernel_rfl) (by kernel_rfl) rfl (by intro c a d v w h; cases d <;> exact h) ?_
        have hs : Below wr.heap.size wr wr.drew := (Below.refl _ _).drew
        generalize wr.drew = wd at hs ⊢
        refine ord_load (some 93) (.pointer (some ⟨w.heap.size, 3, none⟩)) _ rfl rfl (by exact wantA rfl) hs (fun z hz => by go_simp) ?_
        go_frame
        refine ord_load (some 94) (.slice (some ⟨b1, o1, none⟩) x.conds.length cc) _ rfl rfl (by exact wantA rfl) hs (fun z hz => by have dd := ((HTR.out.on hz).ca 3 (v := .slice (some ⟨b1, o1, none⟩) x.conds.length cc) (by rw [HX.out]; rfl)); go_simp) ?_
        go_frame
        refine ord_move (some 95) (.int .i64 j) _ _ rfl rfl rfl (by exact wantA rfl) hs rfl ?_
        go_frame
        refine ord_load (some 96) (.pointer (some ⟨b1, o1 + j * 10, none⟩)) _ rfl rfl (by exact wantA rfl) hs (fun z hz => by go_simp) ?_
        go_frame
        refine ord_load (some 97) (.agg ⟨ks⟩) _ rfl rfl (by exact wantA rfl) hs (fun z hz => exec_sload 40 rfl b1 (o1 + j * 10) ks _ rfl (rangeAt_below HK1.out hz HBB.out.1) Tryz.underlying40 rfl (by rw [HL1.out]; kernel_rfl)) ?_
        go_frame
        refine ord_load (some 98) (.pointer (some ⟨pb, 3, none⟩)) _ rfl rfl (by exact wantA rfl) hs (fun z hz => by go_simp) ?_
        go_frame
        refine ord_load (some 99) (.slice (some ⟨b2, o2, none⟩) y.conds.length cd) _ rfl rfl (by exact wantA rfl) hs (fun z hz => by have dd := ((HTR.out.on hz).cb 3 (v := .slice (some ⟨b2, o2, none⟩) y.conds.length cd) (by rw [HY.out]; rfl)); go_simp) ?_
        go_frame
        refine ord_move (some 100) (.int .i64 j) _ _ rfl rfl rfl (by exact wantA rfl) hs rfl ?_
        go_frame
        refine ord_load (some 101) (.pointer (some ⟨b2, o2 + j * 10, none⟩)) _ rfl rfl (by exact wantA rfl) hs (fun z hz => by go_simp) ?_
        go_frame
        refine ord_load (some 102) (.agg ⟨ks'⟩) _ rfl rfl (by exact wantA rfl) hs (fun z hz => exec_sload 40 rfl b2 (o2 + j * 10) ks' _ rfl (rangeAt_below HK2.out hz HBB.out.2) Tryz.underlying40 rfl (by rw [HL2.out]; kernel_rfl)) ?_
        go_frame
        refine ord_to (some 103) 53 Tryz.func53 (by kernel_rfl) (by kernel_rfl) [.agg ⟨ks⟩, .agg ⟨ks'⟩] _ _ _ rfl rfl rfl (by exact wantA rfl) rfl ?_
        refine (resame_any x5 y5 ks ks' wd ((HVX.out.under (HTR.out.bel.trans (hs.mono HTR.out.bel.size))).more (HTR.out.bel.trans (hs.mono HTR.out.bel.size)).size) ((HVY.out.under (HTR.out.bel.trans (hs.mono HTR.out.bel.size))).more (HTR.out.bel.trans (hs.mono HTR.out.bel.size)).size)).mono ?_
        rintro e z2 ⟨rfl, hb⟩
        rw [HSX.out]
        have hs2 : Below wr.heap.size wr z2 := hs.trans (hb.mono hs.size)
        refine ⟨_, rfl, hs2, ?_⟩
        go_frame
        clear hb hs
        have hs := hs2
        clear hs2
        refine ord_load (some 104) (.bool (!sx)) _ rfl rfl (by exact wantA rfl) hs (fun z hz => by go_simp) ?_
        go_frame
        refine ord_end ?_
        have HZ2 := Lib.hid hs
        clear hs
        go_wp2
        go_meet
        case rel => exact ⟨rfl, HZ2.out⟩
      case rest =>
      obtain ⟨rfl, hbc⟩ := hcut
      have HBC := Lib.hid hbc
      clear hbc
      cases sx with
      | false =>
        have HV : Hid (rt = false) := Lib.hid (HST.out.trans (Bool.false_and _))
        have HV2 : Hid (res = false) := Lib.hid (HO2.out.trans HV.out)
        go_wp2
        go_ret
        exact ⟨ret_bool HV2.out.symm, HTR.out.bel.trans (HBC.out.mono HTR.out.bel.size)⟩
      | true =>
        have HV := Lib.hid (HST.out.trans (Bool.true_and _))
        go_wp2
        go_roundg g
        case measure => omega
        case rel => exact ⟨j + 1, by omega, by go_num, HBW.out.trans (HBC.out.mono HBW.out.size), HV.out.symm⟩
end Go.Proofs.YtpmjcbjdcjjplaaGreat
end
section
namespace Go.Proofs.YtpmjcbjdcjjplaaGreat
open Go Go.RowKit
set_option linter.unusedVariables false
set_option linter.unusedSimpArgs false
theorem rnode_any (x y : NodeT) (X Y : List Value) (w : World) (hx : NodeAt w w.heap.size X x) (hy : NodeAt w w.heap.size Y y) :
    Calls Tryz.prog 27 #[.agg ⟨X⟩, .agg ⟨Y⟩] w fun e w' => e = .returned (.bool (sameNd x y)) ∧ Below w.heap.size w w' := by
  cases hk0 : (x.kind == y.kind) with
  | false => exact rnode_f0 x y X Y w hx hy hk0
  | true =>
  cases hk1 : (x.label == y.label) with
  | false => exact rnode_f1 x y X Y w hx hy hk0 hk1
  | true =>
  cases hk2 : (x.next == y.next) with
  | false => exact rnode_f2 x y X Y w hx hy hk0 hk1 hk2
  | true =>
  cases hk3 : ((x.conds.length : Int) == y.conds.length) with
  | false => exact rnode_f3 x y X Y w hx hy hk0 hk1 hk2 hk3
  | true =>
  cases hk4 : sameE x.expr y.expr with
  | false => exact rnode_f4 x y X Y w hx hy hk0 hk1 hk2 hk3 hk4
  | true =>
  cases hk5 : sameE x.body y.body with
  | false => exact rnode_f5 x y X Y w hx hy hk0 hk1 hk2 hk3 hk4 hk5
  | true =>
  cases hk6 : (x.var == y.var) with
  | false => exact rnode_f6 x y X Y w hx hy hk0 hk1 hk2 hk3 hk4 hk5 hk6
  | true =>
  cases hk7 : (x.msg == y.msg) with
  | false => exact rnode_f7 x y X Y w hx hy hk0 hk1 hk2 hk3 hk4 hk5 hk6 hk7
  | true =>
  cases hk8 : (x.catch_ == y.catch_) with
  | false => exact rnode_f8 x y X Y w hx hy hk0 hk1 hk2 hk3 hk4 hk5 hk6 hk7 hk8
  | true =>
  cases hk9 : (x.wait == y.wait) with
  | false => exact rnode_f9 x y X Y w hx hy hk0 hk1 hk2 hk3 hk4 hk5 hk6 hk7 hk8 hk9
  | true =>
  cases hk10 : (x.from_ == y.from_) with
  | false => exact rnode_f10 x y X Y w hx hy hk0 hk1 hk2 hk3 hk4 hk5 hk6 hk7 hk8 hk9 hk10
  | true =>
  exact rnode_all x y X Y w hx hy hk0 hk1 hk2 hk3 hk4 hk5 hk6 hk7 hk8 hk9 hk10
end Go.Proofs.YtpmjcbjdcjjplaaGreat
end
section
namespace Go.Proofs.YtpmjcbjdcjjplaaGreat
open Go Go.RowKit
set_option linter.unusedVariables false
set_option linter.unusedSimpArgs false
set_option maxHeartbeats 8000000 in
set_option maxRecDepth 100000 in
theorem rmsame_any (x y : ModelT) (X Y : List Value) (w : World) (hx : ModelAt w w.heap.size X x) (hy : ModelAt w w.heap.size Y y) :
    Calls Tryz.prog 7 #[.agg ⟨X⟩, .agg ⟨Y⟩] w fun e w' => e = .returned (.bool (sameM x y)) ∧ Below w.heap.size w w' := by
  obtain ⟨⟨v1, v2, v3, v4, v5, hX, h1, h2, h3, h4, h5⟩, _⟩ := hx
  have H1 := Lib.hid h1
  obtain ⟨hl1, A1, a1, rfl, ha1⟩ := h1
  have HA1 := Lib.hid ha1
  have H2 := Lib.hid h2
  obtain ⟨hl2, A2, a2, rfl, ha2⟩ := h2
  have HA2 := Lib.hid ha2
  have H3 := Lib.hid h3
  obtain ⟨hl3, A3, a3, rfl, ha3⟩ := h3
  have HA3 := Lib.hid ha3
  have H4 := Lib.hid h4
  obtain ⟨hl4, A4, a4, rfl, ha4⟩ := h4
  have HA4 := Lib.hid ha4
  have H5 := Lib.hid h5
  obtain ⟨hl5, A5, a5, rfl, ha5⟩ := h5
  have HA5 := Lib.hid ha5
  have HX := Lib.hid hX
  clear hX ha1 ha2 ha3 ha4 ha5
  obtain ⟨⟨v1', v2', v3', v4', v5', hY, h1', h2', h3', h4', h5'⟩, _⟩ := hy
  have H1' := Lib.hid h1'
  obtain ⟨hl1', B1, b1, rfl, ha1'⟩ := h1'
  have HA1' := Lib.hid ha1'
  have H2' := Lib.hid h2'
  obtain ⟨hl2', B2, b2, rfl, ha2'⟩ := h2'
  have HA2' := Lib.hid ha2'
  have H3' := Lib.hid h3'
  obtain ⟨hl3', B3, b3, rfl, ha3'⟩ := h3'
  have HA3' := Lib.hid ha3'
  have H4' := Lib.hid h4'
  obtain ⟨hl4', B4, b4, rfl, ha4'⟩ := h4'
  have HA4' := Lib.hid ha4'
  have H5' := Lib.hid h5'
  obtain ⟨hl5', B5, b5, rfl, ha5'⟩ := h5'
  have HA5' := Lib.hid ha5'
  have HY := Lib.hid hY
  clear hY ha1' ha2' ha3' ha4' ha5'
  have hb1 : (x.order.length : Int) ≤ 9223372036854775807 := by have := hl1; omega
  have hb1' : (y.order.length : Int) ≤ 9223372036854775807 := by have := hl1'; omega
  have hb2 : (x.grants.length : Int) ≤ 9223372036854775807 := by have := hl2; omega
  have hb2' : (y.grants.length : Int) ≤ 9223372036854775807 := by have := hl2'; omega
  have hb3 : (x.vars.length : Int) ≤ 9223372036854775807 := by have := hl3; omega
  have hb3' : (y.vars.length : Int) ≤ 9223372036854775807 := by have := hl3'; omega
  have hb4 : (x.msgs.length : Int) ≤ 9223372036854775807 := by have := hl4; omega
  have hb4' : (y.msgs.length : Int) ≤ 9223372036854775807 := by have := hl4'; omega
  have hb5 : (x.nodes.length : Int) ≤ 9223372036854775807 := by have := hl5; omega
  have hb5' : (y.nodes.length : Int) ≤ 9223372036854775807 := by have := hl5'; omega
  clear hl1 hl1' hl2 hl2' hl3 hl3' hl4 hl4' hl5 hl5'
  have HO : Hid (sameM x y = ((x.labels == y.labels) && (allB eqPr x.order y.order && (allB eqPr x.grants y.grants && (((x.vars.length : Int) == y.vars.length) && (((x.msgs.length : Int) == y.msgs.length) && (((x.nodes.length : Int) == y.nodes.length) && (allB sameVr x.vars y.vars && (allB sameMs x.msgs y.msgs && allB sameNd x.nodes y.nodes))))))))) := Lib.hid (sameM_ref x y)
  generalize sameM x y = res at HO ⊢
  go_enter Tryz.func7, Tryz.ntmps7
  go_upto_region 1 with (fail)
  have HTB := Lib.hid (twoP_start 27 w X Y)
  generalize (w.alloc (.cells ⟨X⟩ 27)).alloc (.cells ⟨Y⟩ 27) = W at *
  obtain ⟨pb, hpb⟩ : ∃ pb, w.heap.size + 1 = pb := ⟨_, rfl⟩
  rw [hpb] at HTB
  rw [hpb]
  clear hpb
  have a0_ := HTB.out.ca 0 (v := .int .i64 x.labels) (by rw [HX.out]; rfl)
  have b0_ := HTB.out.cb 0 (v := .int .i64 y.labels) (by rw [HY.out]; rfl)
  have p1_ := HTB.out.ca 1 (v := (.slice A1 x.order.length a1)) (by rw [HX.out]; rfl)
  have q1_ := HTB.out.cb 1 (v := (.slice B1 y.order.length b1)) (by rw [HY.out]; rfl)
  cases hk0 : (x.labels == y.labels) with
  | false =>
    have hn0 : (x.labels != y.labels) = true := by rw [bne, hk0]; rfl
    have HV : Hid (res = false) := Lib.hid (by rw [HO.out, hk0]; rfl)
    go_wp2
    go_ret
    exact ⟨ret_bool HV.out.symm, HTB.out.bel⟩
  | true =>
  have hn0 : (x.labels != y.labels) = false := by rw [bne, hk0]; rfl
  have HC1 : Hid (∀ z, Below W.heap.size W z → Calls Tryz.prog 24 #[(.slice A1 x.order.length a1), (.slice B1 y.order.length b1)] z fun e w' => e = .returned (.bool (allB eqPr x.order y.order)) ∧ Below z.heap.size z w') := Lib.hid fun z hz => by
    have hz2 := HTB.out.bel.trans (hz.mono HTB.out.bel.size)
    exact rpairs_any _ _ _ _ z ((H1.out.below hz2 (fun _ _ _ h2 => h2)).more hz2.size) ((H1'.out.below hz2 (fun _ _ _ h2 => h2)).more hz2.size)
  obtain ⟨s1, hk1⟩ : ∃ b, allB eqPr x.order y.order = b := ⟨_, rfl⟩
  rw [hk1] at HC1
  cases s1 with
  | false =>
    have HV : Hid (res = false) := Lib.hid (by rw [HO.out, hk0, hk1]; rfl)
    clear hk1
    go_wp2_with (first | (go_at_call 24; refine (HC1.out W (Below.refl _ _)).mono ?_; rintro e z1 ⟨rfl, hb1⟩; have HB1 := Lib.hid hb1; have p2_1 := (HTB.out.on HB1.out).ca 2 (v := (.slice A2 x.grants.length a2)) (by rw [HX.out]; rfl); have q2_1 := (HTB.out.on HB1.out).cb 2 (v := (.slice B2 y.grants.length b2)) (by rw [HY.out]; rfl); clear hb1))
    go_ret
    exact ⟨ret_bool HV.out.symm, HTB.out.bel.trans (HB1.out.mono HTB.out.bel.size)⟩
  | true =>
  have HC2 : Hid (∀ z, Below W.heap.size W z → Calls Tryz.prog 24 #[(.slice A2 x.grants.length a2), (.slice B2 y.grants.length b2)] z fun e w' => e = .returned (.bool (allB eqPr x.grants y.grants)) ∧ Below z.heap.size z w') := Lib.hid fun z hz => by
    have hz2 := HTB.out.bel.trans (hz.mono HTB.out.bel.size)
    exact rpairs_any _ _ _ _ z ((H2.out.below hz2 (fun _ _ _ h2 => h2)).more hz2.size) ((H2'.out.below hz2 (fun _ _ _ h2 => h2)).more hz2.size)
  obtain ⟨s2, hk2⟩ : ∃ b, allB eqPr x.grants y.grants = b := ⟨_, rfl⟩
  rw [hk2] at HC2
  cases s2 with
  | false =>
    have HV : Hid (res = false) := Lib.hid (by rw [HO.out, hk0, hk1, hk2]; rfl)
    clear hk1 hk2
    go_wp2_with (first | (go_at_call 24; refine (HC2.out z1 HB1.out).mono ?_; rintro e z2 ⟨rfl, hb2⟩; have HB2 := Lib.hid (HB1.out.trans (hb2.mono HB1.out.size)); have p3_2 := (HTB.out.on HB2.out).ca 3 (v := (.slice A3 x.vars.length a3)) (by rw [HX.out]; rfl); have q3_2 := (HTB.out.on HB2.out).cb 3 (v := (.slice B3 y.vars.length b3)) (by rw [HY.out]; rfl); have p4_2 := (HTB.out.on HB2.out).ca 4 (v := (.slice A4 x.msgs.length a4)) (by rw [HX.out]; rfl); have q4_2 := (HTB.out.on HB2.out).cb 4 (v := (.slice B4 y.msgs.length b4)) (by rw [HY.out]; rfl); have p5_2 := (HTB.out.on HB2.out).ca 5 (v := (.slice A5 x.nodes.length a5)) (by rw [HX.out]; rfl); have q5_2 := (HTB.out.on HB2.out).cb 5 (v := (.slice B5 y.nodes.length b5)) (by rw [HY.out]; rfl); clear hb2) | (go_at_call 24; refine (HC1.out W (Below.refl _ _)).mono ?_; rintro e z1 ⟨rfl, hb1⟩; have HB1 := Lib.hid hb1; have p2_1 := (HTB.out.on HB1.out).ca 2 (v := (.slice A2 x.grants.length a2)) (by rw [HX.out]; rfl); have q2_1 := (HTB.out.on HB1.out).cb 2 (v := (.slice B2 y.grants.length b2)) (by rw [HY.out]; rfl); clear hb1))
    go_ret
    exact ⟨ret_bool HV.out.symm, HTB.out.bel.trans (HB2.out.mono HTB.out.bel.size)⟩
  | true =>
  cases hk3 : ((x.vars.length : Int) == y.vars.length) with
  | false =>
    have hn3 : ((x.vars.length : Int) != y.vars.length) = true := by rw [bne, hk3]; rfl
    have HV : Hid (res = false) := Lib.hid (by rw [HO.out, hk0, hk1, hk2, hk3]; rfl)
    clear hk1 hk2
    go_wp2_with (first | (go_at_call 24; refine (HC2.out z1 HB1.out).mono ?_; rintro e z2 ⟨rfl, hb2⟩; have HB2 := Lib.hid (HB1.out.trans (hb2.mono HB1.out.size)); have p3_2 := (HTB.out.on HB2.out).ca 3 (v := (.slice A3 x.vars.length a3)) (by rw [HX.out]; rfl); have q3_2 := (HTB.out.on HB2.out).cb 3 (v := (.slice B3 y.vars.length b3)) (by rw [HY.out]; rfl); have p4_2 := (HTB.out.on HB2.out).ca 4 (v := (.slice A4 x.msgs.length a4)) (by rw [HX.out]; rfl); have q4_2 := (HTB.out.on HB2.out).cb 4 (v := (.slice B4 y.msgs.length b4)) (by rw [HY.out]; rfl); have p5_2 := (HTB.out.on HB2.out).ca 5 (v := (.slice A5 x.nodes.length a5)) (by rw [HX.out]; rfl); have q5_2 := (HTB.out.on HB2.out).cb 5 (v := (.slice B5 y.nodes.length b5)) (by rw [HY.out]; rfl); clear hb2) | (go_at_call 24; refine (HC1.out W (Below.refl _ _)).mono ?_; rintro e z1 ⟨rfl, hb1⟩; have HB1 := Lib.hid hb1; have p2_1 := (HTB.out.on HB1.out).ca 2 (v := (.slice A2 x.grants.length a2)) (by rw [HX.out]; rfl); have q2_1 := (HTB.out.on HB1.out).cb 2 (v := (.slice B2 y.grants.length b2)) (by rw [HY.out]; rfl); clear hb1))
    go_ret
    exact ⟨ret_bool HV.out.symm, HTB.out.bel.trans (HB2.out.mono HTB.out.bel.size)⟩
  | true =>
  have hn3 : ((x.vars.length : Int) != y.vars.length) = false := by rw [bne, hk3]; rfl
  cases hk4 : ((x.msgs.length : Int) == y.msgs.length) with
  | false =>
    have hn4 : ((x.msgs.length : Int) != y.msgs.length) = true := by rw [bne, hk4]; rfl
    have HV : Hid (res = false) := Lib.hid (by rw [HO.out, hk0, hk1, hk2, hk3, hk4]; rfl)
    clear hk1 hk2
    go_wp2_with (first | (go_at_call 24; refine (HC2.out z1 HB1.out).mono ?_; rintro e z2 ⟨rfl, hb2⟩; have HB2 := Lib.hid (HB1.out.trans (hb2.mono HB1.out.size)); have p3_2 := (HTB.out.on HB2.out).ca 3 (v := (.slice A3 x.vars.length a3)) (by rw [HX.out]; rfl); have q3_2 := (HTB.out.on HB2.out).cb 3 (v := (.slice B3 y.vars.length b3)) (by rw [HY.out]; rfl); have p4_2 := (HTB.out.on HB2.out).ca 4 (v := (.slice A4 x.msgs.length a4)) (by rw [HX.out]; rfl); have q4_2 := (HTB.out.on HB2.out).cb 4 (v := (.slice B4 y.msgs.length b4)) (by rw [HY.out]; rfl); have p5_2 := (HTB.out.on HB2.out).ca 5 (v := (.slice A5 x.nodes.length a5)) (by rw [HX.out]; rfl); have q5_2 := (HTB.out.on HB2.out).cb 5 (v := (.slice B5 y.nodes.length b5)) (by rw [HY.out]; rfl); clear hb2) | (go_at_call 24; refine (HC1.out W (Below.refl _ _)).mono ?_; rintro e z1 ⟨rfl, hb1⟩; have HB1 := Lib.hid hb1; have p2_1 := (HTB.out.on HB1.out).ca 2 (v := (.slice A2 x.grants.length a2)) (by rw [HX.out]; rfl); have q2_1 := (HTB.out.on HB1.out).cb 2 (v := (.slice B2 y.grants.length b2)) (by rw [HY.out]; rfl); clear hb1))
    go_ret
    exact ⟨ret_bool HV.out.symm, HTB.out.bel.trans (HB2.out.mono HTB.out.bel.size)⟩
  | true =>
  have hn4 : ((x.msgs.length : Int) != y.msgs.length) = false := by rw [bne, hk4]; rfl
  cases hk5 : ((x.nodes.length : Int) == y.nodes.length) with
  | false =>
    have hn5 : ((x.nodes.length : Int) != y.nodes.length) = true := by rw [bne, hk5]; rfl
    have HV : Hid (res = false) := Lib.hid (by rw [HO.out, hk0, hk1, hk2, hk3, hk4, hk5]; rfl)
    clear hk1 hk2
    go_wp2_with (first | (go_at_call 24; refine (HC2.out z1 HB1.out).mono ?_; rintro e z2 ⟨rfl, hb2⟩; have HB2 := Lib.hid (HB1.out.trans (hb2.mono HB1.out.size)); have p3_2 := (HTB.out.on HB2.out).ca 3 (v := (.slice A3 x.vars.length a3)) (by rw [HX.out]; rfl); have q3_2 := (HTB.out.on HB2.out).cb 3 (v := (.slice B3 y.vars.length b3)) (by rw [HY.out]; rfl); have p4_2 := (HTB.out.on HB2.out).ca 4 (v := (.slice A4 x.msgs.length a4)) (by rw [HX.out]; rfl); have q4_2 := (HTB.out.on HB2.out).cb 4 (v := (.slice B4 y.msgs.length b4)) (by rw [HY.out]; rfl); have p5_2 := (HTB.out.on HB2.out).ca 5 (v := (.slice A5 x.nodes.length a5)) (by rw [HX.out]; rfl); have q5_2 := (HTB.out.on HB2.out).cb 5 (v := (.slice B5 y.nodes.length b5)) (by rw [HY.out]; rfl); clear hb2) | (go_at_call 24; refine (HC1.out W (Below.refl _ _)).mono ?_; rintro e z1 ⟨rfl, hb1⟩; have HB1 := Lib.hid hb1; have p2_1 := (HTB.out.on HB1.out).ca 2 (v := (.slice A2 x.grants.length a2)) (by rw [HX.out]; rfl); have q2_1 := (HTB.out.on HB1.out).cb 2 (v := (.slice B2 y.grants.length b2)) (by rw [HY.out]; rfl); clear hb1))
    go_ret
    exact ⟨ret_bool HV.out.symm, HTB.out.bel.trans (HB2.out.mono HTB.out.bel.size)⟩
  | true =>
  have hn5 : ((x.nodes.length : Int) != y.nodes.length) = false := by rw [bne, hk5]; rfl
  have HN3 : Hid (x.vars.length = y.vars.length) := Lib.hid (by have := eq_of_beq hk3; omega)
  have HN4 : Hid (x.msgs.length = y.msgs.length) := Lib.hid (by have := eq_of_beq hk4; omega)
  have HN5 : Hid (x.nodes.length = y.nodes.length) := Lib.hid (by have := eq_of_beq hk5; omega)
  obtain ⟨rv, hrv⟩ : ∃ b, allB sameVr x.vars y.vars = b := ⟨_, rfl⟩
  obtain ⟨rm, hrm⟩ : ∃ b, allB sameMs x.msgs y.msgs = b := ⟨_, rfl⟩
  obtain ⟨rn, hrn⟩ : ∃ b, allB sameNd x.nodes y.nodes = b := ⟨_, rfl⟩
  have G3 : Hid (allB sameVr (x.vars.drop 0) (y.vars.drop 0) = rv) := Lib.hid hrv
  have G4 : Hid (allB sameMs (x.msgs.drop 0) (y.msgs.drop 0) = rm) := Lib.hid hrm
  have G5 : Hid (allB sameNd (x.nodes.drop 0) (y.nodes.drop 0) = rn) := Lib.hid hrn
  have HO2 : Hid (res = (rv && (rm && rn))) := Lib.hid (by rw [HO.out, hk0, hk1, hk2, hk3, hk4, hk5, hrv, hrm, hrn]; rfl)
  clear hrv hrm hrn HO hk1 hk2
  go_upto_region 4 with (first | (go_at_call 24; refine (HC2.out z1 HB1.out).mono ?_; rintro e z2 ⟨rfl, hb2⟩; have HB2 := Lib.hid (HB1.out.trans (hb2.mono HB1.out.size)); have p3_2 := (HTB.out.on HB2.out).ca 3 (v := (.slice A3 x.vars.length a3)) (by rw [HX.out]; rfl); have q3_2 := (HTB.out.on HB2.out).cb 3 (v := (.slice B3 y.vars.length b3)) (by rw [HY.out]; rfl); have p4_2 := (HTB.out.on HB2.out).ca 4 (v := (.slice A4 x.msgs.length a4)) (by rw [HX.out]; rfl); have q4_2 := (HTB.out.on HB2.out).cb 4 (v := (.slice B4 y.msgs.length b4)) (by rw [HY.out]; rfl); have p5_2 := (HTB.out.on HB2.out).ca 5 (v := (.slice A5 x.nodes.length a5)) (by rw [HX.out]; rfl); have q5_2 := (HTB.out.on HB2.out).cb 5 (v := (.slice B5 y.nodes.length b5)) (by rw [HY.out]; rfl); clear hb2) | (go_at_call 24; refine (HC1.out W (Below.refl _ _)).mono ?_; rintro e z1 ⟨rfl, hb1⟩; have HB1 := Lib.hid hb1; have p2_1 := (HTB.out.on HB1.out).ca 2 (v := (.slice A2 x.grants.length a2)) (by rw [HX.out]; rfl); have q2_1 := (HTB.out.on HB1.out).cb 2 (v := (.slice B2 y.grants.length b2)) (by rw [HY.out]; rfl); clear hb1))
  have HTP := Lib.hid (HTB.out.on HB2.out)
  clear a0_ b0_ p1_ q1_ p2_1 q2_1 p3_2 q3_2 p4_2 q4_2 p5_2 q5_2 hn0 hn3 hn4 hn5 hk0 hk3 hk4 hk5 HC1 HC2
  go_loopg [5] x.vars.length (fun g i u => ∃ j : Nat, j + g = x.vars.length ∧ i = .int .i64 j ∧ Below z2.heap.size z2 u ∧ allB sameVr (x.vars.drop j) (y.vars.drop j) = rv)
  case atStart => exact ⟨0, by omega, rfl, Below.refl _ _, G3.out⟩
  case round =>
    obtain ⟨j, hj, rfl, hb, hres⟩ := hrel
    have HR := Lib.hid hres
    have HBW := Lib.hid hb
    have HTR := Lib.hid (HTP.out.on hb)
    have x1 := HTR.out.ca 3 (v := .slice A3 x.vars.length a3) (by rw [HX.out]; rfl)
    have y1 := HTR.out.cb 3 (v := .slice B3 y.vars.length b3) (by rw [HY.out]; rfl)
    clear hb hres
    cases gk with
    | zero =>
      obtain rfl : j = x.vars.length := by omega
      have hge : ¬ ((x.vars.length : Int) < (x.vars.length : Int)) := by omega
      have HV := Lib.hid (HR.out.symm.trans (allB_end (f := sameVr) HN3.out))
      clear HR
      have HO3 : Hid (res = (rm && rn)) := Lib.hid (by rw [HO2.out, HV.out]; exact Bool.true_and _)
      clear HO2
      have HO2 := Lib.hid HO3.out
      clear HO3
      go_upto_region 10 with (fail)
      clear x1 y1
      go_loopg [8] x.msgs.length (fun g i u => ∃ j : Nat, j + g = x.msgs.length ∧ i = .int .i64 j ∧ Below z2.heap.size z2 u ∧ allB sameMs (x.msgs.drop j) (y.msgs.drop j) = rm)
      case atStart => exact ⟨0, by omega, rfl, HBW.out, G4.out⟩
      case round =>
        obtain ⟨j, hj, rfl, hb, hres⟩ := hrel
        have HR := Lib.hid hres
        have HBW := Lib.hid hb
        have HTR := Lib.hid (HTP.out.on hb)
        have x1 := HTR.out.ca 4 (v := .slice A4 x.msgs.length a4) (by rw [HX.out]; rfl)
        have y1 := HTR.out.cb 4 (v := .slice B4 y.msgs.length b4) (by rw [HY.out]; rfl)
        clear hb hres
        cases gk with
        | zero =>
          obtain rfl : j = x.msgs.length := by omega
          have hge : ¬ ((x.msgs.length : Int) < (x.msgs.length : Int)) := by omega
          have HV := Lib.hid (HR.out.symm.trans (allB_end (f := sameMs) HN4.out))
          clear HR
          have HO3 : Hid (res = rn) := Lib.hid (by rw [HO2.out, HV.out]; exact Bool.true_and _)
          clear HO2
          have HO2 := Lib.hid HO3.out
          clear HO3
          go_upto_region 16 with (fail)
          clear x1 y1
          go_loopg [11] x.nodes.length (fun g i u => ∃ j : Nat, j + g = x.nodes.length ∧ i = .int .i64 j ∧ Below z2.heap.size z2 u ∧ allB sameNd (x.nodes.drop j) (y.nodes.drop j) = rn)
          case atStart => exact ⟨0, by omega, rfl, HBW.out, G5.out⟩
          case round =>
            obtain ⟨j, hj, rfl, hb, hres⟩ := hrel
            have HR := Lib.hid hres
            have HBW := Lib.hid hb
            have HTR := Lib.hid (HTP.out.on hb)
            have x1 := HTR.out.ca 5 (v := .slice A5 x.nodes.length a5) (by rw [HX.out]; rfl)
            have y1 := HTR.out.cb 5 (v := .slice B5 y.nodes.length b5) (by rw [HY.out]; rfl)
            clear hb hres
            cases gk with
            | zero =>
              obtain rfl : j = x.nodes.length := by omega
              have hge : ¬ ((x.nodes.length : Int) < (x.nodes.length : Int)) := by omega
              have HV := Lib.hid (HR.out.symm.trans (allB_end (f := sameNd) HN5.out))
              clear HR
              go_wp2
              go_ret
              exact ⟨ret_bool (HO2.out.trans HV.out).symm, HTR.out.bel⟩
            | succ g =>
              have hlt : (j : Int) < (x.nodes.length : Int) := by omega
              have hlt2 : (j : Int) < (y.nodes.length : Int) := by have := HN5.out; omega
              obtain ⟨x5, hx⟩ : ∃ e0, x.nodes[j]? = some e0 := ⟨_, List.getElem?_eq_getElem (by omega)⟩
              obtain ⟨y5, hy⟩ : ∃ e0, y.nodes[j]? = some e0 := ⟨_, List.getElem?_eq_getElem (by have := HN5.out; omega)⟩
              obtain ⟨b1, o1, rfl, hb1, hc1⟩ := HA5.out (by omega)
              obtain ⟨b2, o2, rfl, hb2, hc2⟩ := HA5'.out (by have := HN5.out; omega)
              obtain ⟨ks, hl1, hks, hvx⟩ := hc1 j x5 hx
              obtain ⟨ks', hl2, hks', hvy⟩ := hc2 j y5 hy
              have HL1 := Lib.hid hl1
              have HL2 := Lib.hid hl2
              have HK1 := Lib.hid (rangeAt_below hks HTR.out.bel hb1)
              have HK2 := Lib.hid (rangeAt_below hks' HTR.out.bel hb2)
              have HST := Lib.hid (HR.out.symm.trans (allB_at (f := sameNd) hx hy))
              have HMX := Lib.hid (List.mem_of_getElem? hx)
              have HVX := Lib.hid hvx
              have HVY := Lib.hid hvy
              have HBB : Hid (b1 < wr.heap.size ∧ b2 < wr.heap.size) := Lib.hid ⟨Nat.lt_of_lt_of_le hb1 HTR.out.bel.size, Nat.lt_of_lt_of_le hb2 HTR.out.bel.size⟩
              clear hx hy hc1 hc2 hks hks' hvx hvy hb1 hb2 hl1 hl2 HR
              obtain ⟨sx, hsx⟩ : ∃ b, sameNd x5 y5 = b := ⟨_, rfl⟩
              rw [hsx] at HST
              have HSX := Lib.hid hsx
              clear hsx
              go_upto_region 18 with (fail)
              clear x1 y1
              go_cut [168] (fun q z => q = .bool (!sx) ∧ Below wr.heap.size wr z)
              case first =>
                refine wp_region_ord [(0, true), (1, true), (2, true), (3, true), (4, true), (5, true), (6, true), (7, true), (8, true), (9, true), (10, false), (11, true)] (fun z => Below wr.heap.size wr z) (by kernel_rfl) (by kernel_rfl) (by kernel_rfl) rfl (by intro c a d v w h; cases d <;> exact h) ?_
                have hs : Below wr.heap.size wr wr.drew := (Below.refl _ _).drew
                generalize wr.drew = wd at hs ⊢
                refine ord_load (some 157) (.pointer (some ⟨w.heap.size, 5, none⟩)) _ rfl rfl (by exact wantA rfl) hs (fun z hz => by go_simp) ?_
                go_frame
                refine ord_load (some 158) (.slice (some ⟨b1, o1, none⟩) x.nodes.length a5) _ rfl rfl (by exact wantA rfl) hs (fun z hz => by have dd := ((HTR.out.on hz).ca 5 (v := .slice (some ⟨b1, o1, none⟩) x.nodes.length a5) (by rw [HX.out]; rfl)); go_simp) ?_
                go_frame
                refine ord_move (some 159) (.int .i64 j) _ _ rfl rfl rfl (by exact wantA rfl) hs rfl ?_
                go_frame
                refine ord_load (some 160) (.pointer (some ⟨b1, o1 + j * 29, none⟩)) _ rfl rfl (by exact wantA rfl) hs (fun z hz => by go_simp) ?_
                go_frame
                refine ord_load (some 161) (.agg ⟨ks⟩) _ rfl rfl (by exact wantA rfl) hs (fun z hz => exec_sload 42 rfl b1 (o1 + j * 29) ks _ rfl (rangeAt_below HK1.out hz HBB.out.1) Tryz.underlying42 rfl (by rw [HL1.out]; kernel_rfl)) ?_
                go_frame
                refine ord_load (some 162) (.pointer (some ⟨pb, 5, none⟩)) _ rfl rfl (by exact wantA rfl) hs (fun z hz => by go_simp) ?_
                go_frame
                refine ord_load (some 163) (.slice (some ⟨b2, o2, none⟩) y.nodes.length b5) _ rfl rfl (by exact wantA rfl) hs (fun z hz => by have dd := ((HTR.out.on hz).cb 5 (v := .slice (some ⟨b2, o2, none⟩) y.nodes.length b5) (by rw [HY.out]; rfl)); go_simp) ?_
                go_frame
                refine ord_move (some 164) (.int .i64 j) _ _ rfl rfl rfl (by exact wantA rfl) hs rfl ?_
                go_frame
                refine ord_load (some 165) (.pointer (some ⟨b2, o2 + j * 29, none⟩)) _ rfl rfl (by exact wantA rfl) hs (fun z hz => by go_simp) ?_
                go_frame
                refine ord_load (some 166) (.agg ⟨ks'⟩) _ rfl rfl (by exact wantA rfl) hs (fun z hz => exec_sload 42 rfl b2 (o2 + j * 29) ks' _ rfl (rangeAt_below HK2.out hz HBB.out.2) Tryz.underlying42 rfl (by rw [HL2.out]; kernel_rfl)) ?_
                go_frame
                refine ord_to (some 167) 27 Tryz.func27 (by kernel_rfl) (by kernel_rfl) [.agg ⟨ks⟩, .agg ⟨ks'⟩] _ _ _ rfl rfl rfl (by exact wantA rfl) rfl ?_
                refine (rnode_any x5 y5 ks ks' wd ((HVX.out.under (HTR.out.bel.trans (hs.mono HTR.out.bel.size))).more (HTR.out.bel.trans (hs.mono HTR.out.bel.size)).size) ((HVY.out.under (HTR.out.bel.trans (hs.mono HTR.out.bel.size))).more (HTR.out.bel.trans (hs.mono HTR.out.bel.size)).size)).mono ?_
                rintro e z2 ⟨rfl, hb⟩
                rw [HSX.out]
                have hs2 : Below wr.heap.size wr z2 := hs.trans (hb.mono hs.size)
                refine ⟨_, rfl, hs2, ?_⟩
                go_frame
                clear hb hs
                have hs := hs2
                clear hs2
                refine ord_load (some 168) (.bool (!sx)) _ rfl rfl (by exact wantA rfl) hs (fun z hz => by go_simp) ?_
                go_frame
                refine ord_end ?_
                have HZ2 := Lib.hid hs
                clear hs
                go_wp2
                go_meet
                case rel => exact ⟨rfl, HZ2.out⟩
              case rest =>
              obtain ⟨rfl, hbc⟩ := hcut
              have HBC := Lib.hid hbc
              clear hbc
              cases sx with
              | false =>
                have HV : Hid (rn = false) := Lib.hid (HST.out.trans (Bool.false_and _))
                have HV2 : Hid (res = false) := Lib.hid (HO2.out.trans HV.out)
                go_wp2
                go_ret
                exact ⟨ret_bool HV2.out.symm, HTR.out.bel.trans (HBC.out.mono HTR.out.bel.size)⟩
              | true =>
                have HV := Lib.hid (HST.out.trans (Bool.true_and _))
                go_wp2
                go_roundg g
                case measure => omega
                case rel => exact ⟨j + 1, by omega, by go_num, HBW.out.trans (HBC.out.mono HBW.out.size), HV.out.symm⟩
        | succ g =>
          have hlt : (j : Int) < (x.msgs.length : Int) := by omega
          have hlt2 : (j : Int) < (y.msgs.length : Int) := by have := HN4.out; omega
          obtain ⟨x5, hx⟩ : ∃ e0, x.msgs[j]? = some e0 := ⟨_, List.getElem?_eq_getElem (by omega)⟩
          obtain ⟨y5, hy⟩ : ∃ e0, y.msgs[j]? = some e0 := ⟨_, List.getElem?_eq_getElem (by have := HN4.out; omega)⟩
          obtain ⟨b1, o1, rfl, hb1, hc1⟩ := HA4.out (by omega)
          obtain ⟨b2, o2, rfl, hb2, hc2⟩ := HA4'.out (by have := HN4.out; omega)
          obtain ⟨ks, hl1, hks, hvx⟩ := hc1 j x5 hx
          obtain ⟨ks', hl2, hks', hvy⟩ := hc2 j y5 hy
          have HL1 := Lib.hid hl1
          have HL2 := Lib.hid hl2
          have HK1 := Lib.hid (rangeAt_below hks HTR.out.bel hb1)
          have HK2 := Lib.hid (rangeAt_below hks' HTR.out.bel hb2)
          have HST := Lib.hid (HR.out.symm.trans (allB_at (f := sameMs) hx hy))
          have HVX := Lib.hid hvx
          have HVY := Lib.hid hvy
          have HBB : Hid (b1 < wr.heap.size ∧ b2 < wr.heap.size) := Lib.hid ⟨Nat.lt_of_lt_of_le hb1 HTR.out.bel.size, Nat.lt_of_lt_of_le hb2 HTR.out.bel.size⟩
          clear hx hy hc1 hc2 hks hks' hvx hvy hb1 hb2 hl1 hl2 HR
          go_upto_region 12 with (fail)
          clear x1 y1
          go_cut [9, 10] (fun p q z => ∃ xb yb, p = .pointer (some ⟨xb, 0, none⟩) ∧ q = .pointer (some ⟨yb, 0, none⟩) ∧ Two3 58 wr z xb yb ks ks')
          case first =>
            refine wp_region_tree (.take 0 (.take 1 (.take 2 (.take 3 (.take 4 (.take 5 (.take 6 (.take 7 (.take 8 (.take 9 (.two 10 11 (.act 11 (.act 12 (.act 13 .done))) (.act 10 (.act 12 (.act 13 .done)))))))))))))) (fun z => Below wr.heap.size wr z) (by kernel_rfl) (by kernel_rfl) (by kernel_rfl) rfl (by intro c a d v w h; cases d <;> exact h) ?_
            have hs : Below wr.heap.size wr wr.drew := (Below.refl _ _).drew
            generalize wr.drew = wd at hs ⊢
            refine tree_load (some 112) (.pointer (some ⟨w.heap.size, 4, none⟩)) _ rfl rfl (by exact wantA rfl) hs (fun z hz => by go_simp) ?_
            go_frame
            refine tree_load (some 113) (.slice (some ⟨b1, o1, none⟩) x.msgs.length a4) _ rfl rfl (by exact wantA rfl) hs (fun z hz => by have dd := ((HTR.out.on hz).ca 4 (v := .slice (some ⟨b1, o1, none⟩) x.msgs.length a4) (by rw [HX.out]; rfl)); go_simp) ?_
            go_frame
            refine tree_move (some 114) (.int .i64 j) _ _ rfl rfl rfl (by exact wantA rfl) hs rfl ?_
            go_frame
            refine tree_load (some 115) (.pointer (some ⟨b1, o1 + j * 8, none⟩)) _ rfl rfl (by exact wantA rfl) hs (fun z hz => by go_simp) ?_
            go_frame
            refine tree_load (some 116) (.agg ⟨ks⟩) _ rfl rfl (by exact wantA rfl) hs (fun z hz => exec_sload 58 rfl b1 (o1 + j * 8) ks _ rfl (rangeAt_below HK1.out hz HBB.out.1) Tryz.underlying58 rfl (by rw [HL1.out]; kernel_rfl)) ?_
            go_frame
            refine tree_load (some 117) (.pointer (some ⟨pb, 4, none⟩)) _ rfl rfl (by exact wantA rfl) hs (fun z hz => by go_simp) ?_
            go_frame
            refine tree_load (some 118) (.slice (some ⟨b2, o2, none⟩) y.msgs.length b4) _ rfl rfl (by exact wantA rfl) hs (fun z hz => by have dd := ((HTR.out.on hz).cb 4 (v := .slice (some ⟨b2, o2, none⟩) y.msgs.length b4) (by rw [HY.out]; rfl)); go_simp) ?_
            go_frame
            refine tree_move (some 119) (.int .i64 j) _ _ rfl rfl rfl (by exact wantA rfl) hs rfl ?_
            go_frame
            refine tree_load (some 120) (.pointer (some ⟨b2, o2 + j * 8, none⟩)) _ rfl rfl (by exact wantA rfl) hs (fun z hz => by go_simp) ?_
            go_frame
            refine tree_load (some 121) (.agg ⟨ks'⟩) _ rfl rfl (by exact wantA rfl) hs (fun z hz => exec_sload 58 rfl b2 (o2 + j * 8) ks' _ rfl (rangeAt_below HK2.out hz HBB.out.2) Tryz.underlying58 rfl (by rw [HL2.out]; kernel_rfl)) ?_
            go_frame
            obtain ⟨jt, zt, hi1, hi2, hi3, hi4⟩ := info_zero (P := Tryz.prog) (T := 58) (n := 8) (by kernel_rfl)
            refine tree_two_boxes 58 jt zt hi1 hi2 (W := wr) (d1 := 9) (d2 := 10) (e1 := 116) (e2 := 121) (X := ks) (Y := ks') rfl hs rfl rfl rfl rfl rfl rfl rfl rfl rfl rfl rfl rfl rfl rfl rfl rfl (by decide) (fun _ _ => rfl) (fun _ _ => rfl) (fun _ _ => rfl) (fun _ _ => rfl) (by rw [HL1.out, hi3]) (by rw [HL2.out, hi3]) (by rw [hi1, hi3]; exact congrArg some hi4) HVX.out.one HVY.out.one ?_
            intro xb yb Z h3
            clear hi1 hi2 hi3 hi4 hs
            go_wp2
            go_meet
            case rel => exact ⟨xb, yb, rfl, rfl, h3⟩
          case rest =>
          obtain ⟨xb, yb, rfl, rfl, h3⟩ := hcut
          have HT3 := Lib.hid h3
          clear h3
          obtain ⟨⟨ct, ci, hX, hct, hci, hty, hin⟩, _, _⟩ := HVX.out
          obtain ⟨⟨dt, di, hY, hdt, hdi, hty', hin'⟩, _, _⟩ := HVY.out
          have KX : Hid (ks = [.string x5.name, .int .i64 x5.label] ++ (ct ++ (ci ++ []))) := Lib.hid (by rw [hX]; simp)
          have KY : Hid (ks' = [.string y5.name, .int .i64 y5.label] ++ (dt ++ (di ++ []))) := Lib.hid (by rw [hY]; simp)
          have KX2 : Hid (ks = ([.string x5.name, .int .i64 x5.label] ++ ct) ++ (ci ++ [])) := Lib.hid (by rw [KX.out, List.append_assoc])
          have KY2 : Hid (ks' = ([.string y5.name, .int .i64 y5.label] ++ dt) ++ (di ++ [])) := Lib.hid (by rw [KY.out, List.append_assoc])
          have KL1 : Hid (([.string x5.name, .int .i64 x5.label] ++ ct : List Value).length = 5) := Lib.hid (by rw [List.length_append, hct]; rfl)
          have KL2 : Hid (([.string y5.name, .int .i64 y5.label] ++ dt : List Value).length = 5) := Lib.hid (by rw [List.length_append, hdt]; rfl)
          have KCT := Lib.hid hct
          have KCI := Lib.hid hci
          have KDT := Lib.hid hdt
          have KDI := Lib.hid hdi
          have KTY := Lib.hid (And.intro hty hty')
          have KIN := Lib.hid (And.intro hin hin')
          have HO : Hid (res = ((x5.name.toList == y5.name.toList) && ((x5.label == y5.label) && (sameT x5.key y5.key && (sameT x5.body y5.body && (allB sameMs (x.msgs.drop (j + 1)) (y.msgs.drop (j + 1)) && rn)))))) := Lib.hid (by rw [HO2.out, HST.out, sameMs]; simp only [Bool.and_assoc])
          clear hX hY hct hci hdt hdi hty hty' hin hin'
          obtain ⟨f0, f1, f2, rfl⟩ := list3M KCI.out
          obtain ⟨g0, g1, g2, rfl⟩ := list3M KDI.out
          have d0 := HT3.out.ca 0 (v := .string x5.name) (by rw [KX.out]; rfl)
          have d1 := HT3.out.ca 1 (v := .int .i64 x5.label) (by rw [KX.out]; rfl)
          have e0 := HT3.out.cb 0 (v := .string y5.name) (by rw [KY.out]; rfl)
          have e1 := HT3.out.cb 1 (v := .int .i64 y5.label) (by rw [KY.out]; rfl)
          cases hk0 : (x5.name.toList == y5.name.toList) with
          | false =>
            have HV : Hid (res = false) := Lib.hid (by rw [HO.out, hk0]; rfl)
            go_wp2
            go_ret
            exact ⟨ret_bool HV.out.symm, (HTR.out.bel.trans (HT3.out.bel.mono HTR.out.bel.size))⟩
          | true =>
          cases hk1 : (x5.label == y5.label) with
          | false =>
            have hn1 : (x5.label != y5.label) = true := by rw [bne, hk1]; rfl
            have HV : Hid (res = false) := Lib.hid (by rw [HO.out, hk0, hk1]; rfl)
            go_wp2
            go_ret
            exact ⟨ret_bool HV.out.symm, (HTR.out.bel.trans (HT3.out.bel.mono HTR.out.bel.size))⟩
          | true =>
          have hn1 : (x5.label != y5.label) = false := by rw [bne, hk1]; rfl
          have HC2 : Hid (∀ z, Below wc.heap.size wc z → Calls Tryz.prog 25 #[.agg ⟨ct⟩, .agg ⟨dt⟩] z fun e w' => e = .returned (.bool (sameT x5.key y5.key)) ∧ Below z.heap.size z w') := Lib.hid fun z hz => by
            have hz2 := HTR.out.bel.trans ((HT3.out.bel.trans (hz.mono HT3.out.bel.size)).mono HTR.out.bel.size)
            exact rtsame_any _ _ ct dt z ((KTY.out.1.under hz2).more hz2.size) ((KTY.out.2.under hz2).more hz2.size)
          obtain ⟨s2, hk2⟩ : ∃ b, sameT x5.key y5.key = b := ⟨_, rfl⟩
          rw [hk2] at HC2
          cases s2 with
          | false =>
            have HV : Hid (res = false) := Lib.hid (by rw [HO.out, hk0, hk1, hk2]; rfl)
            clear hk2
            go_wp2_with (first | (go_at_call 25; refine (HC2.out wc (Below.refl _ _)).mono ?_; rintro e z2 ⟨rfl, hb2⟩; have HB2 := Lib.hid hb2; have u5_2 := (HT3.out.on HB2.out).ca 5 (v := f0) (tail_atM0 (i := 0) KX2.out KL1.out rfl); have u6_2 := (HT3.out.on HB2.out).ca 6 (v := f1) (tail_atM0 (i := 1) KX2.out KL1.out rfl); have u7_2 := (HT3.out.on HB2.out).ca 7 (v := f2) (tail_atM0 (i := 2) KX2.out KL1.out rfl); have v5_2 := (HT3.out.on HB2.out).cb 5 (v := g0) (tail_atM0 (i := 0) KY2.out KL2.out rfl); have v6_2 := (HT3.out.on HB2.out).cb 6 (v := g1) (tail_atM0 (i := 1) KY2.out KL2.out rfl); have v7_2 := (HT3.out.on HB2.out).cb 7 (v := g2) (tail_atM0 (i := 2) KY2.out KL2.out rfl); clear hb2) | ((with_reducible refine wl_sload 45 _ rfl ?hwl2 (yb) (2) (dt) _ rfl (HT3.out.rb 2 KY.out rfl) Tryz.underlying45 rfl ?hil2 ?_); (case hwl2 => (exact wantA rfl)); (case hil2 => rw [KDT.out]; kernel_rfl)) | ((with_reducible refine wl_sload 45 _ rfl ?hwl1 (xb) (2) (ct) _ rfl (HT3.out.ra 2 KX.out rfl) Tryz.underlying45 rfl ?hil1 ?_); (case hwl1 => (exact wantA rfl)); (case hil1 => rw [KCT.out]; kernel_rfl)))
            go_ret
            exact ⟨ret_bool HV.out.symm, (HTR.out.bel.trans (HT3.out.bel.mono HTR.out.bel.size)).trans (HB2.out.mono (HTR.out.bel.trans (HT3.out.bel.mono HTR.out.bel.size)).size)⟩
          | true =>
          have HC3 : Hid (∀ z, Below wc.heap.size wc z → Calls Tryz.prog 25 #[.agg ⟨[f0, f1, f2]⟩, .agg ⟨[g0, g1, g2]⟩] z fun e w' => e = .returned (.bool (sameT x5.body y5.body)) ∧ Below z.heap.size z w') := Lib.hid fun z hz => by
            have hz2 := HTR.out.bel.trans ((HT3.out.bel.trans (hz.mono HT3.out.bel.size)).mono HTR.out.bel.size)
            exact rtsame_any _ _ _ _ z ((KIN.out.1.under hz2).more hz2.size) ((KIN.out.2.under hz2).more hz2.size)
          obtain ⟨s3, hk3⟩ : ∃ b, sameT x5.body y5.body = b := ⟨_, rfl⟩
          rw [hk3] at HC3
          cases s3 with
          | false =>
            have HV : Hid (res = false) := Lib.hid (by rw [HO.out, hk0, hk1, hk2, hk3]; rfl)
            clear hk2 hk3
            go_wp2_with (first | (go_at_call 25; refine (HC3.out z2 HB2.out).mono ?_; rintro e z3 ⟨rfl, hb3⟩; have HB3 := Lib.hid (HB2.out.trans (hb3.mono HB2.out.size)); clear hb3) | (go_at_call 25; refine (HC2.out wc (Below.refl _ _)).mono ?_; rintro e z2 ⟨rfl, hb2⟩; have HB2 := Lib.hid hb2; have u5_2 := (HT3.out.on HB2.out).ca 5 (v := f0) (tail_atM0 (i := 0) KX2.out KL1.out rfl); have u6_2 := (HT3.out.on HB2.out).ca 6 (v := f1) (tail_atM0 (i := 1) KX2.out KL1.out rfl); have u7_2 := (HT3.out.on HB2.out).ca 7 (v := f2) (tail_atM0 (i := 2) KX2.out KL1.out rfl); have v5_2 := (HT3.out.on HB2.out).cb 5 (v := g0) (tail_atM0 (i := 0) KY2.out KL2.out rfl); have v6_2 := (HT3.out.on HB2.out).cb 6 (v := g1) (tail_atM0 (i := 1) KY2.out KL2.out rfl); have v7_2 := (HT3.out.on HB2.out).cb 7 (v := g2) (tail_atM0 (i := 2) KY2.out KL2.out rfl); clear hb2) | ((with_reducible refine wl_sload 45 _ rfl ?hwl2 (yb) (2) (dt) _ rfl (HT3.out.rb 2 KY.out rfl) Tryz.underlying45 rfl ?hil2 ?_); (case hwl2 => (exact wantA rfl)); (case hil2 => rw [KDT.out]; kernel_rfl)) | ((with_reducible refine wl_sload 45 _ rfl ?hwl1 (xb) (2) (ct) _ rfl (HT3.out.ra 2 KX.out rfl) Tryz.underlying45 rfl ?hil1 ?_); (case hwl1 => (exact wantA rfl)); (case hil1 => rw [KCT.out]; kernel_rfl)))
            go_ret
            exact ⟨ret_bool HV.out.symm, (HTR.out.bel.trans (HT3.out.bel.mono HTR.out.bel.size)).trans (HB3.out.mono (HTR.out.bel.trans (HT3.out.bel.mono HTR.out.bel.size)).size)⟩
          | true =>
          have HV : Hid (allB sameMs (x.msgs.drop (j + 1)) (y.msgs.drop (j + 1)) = rm) := Lib.hid (by rw [HST.out, sameMs, hk0, hk1, hk2, hk3]; rfl)
          clear hk2 hk3 HO
          go_wp2_with (first | (go_at_call 25; refine (HC3.out z2 HB2.out).mono ?_; rintro e z3 ⟨rfl, hb3⟩; have HB3 := Lib.hid (HB2.out.trans (hb3.mono HB2.out.size)); clear hb3) | (go_at_call 25; refine (HC2.out wc (Below.refl _ _)).mono ?_; rintro e z2 ⟨rfl, hb2⟩; have HB2 := Lib.hid hb2; have u5_2 := (HT3.out.on HB2.out).ca 5 (v := f0) (tail_atM0 (i := 0) KX2.out KL1.out rfl); have u6_2 := (HT3.out.on HB2.out).ca 6 (v := f1) (tail_atM0 (i := 1) KX2.out KL1.out rfl); have u7_2 := (HT3.out.on HB2.out).ca 7 (v := f2) (tail_atM0 (i := 2) KX2.out KL1.out rfl); have v5_2 := (HT3.out.on HB2.out).cb 5 (v := g0) (tail_atM0 (i := 0) KY2.out KL2.out rfl); have v6_2 := (HT3.out.on HB2.out).cb 6 (v := g1) (tail_atM0 (i := 1) KY2.out KL2.out rfl); have v7_2 := (HT3.out.on HB2.out).cb 7 (v := g2) (tail_atM0 (i := 2) KY2.out KL2.out rfl); clear hb2) | ((with_reducible refine wl_sload 45 _ rfl ?hwl2 (yb) (2) (dt) _ rfl (HT3.out.rb 2 KY.out rfl) Tryz.underlying45 rfl ?hil2 ?_); (case hwl2 => (exact wantA rfl)); (case hil2 => rw [KDT.out]; kernel_rfl)) | ((with_reducible refine wl_sload 45 _ rfl ?hwl1 (xb) (2) (ct) _ rfl (HT3.out.ra 2 KX.out rfl) Tryz.underlying45 rfl ?hil1 ?_); (case hwl1 => (exact wantA rfl)); (case hil1 => rw [KCT.out]; kernel_rfl)))
          go_roundg g
          case measure => omega
          case rel => exact ⟨j + 1, by omega, by go_num, HBW.out.trans ((HT3.out.bel.trans (HB3.out.mono HT3.out.bel.size)).mono HBW.out.size), HV.out⟩
    | succ g =>
      have hlt : (j : Int) < (x.vars.length : Int) := by omega
      have hlt2 : (j : Int) < (y.vars.length : Int) := by have := HN3.out; omega
      obtain ⟨x5, hx⟩ : ∃ e0, x.vars[j]? = some e0 := ⟨_, List.getElem?_eq_getElem (by omega)⟩
      obtain ⟨y5, hy⟩ : ∃ e0, y.vars[j]? = some e0 := ⟨_, List.getElem?_eq_getElem (by have := HN3.out; omega)⟩
      obtain ⟨b1, o1, rfl, hb1, hc1⟩ := HA3.out (by omega)
      obtain ⟨b2, o2, rfl, hb2, hc2⟩ := HA3'.out (by have := HN3.out; omega)
      obtain ⟨ks, hl1, hks, hvx⟩ := hc1 j x5 hx
      obtain ⟨ks', hl2, hks', hvy⟩ := hc2 j y5 hy
      have HL1 := Lib.hid hl1
      have HL2 := Lib.hid hl2
      have HK1 := Lib.hid (rangeAt_below hks HTR.out.bel hb1)
      have HK2 := Lib.hid (rangeAt_below hks' HTR.out.bel hb2)
      have HST := Lib.hid (HR.out.symm.trans (allB_at (f := sameVr) hx hy))
      have HVX := Lib.hid hvx
      have HVY := Lib.hid hvy
      have HBB : Hid (b1 < wr.heap.size ∧ b2 < wr.heap.size) := Lib.hid ⟨Nat.lt_of_lt_of_le hb1 HTR.out.bel.size, Nat.lt_of_lt_of_le hb2 HTR.out.bel.size⟩
      clear hx hy hc1 hc2 hks hks' hvx hvy hb1 hb2 hl1 hl2 HR
      go_upto_region 6 with (fail)
      clear x1 y1
      go_cut [6, 7] (fun p q z => ∃ xb yb, p = .pointer (some ⟨xb, 0, none⟩) ∧ q = .pointer (some ⟨yb, 0, none⟩) ∧ Two3 47 wr z xb yb ks ks')
      case first =>
        refine wp_region_tree (.take 0 (.take 1 (.take 2 (.take 3 (.take 4 (.take 5 (.take 6 (.take 7 (.take 8 (.take 9 (.two 10 11 (.act 11 (.act 12 (.act 13 .done))) (.act 10 (.act 12 (.act 13 .done)))))))))))))) (fun z => Below wr.heap.size wr z) (by kernel_rfl) (by kernel_rfl) (by kernel_rfl) rfl (by intro c a d v w h; cases d <;> exact h) ?_
        have hs : Below wr.heap.size wr wr.drew := (Below.refl _ _).drew
        generalize wr.drew = wd at hs ⊢
        refine tree_load (some 67) (.pointer (some ⟨w.heap.size, 3, none⟩)) _ rfl rfl (by exact wantA rfl) hs (fun z hz => by go_simp) ?_
        go_frame
        refine tree_load (some 68) (.slice (some ⟨b1, o1, none⟩) x.vars.length a3) _ rfl rfl (by exact wantA rfl) hs (fun z hz => by have dd := ((HTR.out.on hz).ca 3 (v := .slice (some ⟨b1, o1, none⟩) x.vars.length a3) (by rw [HX.out]; rfl)); go_simp) ?_
        go_frame
        refine tree_move (some 69) (.int .i64 j) _ _ rfl rfl rfl (by exact wantA rfl) hs rfl ?_
        go_frame
        refine tree_load (some 70) (.pointer (some ⟨b1, o1 + j * 11, none⟩)) _ rfl rfl (by exact wantA rfl) hs (fun z hz => by go_simp) ?_
        go_frame
        refine tree_load (some 71) (.agg ⟨ks⟩) _ rfl rfl (by exact wantA rfl) hs (fun z hz => exec_sload 47 rfl b1 (o1 + j * 11) ks _ rfl (rangeAt_below HK1.out hz HBB.out.1) Tryz.underlying47 rfl (by rw [HL1.out]; kernel_rfl)) ?_
        go_frame
        refine tree_load (some 72) (.pointer (some ⟨pb, 3, none⟩)) _ rfl rfl (by exact wantA rfl) hs (fun z hz => by go_simp) ?_
        go_frame
        refine tree_load (some 73) (.slice (some ⟨b2, o2, none⟩) y.vars.length b3) _ rfl rfl (by exact wantA rfl) hs (fun z hz => by have dd := ((HTR.out.on hz).cb 3 (v := .slice (some ⟨b2, o2, none⟩) y.vars.length b3) (by rw [HY.out]; rfl)); go_simp) ?_
        go_frame
        refine tree_move (some 74) (.int .i64 j) _ _ rfl rfl rfl (by exact wantA rfl) hs rfl ?_
        go_frame
        refine tree_load (some 75) (.pointer (some ⟨b2, o2 + j * 11, none⟩)) _ rfl rfl (by exact wantA rfl) hs (fun z hz => by go_simp) ?_
        go_frame
        refine tree_load (some 76) (.agg ⟨ks'⟩) _ rfl rfl (by exact wantA rfl) hs (fun z hz => exec_sload 47 rfl b2 (o2 + j * 11) ks' _ rfl (rangeAt_below HK2.out hz HBB.out.2) Tryz.underlying47 rfl (by rw [HL2.out]; kernel_rfl)) ?_
        go_frame
        obtain ⟨jt, zt, hi1, hi2, hi3, hi4⟩ := info_zero (P := Tryz.prog) (T := 47) (n := 11) (by kernel_rfl)
        refine tree_two_boxes 47 jt zt hi1 hi2 (W := wr) (d1 := 6) (d2 := 7) (e1 := 71) (e2 := 76) (X := ks) (Y := ks') rfl hs rfl rfl rfl rfl rfl rfl rfl rfl rfl rfl rfl rfl rfl rfl rfl rfl (by decide) (fun _ _ => rfl) (fun _ _ => rfl) (fun _ _ => rfl) (fun _ _ => rfl) (by rw [HL1.out, hi3]) (by rw [HL2.out, hi3]) (by rw [hi1, hi3]; exact congrArg some hi4) HVX.out.one HVY.out.one ?_
        intro xb yb Z h3
        clear hi1 hi2 hi3 hi4 hs
        go_wp2
        go_meet
        case rel => exact ⟨xb, yb, rfl, rfl, h3⟩
      case rest =>
      obtain ⟨xb, yb, rfl, rfl, h3⟩ := hcut
      have HT3 := Lib.hid h3
      clear h3
      obtain ⟨⟨ct, ci, hX, hct, hci, hty, hin⟩, _, _⟩ := HVX.out
      obtain ⟨⟨dt, di, hY, hdt, hdi, hty', hin'⟩, _, _⟩ := HVY.out
      have KX : Hid (ks = [.string x5.name, .int .i64 x5.label] ++ (ct ++ (ci ++ []))) := Lib.hid (by rw [hX]; simp)
      have KY : Hid (ks' = [.string y5.name, .int .i64 y5.label] ++ (dt ++ (di ++ []))) := Lib.hid (by rw [hY]; simp)
      have KX2 : Hid (ks = ([.string x5.name, .int .i64 x5.label] ++ ct) ++ (ci ++ [])) := Lib.hid (by rw [KX.out, List.append_assoc])
      have KY2 : Hid (ks' = ([.string y5.name, .int .i64 y5.label] ++ dt) ++ (di ++ [])) := Lib.hid (by rw [KY.out, List.append_assoc])
      have KL1 : Hid (([.string x5.name, .int .i64 x5.label] ++ ct : List Value).length = 5) := Lib.hid (by rw [List.length_append, hct]; rfl)
      have KL2 : Hid (([.string y5.name, .int .i64 y5.label] ++ dt : List Value).length = 5) := Lib.hid (by rw [List.length_append, hdt]; rfl)
      have KCT := Lib.hid hct
      have KCI := Lib.hid hci
      have KDT := Lib.hid hdt
      have KDI := Lib.hid hdi
      have KTY := Lib.hid (And.intro hty hty')
      have KIN := Lib.hid (And.intro hin hin')
      have HO : Hid (res = ((x5.name.toList == y5.name.toList) && ((x5.label == y5.label) && (sameT x5.type y5.type && ((ordV x5.init y5.init == 0) && (allB sameVr (x.vars.drop (j + 1)) (y.vars.drop (j + 1)) && (rm && rn))))))) := Lib.hid (by rw [HO2.out, HST.out, sameVr]; simp only [Bool.and_assoc])
      clear hX hY hct hci hdt hdi hty hty' hin hin'
      obtain ⟨f0, f1, f2, f3, f4, f5, rfl⟩ := list6M KCI.out
      obtain ⟨g0, g1, g2, g3, g4, g5, rfl⟩ := list6M KDI.out
      have d0 := HT3.out.ca 0 (v := .string x5.name) (by rw [KX.out]; rfl)
      have d1 := HT3.out.ca 1 (v := .int .i64 x5.label) (by rw [KX.out]; rfl)
      have e0 := HT3.out.cb 0 (v := .string y5.name) (by rw [KY.out]; rfl)
      have e1 := HT3.out.cb 1 (v := .int .i64 y5.label) (by rw [KY.out]; rfl)
      cases hk0 : (x5.name.toList == y5.name.toList) with
      | false =>
        have HV : Hid (res = false) := Lib.hid (by rw [HO.out, hk0]; rfl)
        go_wp2
        go_ret
        exact ⟨ret_bool HV.out.symm, (HTR.out.bel.trans (HT3.out.bel.mono HTR.out.bel.size))⟩
      | true =>
      cases hk1 : (x5.label == y5.label) with
      | false =>
        have hn1 : (x5.label != y5.label) = true := by rw [bne, hk1]; rfl
        have HV : Hid (res = false) := Lib.hid (by rw [HO.out, hk0, hk1]; rfl)
        go_wp2
        go_ret
        exact ⟨ret_bool HV.out.symm, (HTR.out.bel.trans (HT3.out.bel.mono HTR.out.bel.size))⟩
      | true =>
      have hn1 : (x5.label != y5.label) = false := by rw [bne, hk1]; rfl
      have HC2 : Hid (∀ z, Below wc.heap.size wc z → Calls Tryz.prog 25 #[.agg ⟨ct⟩, .agg ⟨dt⟩] z fun e w' => e = .returned (.bool (sameT x5.type y5.type)) ∧ Below z.heap.size z w') := Lib.hid fun z hz => by
        have hz2 := HTR.out.bel.trans ((HT3.out.bel.trans (hz.mono HT3.out.bel.size)).mono HTR.out.bel.size)
        exact rtsame_any _ _ ct dt z ((KTY.out.1.under hz2).more hz2.size) ((KTY.out.2.under hz2).more hz2.size)
      obtain ⟨s2, hk2⟩ : ∃ b, sameT x5.type y5.type = b := ⟨_, rfl⟩
      rw [hk2] at HC2
      cases s2 with
      | false =>
        have HV : Hid (res = false) := Lib.hid (by rw [HO.out, hk0, hk1, hk2]; rfl)
        clear hk2
        go_wp2_with (first | (go_at_call 25; refine (HC2.out wc (Below.refl _ _)).mono ?_; rintro e z2 ⟨rfl, hb2⟩; have HB2 := Lib.hid hb2; have u5_2 := (HT3.out.on HB2.out).ca 5 (v := f0) (tail_atM0 (i := 0) KX2.out KL1.out rfl); have u6_2 := (HT3.out.on HB2.out).ca 6 (v := f1) (tail_atM0 (i := 1) KX2.out KL1.out rfl); have u7_2 := (HT3.out.on HB2.out).ca 7 (v := f2) (tail_atM0 (i := 2) KX2.out KL1.out rfl); have u8_2 := (HT3.out.on HB2.out).ca 8 (v := f3) (tail_atM0 (i := 3) KX2.out KL1.out rfl); have u9_2 := (HT3.out.on HB2.out).ca 9 (v := f4) (tail_atM0 (i := 4) KX2.out KL1.out rfl); have u10_2 := (HT3.out.on HB2.out).ca 10 (v := f5) (tail_atM0 (i := 5) KX2.out KL1.out rfl); have v5_2 := (HT3.out.on HB2.out).cb 5 (v := g0) (tail_atM0 (i := 0) KY2.out KL2.out rfl); have v6_2 := (HT3.out.on HB2.out).cb 6 (v := g1) (tail_atM0 (i := 1) KY2.out KL2.out rfl); have v7_2 := (HT3.out.on HB2.out).cb 7 (v := g2) (tail_atM0 (i := 2) KY2.out KL2.out rfl); have v8_2 := (HT3.out.on HB2.out).cb 8 (v := g3) (tail_atM0 (i := 3) KY2.out KL2.out rfl); have v9_2 := (HT3.out.on HB2.out).cb 9 (v := g4) (tail_atM0 (i := 4) KY2.out KL2.out rfl); have v10_2 := (HT3.out.on HB2.out).cb 10 (v := g5) (tail_atM0 (i := 5) KY2.out KL2.out rfl); clear hb2) | ((with_reducible refine wl_sload 45 _ rfl ?hwl4 (yb) (2) (dt) _ rfl (HT3.out.rb 2 KY.out rfl) Tryz.underlying45 rfl ?hil4 ?_); (case hwl4 => (exact wantA rfl)); (case hil4 => rw [KDT.out]; kernel_rfl)) | ((with_reducible refine wl_sload 45 _ rfl ?hwl3 (xb) (2) (ct) _ rfl (HT3.out.ra 2 KX.out rfl) Tryz.underlying45 rfl ?hil3 ?_); (case hwl3 => (exact wantA rfl)); (case hil3 => rw [KCT.out]; kernel_rfl)))
        go_ret
        exact ⟨ret_bool HV.out.symm, (HTR.out.bel.trans (HT3.out.bel.mono HTR.out.bel.size)).trans (HB2.out.mono (HTR.out.bel.trans (HT3.out.bel.mono HTR.out.bel.size)).size)⟩
      | true =>
      have HC3 : Hid (∀ z, Below wc.heap.size wc z → Calls Tryz.prog 26 #[.agg ⟨[f0, f1, f2, f3, f4, f5]⟩, .agg ⟨[g0, g1, g2, g3, g4, g5]⟩] z fun e w' => e = .returned (.bool ((ordV x5.init y5.init == 0))) ∧ Below z.heap.size z w') := Lib.hid fun z hz => by
        have hz2 := HTR.out.bel.trans ((HT3.out.bel.trans (hz.mono HT3.out.bel.size)).mono HTR.out.bel.size)
        exact rsameV _ _ _ _ z ((KIN.out.1.under hz2).more hz2.size) ((KIN.out.2.under hz2).more hz2.size)
      obtain ⟨s3, hk3⟩ : ∃ b, (ordV x5.init y5.init == 0) = b := ⟨_, rfl⟩
      rw [hk3] at HC3
      cases s3 with
      | false =>
        have HV : Hid (res = false) := Lib.hid (by rw [HO.out, hk0, hk1, hk2, hk3]; rfl)
        clear hk2 hk3
        go_wp2_with (first | (go_at_call 26; refine (HC3.out z2 HB2.out).mono ?_; rintro e z3 ⟨rfl, hb3⟩; have HB3 := Lib.hid (HB2.out.trans (hb3.mono HB2.out.size)); clear hb3) | (go_at_call 25; refine (HC2.out wc (Below.refl _ _)).mono ?_; rintro e z2 ⟨rfl, hb2⟩; have HB2 := Lib.hid hb2; have u5_2 := (HT3.out.on HB2.out).ca 5 (v := f0) (tail_atM0 (i := 0) KX2.out KL1.out rfl); have u6_2 := (HT3.out.on HB2.out).ca 6 (v := f1) (tail_atM0 (i := 1) KX2.out KL1.out rfl); have u7_2 := (HT3.out.on HB2.out).ca 7 (v := f2) (tail_atM0 (i := 2) KX2.out KL1.out rfl); have u8_2 := (HT3.out.on HB2.out).ca 8 (v := f3) (tail_atM0 (i := 3) KX2.out KL1.out rfl); have u9_2 := (HT3.out.on HB2.out).ca 9 (v := f4) (tail_atM0 (i := 4) KX2.out KL1.out rfl); have u10_2 := (HT3.out.on HB2.out).ca 10 (v := f5) (tail_atM0 (i := 5) KX2.out KL1.out rfl); have v5_2 := (HT3.out.on HB2.out).cb 5 (v := g0) (tail_atM0 (i := 0) KY2.out KL2.out rfl); have v6_2 := (HT3.out.on HB2.out).cb 6 (v := g1) (tail_atM0 (i := 1) KY2.out KL2.out rfl); have v7_2 := (HT3.out.on HB2.out).cb 7 (v := g2) (tail_atM0 (i := 2) KY2.out KL2.out rfl); have v8_2 := (HT3.out.on HB2.out).cb 8 (v := g3) (tail_atM0 (i := 3) KY2.out KL2.out rfl); have v9_2 := (HT3.out.on HB2.out).cb 9 (v := g4) (tail_atM0 (i := 4) KY2.out KL2.out rfl); have v10_2 := (HT3.out.on HB2.out).cb 10 (v := g5) (tail_atM0 (i := 5) KY2.out KL2.out rfl); clear hb2) | ((with_reducible refine wl_sload 45 _ rfl ?hwl4 (yb) (2) (dt) _ rfl (HT3.out.rb 2 KY.out rfl) Tryz.underlying45 rfl ?hil4 ?_); (case hwl4 => (exact wantA rfl)); (case hil4 => rw [KDT.out]; kernel_rfl)) | ((with_reducible refine wl_sload 45 _ rfl ?hwl3 (xb) (2) (ct) _ rfl (HT3.out.ra 2 KX.out rfl) Tryz.underlying45 rfl ?hil3 ?_); (case hwl3 => (exact wantA rfl)); (case hil3 => rw [KCT.out]; kernel_rfl)))
        go_ret
        exact ⟨ret_bool HV.out.symm, (HTR.out.bel.trans (HT3.out.bel.mono HTR.out.bel.size)).trans (HB3.out.mono (HTR.out.bel.trans (HT3.out.bel.mono HTR.out.bel.size)).size)⟩
      | true =>
      have HV : Hid (allB sameVr (x.vars.drop (j + 1)) (y.vars.drop (j + 1)) = rv) := Lib.hid (by rw [HST.out, sameVr, hk0, hk1, hk2, hk3]; rfl)
      clear hk2 hk3 HO
      go_wp2_with (first | (go_at_call 26; refine (HC3.out z2 HB2.out).mono ?_; rintro e z3 ⟨rfl, hb3⟩; have HB3 := Lib.hid (HB2.out.trans (hb3.mono HB2.out.size)); clear hb3) | (go_at_call 25; refine (HC2.out wc (Below.refl _ _)).mono ?_; rintro e z2 ⟨rfl, hb2⟩; have HB2 := Lib.hid hb2; have u5_2 := (HT3.out.on HB2.out).ca 5 (v := f0) (tail_atM0 (i := 0) KX2.out KL1.out rfl); have u6_2 := (HT3.out.on HB2.out).ca 6 (v := f1) (tail_atM0 (i := 1) KX2.out KL1.out rfl); have u7_2 := (HT3.out.on HB2.out).ca 7 (v := f2) (tail_atM0 (i := 2) KX2.out KL1.out rfl); have u8_2 := (HT3.out.on HB2.out).ca 8 (v := f3) (tail_atM0 (i := 3) KX2.out KL1.out rfl); have u9_2 := (HT3.out.on HB2.out).ca 9 (v := f4) (tail_atM0 (i := 4) KX2.out KL1.out rfl); have u10_2 := (HT3.out.on HB2.out).ca 10 (v := f5) (tail_atM0 (i := 5) KX2.out KL1.out rfl); have v5_2 := (HT3.out.on HB2.out).cb 5 (v := g0) (tail_atM0 (i := 0) KY2.out KL2.out rfl); have v6_2 := (HT3.out.on HB2.out).cb 6 (v := g1) (tail_atM0 (i := 1) KY2.out KL2.out rfl); have v7_2 := (HT3.out.on HB2.out).cb 7 (v := g2) (tail_atM0 (i := 2) KY2.out KL2.out rfl); have v8_2 := (HT3.out.on HB2.out).cb 8 (v := g3) (tail_atM0 (i := 3) KY2.out KL2.out rfl); have v9_2 := (HT3.out.on HB2.out).cb 9 (v := g4) (tail_atM0 (i := 4) KY2.out KL2.out rfl); have v10_2 := (HT3.out.on HB2.out).cb 10 (v := g5) (tail_atM0 (i := 5) KY2.out KL2.out rfl); clear hb2) | ((with_reducible refine wl_sload 45 _ rfl ?hwl4 (yb) (2) (dt) _ rfl (HT3.out.rb 2 KY.out rfl) Tryz.underlying45 rfl ?hil4 ?_); (case hwl4 => (exact wantA rfl)); (case hil4 => rw [KDT.out]; kernel_rfl)) | ((with_reducible refine wl_sload 45 _ rfl ?hwl3 (xb) (2) (ct) _ rfl (HT3.out.ra 2 KX.out rfl) Tryz.underlying45 rfl ?hil3 ?_); (case hwl3 => (exact wantA rfl)); (case hil3 => rw [KCT.out]; kernel_rfl)))
      go_roundg g
      case measure => omega
      case rel => exact ⟨j + 1, by omega, by go_num, HBW.out.trans ((HT3.out.bel.trans (HB3.out.mono HT3.out.bel.size)).mono HBW.out.size), HV.out⟩
end Go.Proofs.YtpmjcbjdcjjplaaGreat
end
