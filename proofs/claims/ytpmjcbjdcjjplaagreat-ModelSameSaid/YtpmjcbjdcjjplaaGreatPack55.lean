/- Parts of a proof: RSamN, RSamN0, RSamN1, RSamN3, RSamN4. -/
import Derived.Test.YtpmjcbjdcjjplaaGreatPack35
import Derived.Test.YtpmjcbjdcjjplaaGreatPack40
import Derived.Test.YtpmjcbjdcjjplaaGreatPack41
import Derived.Test.YtpmjcbjdcjjplaaGreatPack42
import Derived.Test.YtpmjcbjdcjjplaaGreatPack43
section
namespace Go.Proofs.YtpmjcbjdcjjplaaGreat
open Go Go.RowKit
set_option linter.unusedVariables false
set_option linter.unusedSimpArgs false
set_option maxHeartbeats 16000000 in
set_option maxRecDepth 100000 in
theorem rnode_f2 (x y : NodeT) (X Y : List Value) (w : World) (hx : NodeAt w w.heap.size X x) (hy : NodeAt w w.heap.size Y y) (hk0 : (x.kind == y.kind) = true) (hk1 : (x.label == y.label) = true) (hk2 : (x.next == y.next) = false) :
    Calls Tryz.prog 27 #[.agg ⟨X⟩, .agg ⟨Y⟩] w fun e w' => e = .returned (.bool (sameNd x y)) ∧ Below w.heap.size w w' := by
  obtain ⟨⟨vn, vc, ce, cb, hX, hce, hcb, hnx, hcs, hcl, hex, hbd⟩, _⟩ := hx
  have HNX := Lib.hid hnx
  have HCS := Lib.hid hcs
  obtain ⟨hn1, NA, nc, rfl, hna⟩ := hnx
  obtain ⟨hn2, CA, cc, rfl, hca⟩ := hcs
  have HX : Hid (X = [.int .i64 x.kind, .int .i64 x.label, .slice NA x.next.length nc, .slice CA x.conds.length cc] ++ (ce ++ (cb ++ [.int .i64 x.var, .int .i64 x.msg, .int .i64 x.catch_, .int .i64 x.wait, .int .i64 x.from_]))) := Lib.hid (by rw [hX]; simp)
  have HX2 : Hid (X = ([.int .i64 x.kind, .int .i64 x.label, .slice NA x.next.length nc, .slice CA x.conds.length cc] ++ ce) ++ (cb ++ [.int .i64 x.var, .int .i64 x.msg, .int .i64 x.catch_, .int .i64 x.wait, .int .i64 x.from_])) := Lib.hid (by rw [HX.out, List.append_assoc])
  have HL : Hid (([.int .i64 x.kind, .int .i64 x.label, .slice NA x.next.length nc, .slice CA x.conds.length cc] ++ ce : List Value).length = 14) := Lib.hid (by rw [List.length_append, hce]; rfl)
  have HCE := Lib.hid hce
  have HCB := Lib.hid hcb
  have HEX := Lib.hid (And.intro hex hbd)
  have HCA := Lib.hid hca
  have HCN : Hid (x.conds.length ≤ maxLen) := Lib.hid hcl
  clear hX hce hcb hcl hex hbd hna hca hn1 hn2
  obtain ⟨⟨vn', vc', de, db, hY, hce', hcb', hnx', hcs', hcl', hex', hbd'⟩, _⟩ := hy
  have HNX' := Lib.hid hnx'
  have HCS' := Lib.hid hcs'
  obtain ⟨hn1', MA, nd, rfl, hna'⟩ := hnx'
  obtain ⟨hn2', DA, cd, rfl, hca'⟩ := hcs'
  have HY : Hid (Y = [.int .i64 y.kind, .int .i64 y.label, .slice MA y.next.length nd, .slice DA y.conds.length cd] ++ (de ++ (db ++ [.int .i64 y.var, .int .i64 y.msg, .int .i64 y.catch_, .int .i64 y.wait, .int .i64 y.from_]))) := Lib.hid (by rw [hY]; simp)
  have HY2 : Hid (Y = ([.int .i64 y.kind, .int .i64 y.label, .slice MA y.next.length nd, .slice DA y.conds.length cd] ++ de) ++ (db ++ [.int .i64 y.var, .int .i64 y.msg, .int .i64 y.catch_, .int .i64 y.wait, .int .i64 y.from_])) := Lib.hid (by rw [HY.out, List.append_assoc])
  have HL' : Hid (([.int .i64 y.kind, .int .i64 y.label, .slice MA y.next.length nd, .slice DA y.conds.length cd] ++ de : List Value).length = 14) := Lib.hid (by rw [List.length_append, hce']; rfl)
  have HCE' := Lib.hid hce'
  have HCB' := Lib.hid hcb'
  have HEX' := Lib.hid (And.intro hex' hbd')
  have HCA' := Lib.hid hca'
  have HCN' : Hid (y.conds.length ≤ maxLen) := Lib.hid hcl'
  clear hY hce' hcb' hcl' hex' hbd' hna' hca' hn1' hn2'
  obtain ⟨f0, f1, f2, f3, f4, f5, f6, f7, f8, f9, rfl⟩ := list10M HCE.out
  obtain ⟨g0, g1, g2, g3, g4, g5, g6, g7, g8, g9, rfl⟩ := list10M HCE'.out
  obtain ⟨k0, k1, k2, k3, k4, k5, k6, k7, k8, k9, rfl⟩ := list10M HCB.out
  obtain ⟨l0, l1, l2, l3, l4, l5, l6, l7, l8, l9, rfl⟩ := list10M HCB'.out
  have HO : Hid (sameNd x y = ((x.kind == y.kind) && ((x.label == y.label) && ((x.next == y.next) && (((x.conds.length : Int) == y.conds.length) && (sameE x.expr y.expr && (sameE x.body y.body && ((x.var == y.var) && ((x.msg == y.msg) && ((x.catch_ == y.catch_) && ((x.wait == y.wait) && ((x.from_ == y.from_) && sameEL x.conds y.conds)))))))))))) := Lib.hid (sameNd_ref x y)
  generalize sameNd x y = res at HO ⊢
  go_enter Tryz.func27, Tryz.ntmps27
  go_upto_region 1 with (fail)
  have HTB := Lib.hid (twoP_start 42 w X Y)
  generalize (w.alloc (.cells ⟨X⟩ 42)).alloc (.cells ⟨Y⟩ 42) = W at *
  obtain ⟨pb, hpb⟩ : ∃ pb, w.heap.size + 1 = pb := ⟨_, rfl⟩
  rw [hpb] at HTB
  rw [hpb]
  clear hpb
  have ra0 := HTB.out.ca 0 (v := .int .i64 x.kind) (by rw [HX.out]; rfl)
  have rb0 := HTB.out.cb 0 (v := .int .i64 y.kind) (by rw [HY.out]; rfl)
  have ra1 := HTB.out.ca 1 (v := .int .i64 x.label) (by rw [HX.out]; rfl)
  have rb1 := HTB.out.cb 1 (v := .int .i64 y.label) (by rw [HY.out]; rfl)
  have p2_ := HTB.out.ca 2 (v := (.slice NA x.next.length nc)) (by rw [HX.out]; rfl)
  have q2_ := HTB.out.cb 2 (v := (.slice MA y.next.length nd)) (by rw [HY.out]; rfl)
  have hn0 : (x.kind != y.kind) = false := by rw [bne, hk0]; rfl
  have hn1 : (x.label != y.label) = false := by rw [bne, hk1]; rfl
  have HC2 : Hid (∀ z, Below W.heap.size W z → Calls Tryz.prog 10 #[(.slice NA x.next.length nc), (.slice MA y.next.length nd)] z fun e w' => e = .returned (.bool ((x.next == y.next))) ∧ Below z.heap.size z w') := Lib.hid fun z hz => by
    have hz2 := HTB.out.bel.trans (hz.mono HTB.out.bel.size)
    exact (same_any _ _ _ _ z.heap.size z (intsR ((HNX.out.below hz2 (fun _ _ _ h2 => h2)).more hz2.size)) (intsR ((HNX'.out.below hz2 (fun _ _ _ h2 => h2)).more hz2.size))).mono fun e w' h => ⟨h.1, by obtain ⟨m, rfl⟩ := h.2; exact below_drewN (Below.refl _ _) m⟩
  rw [hk2] at HC2
  have HV : Hid (res = false) := Lib.hid (by rw [HO.out, hk0, hk1, hk2]; rfl)
  clear hk2
  go_wp2_with (first | (go_at_call 10; refine (HC2.out W (Below.refl _ _)).mono ?_; rintro e z2 ⟨rfl, hb2⟩; have HB2 := Lib.hid hb2; have p3_2 := (HTB.out.on HB2.out).ca 3 (v := (.slice CA x.conds.length cc)) (by rw [HX.out]; rfl); have q3_2 := (HTB.out.on HB2.out).cb 3 (v := (.slice DA y.conds.length cd)) (by rw [HY.out]; rfl); have u4_2 := (HTB.out.on HB2.out).ca 4 (v := f0) (by rw [HX.out]; rfl); have u5_2 := (HTB.out.on HB2.out).ca 5 (v := f1) (by rw [HX.out]; rfl); have u6_2 := (HTB.out.on HB2.out).ca 6 (v := f2) (by rw [HX.out]; rfl); have u7_2 := (HTB.out.on HB2.out).ca 7 (v := f3) (by rw [HX.out]; rfl); have u8_2 := (HTB.out.on HB2.out).ca 8 (v := f4) (by rw [HX.out]; rfl); have u9_2 := (HTB.out.on HB2.out).ca 9 (v := f5) (by rw [HX.out]; rfl); have u10_2 := (HTB.out.on HB2.out).ca 10 (v := f6) (by rw [HX.out]; rfl); have u11_2 := (HTB.out.on HB2.out).ca 11 (v := f7) (by rw [HX.out]; rfl); have u12_2 := (HTB.out.on HB2.out).ca 12 (v := f8) (by rw [HX.out]; rfl); have u13_2 := (HTB.out.on HB2.out).ca 13 (v := f9) (by rw [HX.out]; rfl); have v4_2 := (HTB.out.on HB2.out).cb 4 (v := g0) (by rw [HY.out]; rfl); have v5_2 := (HTB.out.on HB2.out).cb 5 (v := g1) (by rw [HY.out]; rfl); have v6_2 := (HTB.out.on HB2.out).cb 6 (v := g2) (by rw [HY.out]; rfl); have v7_2 := (HTB.out.on HB2.out).cb 7 (v := g3) (by rw [HY.out]; rfl); have v8_2 := (HTB.out.on HB2.out).cb 8 (v := g4) (by rw [HY.out]; rfl); have v9_2 := (HTB.out.on HB2.out).cb 9 (v := g5) (by rw [HY.out]; rfl); have v10_2 := (HTB.out.on HB2.out).cb 10 (v := g6) (by rw [HY.out]; rfl); have v11_2 := (HTB.out.on HB2.out).cb 11 (v := g7) (by rw [HY.out]; rfl); have v12_2 := (HTB.out.on HB2.out).cb 12 (v := g8) (by rw [HY.out]; rfl); have v13_2 := (HTB.out.on HB2.out).cb 13 (v := g9) (by rw [HY.out]; rfl); clear hb2))
  go_ret
  exact ⟨ret_bool HV.out.symm, HTB.out.bel.trans (HB2.out.mono HTB.out.bel.size)⟩
set_option maxHeartbeats 16000000 in
set_option maxRecDepth 100000 in
theorem rnode_f3 (x y : NodeT) (X Y : List Value) (w : World) (hx : NodeAt w w.heap.size X x) (hy : NodeAt w w.heap.size Y y) (hk0 : (x.kind == y.kind) = true) (hk1 : (x.label == y.label) = true) (hk2 : (x.next == y.next) = true) (hk3 : ((x.conds.length : Int) == y.conds.length) = false) :
    Calls Tryz.prog 27 #[.agg ⟨X⟩, .agg ⟨Y⟩] w fun e w' => e = .returned (.bool (sameNd x y)) ∧ Below w.heap.size w w' := by
  obtain ⟨⟨vn, vc, ce, cb, hX, hce, hcb, hnx, hcs, hcl, hex, hbd⟩, _⟩ := hx
  have HNX := Lib.hid hnx
  have HCS := Lib.hid hcs
  obtain ⟨hn1, NA, nc, rfl, hna⟩ := hnx
  obtain ⟨hn2, CA, cc, rfl, hca⟩ := hcs
  have HX : Hid (X = [.int .i64 x.kind, .int .i64 x.label, .slice NA x.next.length nc, .slice CA x.conds.length cc] ++ (ce ++ (cb ++ [.int .i64 x.var, .int .i64 x.msg, .int .i64 x.catch_, .int .i64 x.wait, .int .i64 x.from_]))) := Lib.hid (by rw [hX]; simp)
  have HX2 : Hid (X = ([.int .i64 x.kind, .int .i64 x.label, .slice NA x.next.length nc, .slice CA x.conds.length cc] ++ ce) ++ (cb ++ [.int .i64 x.var, .int .i64 x.msg, .int .i64 x.catch_, .int .i64 x.wait, .int .i64 x.from_])) := Lib.hid (by rw [HX.out, List.append_assoc])
  have HL : Hid (([.int .i64 x.kind, .int .i64 x.label, .slice NA x.next.length nc, .slice CA x.conds.length cc] ++ ce : List Value).length = 14) := Lib.hid (by rw [List.length_append, hce]; rfl)
  have HCE := Lib.hid hce
  have HCB := Lib.hid hcb
  have HEX := Lib.hid (And.intro hex hbd)
  have HCA := Lib.hid hca
  have HCN : Hid (x.conds.length ≤ maxLen) := Lib.hid hcl
  clear hX hce hcb hcl hex hbd hna hca hn1 hn2
  obtain ⟨⟨vn', vc', de, db, hY, hce', hcb', hnx', hcs', hcl', hex', hbd'⟩, _⟩ := hy
  have HNX' := Lib.hid hnx'
  have HCS' := Lib.hid hcs'
  obtain ⟨hn1', MA, nd, rfl, hna'⟩ := hnx'
  obtain ⟨hn2', DA, cd, rfl, hca'⟩ := hcs'
  have HY : Hid (Y = [.int .i64 y.kind, .int .i64 y.label, .slice MA y.next.length nd, .slice DA y.conds.length cd] ++ (de ++ (db ++ [.int .i64 y.var, .int .i64 y.msg, .int .i64 y.catch_, .int .i64 y.wait, .int .i64 y.from_]))) := Lib.hid (by rw [hY]; simp)
  have HY2 : Hid (Y = ([.int .i64 y.kind, .int .i64 y.label, .slice MA y.next.length nd, .slice DA y.conds.length cd] ++ de) ++ (db ++ [.int .i64 y.var, .int .i64 y.msg, .int .i64 y.catch_, .int .i64 y.wait, .int .i64 y.from_])) := Lib.hid (by rw [HY.out, List.append_assoc])
  have HL' : Hid (([.int .i64 y.kind, .int .i64 y.label, .slice MA y.next.length nd, .slice DA y.conds.length cd] ++ de : List Value).length = 14) := Lib.hid (by rw [List.length_append, hce']; rfl)
  have HCE' := Lib.hid hce'
  have HCB' := Lib.hid hcb'
  have HEX' := Lib.hid (And.intro hex' hbd')
  have HCA' := Lib.hid hca'
  have HCN' : Hid (y.conds.length ≤ maxLen) := Lib.hid hcl'
  clear hY hce' hcb' hcl' hex' hbd' hna' hca' hn1' hn2'
  obtain ⟨f0, f1, f2, f3, f4, f5, f6, f7, f8, f9, rfl⟩ := list10M HCE.out
  obtain ⟨g0, g1, g2, g3, g4, g5, g6, g7, g8, g9, rfl⟩ := list10M HCE'.out
  obtain ⟨k0, k1, k2, k3, k4, k5, k6, k7, k8, k9, rfl⟩ := list10M HCB.out
  obtain ⟨l0, l1, l2, l3, l4, l5, l6, l7, l8, l9, rfl⟩ := list10M HCB'.out
  have HO : Hid (sameNd x y = ((x.kind == y.kind) && ((x.label == y.label) && ((x.next == y.next) && (((x.conds.length : Int) == y.conds.length) && (sameE x.expr y.expr && (sameE x.body y.body && ((x.var == y.var) && ((x.msg == y.msg) && ((x.catch_ == y.catch_) && ((x.wait == y.wait) && ((x.from_ == y.from_) && sameEL x.conds y.conds)))))))))))) := Lib.hid (sameNd_ref x y)
  generalize sameNd x y = res at HO ⊢
  go_enter Tryz.func27, Tryz.ntmps27
  go_upto_region 1 with (fail)
  have HTB := Lib.hid (twoP_start 42 w X Y)
  generalize (w.alloc (.cells ⟨X⟩ 42)).alloc (.cells ⟨Y⟩ 42) = W at *
  obtain ⟨pb, hpb⟩ : ∃ pb, w.heap.size + 1 = pb := ⟨_, rfl⟩
  rw [hpb] at HTB
  rw [hpb]
  clear hpb
  have ra0 := HTB.out.ca 0 (v := .int .i64 x.kind) (by rw [HX.out]; rfl)
  have rb0 := HTB.out.cb 0 (v := .int .i64 y.kind) (by rw [HY.out]; rfl)
  have ra1 := HTB.out.ca 1 (v := .int .i64 x.label) (by rw [HX.out]; rfl)
  have rb1 := HTB.out.cb 1 (v := .int .i64 y.label) (by rw [HY.out]; rfl)
  have p2_ := HTB.out.ca 2 (v := (.slice NA x.next.length nc)) (by rw [HX.out]; rfl)
  have q2_ := HTB.out.cb 2 (v := (.slice MA y.next.length nd)) (by rw [HY.out]; rfl)
  have hn0 : (x.kind != y.kind) = false := by rw [bne, hk0]; rfl
  have hn1 : (x.label != y.label) = false := by rw [bne, hk1]; rfl
  have HC2 : Hid (∀ z, Below W.heap.size W z → Calls Tryz.prog 10 #[(.slice NA x.next.length nc), (.slice MA y.next.length nd)] z fun e w' => e = .returned (.bool ((x.next == y.next))) ∧ Below z.heap.size z w') := Lib.hid fun z hz => by
    have hz2 := HTB.out.bel.trans (hz.mono HTB.out.bel.size)
    exact (same_any _ _ _ _ z.heap.size z (intsR ((HNX.out.below hz2 (fun _ _ _ h2 => h2)).more hz2.size)) (intsR ((HNX'.out.below hz2 (fun _ _ _ h2 => h2)).more hz2.size))).mono fun e w' h => ⟨h.1, by obtain ⟨m, rfl⟩ := h.2; exact below_drewN (Below.refl _ _) m⟩
  rw [hk2] at HC2
  have hn3 : ((x.conds.length : Int) != y.conds.length) = true := by rw [bne, hk3]; rfl
  have HV : Hid (res = false) := Lib.hid (by rw [HO.out, hk0, hk1, hk2, hk3]; rfl)
  clear hk2
  go_wp2_with (first | (go_at_call 10; refine (HC2.out W (Below.refl _ _)).mono ?_; rintro e z2 ⟨rfl, hb2⟩; have HB2 := Lib.hid hb2; have p3_2 := (HTB.out.on HB2.out).ca 3 (v := (.slice CA x.conds.length cc)) (by rw [HX.out]; rfl); have q3_2 := (HTB.out.on HB2.out).cb 3 (v := (.slice DA y.conds.length cd)) (by rw [HY.out]; rfl); have u4_2 := (HTB.out.on HB2.out).ca 4 (v := f0) (by rw [HX.out]; rfl); have u5_2 := (HTB.out.on HB2.out).ca 5 (v := f1) (by rw [HX.out]; rfl); have u6_2 := (HTB.out.on HB2.out).ca 6 (v := f2) (by rw [HX.out]; rfl); have u7_2 := (HTB.out.on HB2.out).ca 7 (v := f3) (by rw [HX.out]; rfl); have u8_2 := (HTB.out.on HB2.out).ca 8 (v := f4) (by rw [HX.out]; rfl); have u9_2 := (HTB.out.on HB2.out).ca 9 (v := f5) (by rw [HX.out]; rfl); have u10_2 := (HTB.out.on HB2.out).ca 10 (v := f6) (by rw [HX.out]; rfl); have u11_2 := (HTB.out.on HB2.out).ca 11 (v := f7) (by rw [HX.out]; rfl); have u12_2 := (HTB.out.on HB2.out).ca 12 (v := f8) (by rw [HX.out]; rfl); have u13_2 := (HTB.out.on HB2.out).ca 13 (v := f9) (by rw [HX.out]; rfl); have v4_2 := (HTB.out.on HB2.out).cb 4 (v := g0) (by rw [HY.out]; rfl); have v5_2 := (HTB.out.on HB2.out).cb 5 (v := g1) (by rw [HY.out]; rfl); have v6_2 := (HTB.out.on HB2.out).cb 6 (v := g2) (by rw [HY.out]; rfl); have v7_2 := (HTB.out.on HB2.out).cb 7 (v := g3) (by rw [HY.out]; rfl); have v8_2 := (HTB.out.on HB2.out).cb 8 (v := g4) (by rw [HY.out]; rfl); have v9_2 := (HTB.out.on HB2.out).cb 9 (v := g5) (by rw [HY.out]; rfl); have v10_2 := (HTB.out.on HB2.out).cb 10 (v := g6) (by rw [HY.out]; rfl); have v11_2 := (HTB.out.on HB2.out).cb 11 (v := g7) (by rw [HY.out]; rfl); have v12_2 := (HTB.out.on HB2.out).cb 12 (v := g8) (by rw [HY.out]; rfl); have v13_2 := (HTB.out.on HB2.out).cb 13 (v := g9) (by rw [HY.out]; rfl); clear hb2))
  go_ret
  exact ⟨ret_bool HV.out.symm, HTB.out.bel.trans (HB2.out.mono HTB.out.bel.size)⟩
set_option maxHeartbeats 16000000 in
set_option maxRecDepth 100000 in
theorem rnode_f7 (x y : NodeT) (X Y : List Value) (w : World) (hx : NodeAt w w.heap.size X x) (hy : NodeAt w w.heap.size Y y) (hk0 : (x.kind == y.kind) = true) (hk1 : (x.label == y.label) = true) (hk2 : (x.next == y.next) = true) (hk3 : ((x.conds.length : Int) == y.conds.length) = true) (hk4 : sameE x.expr y.expr = true) (hk5 : sameE x.body y.body = true) (hk6 : (x.var == y.var) = true) (hk7 : (x.msg == y.msg) = false) :
    Calls Tryz.prog 27 #[.agg ⟨X⟩, .agg ⟨Y⟩] w fun e w' => e = .returned (.bool (sameNd x y)) ∧ Below w.heap.size w w' := by
  obtain ⟨⟨vn, vc, ce, cb, hX, hce, hcb, hnx, hcs, hcl, hex, hbd⟩, _⟩ := hx
  have HNX := Lib.hid hnx
  have HCS := Lib.hid hcs
  obtain ⟨hn1, NA, nc, rfl, hna⟩ := hnx
  obtain ⟨hn2, CA, cc, rfl, hca⟩ := hcs
  have HX : Hid (X = [.int .i64 x.kind, .int .i64 x.label, .slice NA x.next.length nc, .slice CA x.conds.length cc] ++ (ce ++ (cb ++ [.int .i64 x.var, .int .i64 x.msg, .int .i64 x.catch_, .int .i64 x.wait, .int .i64 x.from_]))) := Lib.hid (by rw [hX]; simp)
  have HX2 : Hid (X = ([.int .i64 x.kind, .int .i64 x.label, .slice NA x.next.length nc, .slice CA x.conds.length cc] ++ ce) ++ (cb ++ [.int .i64 x.var, .int .i64 x.msg, .int .i64 x.catch_, .int .i64 x.wait, .int .i64 x.from_])) := Lib.hid (by rw [HX.out, List.append_assoc])
  have HL : Hid (([.int .i64 x.kind, .int .i64 x.label, .slice NA x.next.length nc, .slice CA x.conds.length cc] ++ ce : List Value).length = 14) := Lib.hid (by rw [List.length_append, hce]; rfl)
  have HCE := Lib.hid hce
  have HCB := Lib.hid hcb
  have HEX := Lib.hid (And.intro hex hbd)
  have HCA := Lib.hid hca
  have HCN : Hid (x.conds.length ≤ maxLen) := Lib.hid hcl
  clear hX hce hcb hcl hex hbd hna hca hn1 hn2
  obtain ⟨⟨vn', vc', de, db, hY, hce', hcb', hnx', hcs', hcl', hex', hbd'⟩, _⟩ := hy
  have HNX' := Lib.hid hnx'
  have HCS' := Lib.hid hcs'
  obtain ⟨hn1', MA, nd, rfl, hna'⟩ := hnx'
  obtain ⟨hn2', DA, cd, rfl, hca'⟩ := hcs'
  have HY : Hid (Y = [.int .i64 y.kind, .int .i64 y.label, .slice MA y.next.length nd, .slice DA y.conds.length cd] ++ (de ++ (db ++ [.int .i64 y.var, .int .i64 y.msg, .int .i64 y.catch_, .int .i64 y.wait, .int .i64 y.from_]))) := Lib.hid (by rw [hY]; simp)
  have HY2 : Hid (Y = ([.int .i64 y.kind, .int .i64 y.label, .slice MA y.next.length nd, .slice DA y.conds.length cd] ++ de) ++ (db ++ [.int .i64 y.var, .int .i64 y.msg, .int .i64 y.catch_, .int .i64 y.wait, .int .i64 y.from_])) := Lib.hid (by rw [HY.out, List.append_assoc])
  have HL' : Hid (([.int .i64 y.kind, .int .i64 y.label, .slice MA y.next.length nd, .slice DA y.conds.length cd] ++ de : List Value).length = 14) := Lib.hid (by rw [List.length_append, hce']; rfl)
  have HCE' := Lib.hid hce'
  have HCB' := Lib.hid hcb'
  have HEX' := Lib.hid (And.intro hex' hbd')
  have HCA' := Lib.hid hca'
  have HCN' : Hid (y.conds.length ≤ maxLen) := Lib.hid hcl'
  clear hY hce' hcb' hcl' hex' hbd' hna' hca' hn1' hn2'
  obtain ⟨f0, f1, f2, f3, f4, f5, f6, f7, f8, f9, rfl⟩ := list10M HCE.out
  obtain ⟨g0, g1, g2, g3, g4, g5, g6, g7, g8, g9, rfl⟩ := list10M HCE'.out
  obtain ⟨k0, k1, k2, k3, k4, k5, k6, k7, k8, k9, rfl⟩ := list10M HCB.out
  obtain ⟨l0, l1, l2, l3, l4, l5, l6, l7, l8, l9, rfl⟩ := list10M HCB'.out
  have HO : Hid (sameNd x y = ((x.kind == y.kind) && ((x.label == y.label) && ((x.next == y.next) && (((x.conds.length : Int) == y.conds.length) && (sameE x.expr y.expr && (sameE x.body y.body && ((x.var == y.var) && ((x.msg == y.msg) && ((x.catch_ == y.catch_) && ((x.wait == y.wait) && ((x.from_ == y.from_) && sameEL x.conds y.conds)))))))))))) := Lib.hid (sameNd_ref x y)
  generalize sameNd x y = res at HO ⊢
  go_enter Tryz.func27, Tryz.ntmps27
  go_upto_region 1 with (fail)
  have HTB := Lib.hid (twoP_start 42 w X Y)
  generalize (w.alloc (.cells ⟨X⟩ 42)).alloc (.cells ⟨Y⟩ 42) = W at *
  obtain ⟨pb, hpb⟩ : ∃ pb, w.heap.size + 1 = pb := ⟨_, rfl⟩
  rw [hpb] at HTB
  rw [hpb]
  clear hpb
  have ra0 := HTB.out.ca 0 (v := .int .i64 x.kind) (by rw [HX.out]; rfl)
  have rb0 := HTB.out.cb 0 (v := .int .i64 y.kind) (by rw [HY.out]; rfl)
  have ra1 := HTB.out.ca 1 (v := .int .i64 x.label) (by rw [HX.out]; rfl)
  have rb1 := HTB.out.cb 1 (v := .int .i64 y.label) (by rw [HY.out]; rfl)
  have p2_ := HTB.out.ca 2 (v := (.slice NA x.next.length nc)) (by rw [HX.out]; rfl)
  have q2_ := HTB.out.cb 2 (v := (.slice MA y.next.length nd)) (by rw [HY.out]; rfl)
  have hn0 : (x.kind != y.kind) = false := by rw [bne, hk0]; rfl
  have hn1 : (x.label != y.label) = false := by rw [bne, hk1]; rfl
  have HC2 : Hid (∀ z, Below W.heap.size W z → Calls Tryz.prog 10 #[(.slice NA x.next.length nc), (.slice MA y.next.length nd)] z fun e w' => e = .returned (.bool ((x.next == y.next))) ∧ Below z.heap.size z w') := Lib.hid fun z hz => by
    have hz2 := HTB.out.bel.trans (hz.mono HTB.out.bel.size)
    exact (same_any _ _ _ _ z.heap.size z (intsR ((HNX.out.below hz2 (fun _ _ _ h2 => h2)).more hz2.size)) (intsR ((HNX'.out.below hz2 (fun _ _ _ h2 => h2)).more hz2.size))).mono fun e w' h => ⟨h.1, by obtain ⟨m, rfl⟩ := h.2; exact below_drewN (Below.refl _ _) m⟩
  rw [hk2] at HC2
  have hn3 : ((x.conds.length : Int) != y.conds.length) = false := by rw [bne, hk3]; rfl
  have HC4 : Hid (∀ z, Below W.heap.size W z → Calls Tryz.prog 53 #[.agg ⟨[f0, f1, f2, f3, f4, f5, f6, f7, f8, f9]⟩, .agg ⟨[g0, g1, g2, g3, g4, g5, g6, g7, g8, g9]⟩] z fun e w' => e = .returned (.bool (sameE x.expr y.expr)) ∧ Below z.heap.size z w') := Lib.hid fun z hz => by
    have hz2 := HTB.out.bel.trans (hz.mono HTB.out.bel.size)
    exact resame_any _ _ _ _ z ((HEX.out.1.under hz2).more hz2.size) ((HEX'.out.1.under hz2).more hz2.size)
  rw [hk4] at HC4
  have HC5 : Hid (∀ z, Below W.heap.size W z → Calls Tryz.prog 53 #[.agg ⟨[k0, k1, k2, k3, k4, k5, k6, k7, k8, k9]⟩, .agg ⟨[l0, l1, l2, l3, l4, l5, l6, l7, l8, l9]⟩] z fun e w' => e = .returned (.bool (sameE x.body y.body)) ∧ Below z.heap.size z w') := Lib.hid fun z hz => by
    have hz2 := HTB.out.bel.trans (hz.mono HTB.out.bel.size)
    exact resame_any _ _ _ _ z ((HEX.out.2.under hz2).more hz2.size) ((HEX'.out.2.under hz2).more hz2.size)
  rw [hk5] at HC5
  have hn6 : (x.var != y.var) = false := by rw [bne, hk6]; rfl
  have hn7 : (x.msg != y.msg) = true := by rw [bne, hk7]; rfl
  have HV : Hid (res = false) := Lib.hid (by rw [HO.out, hk0, hk1, hk2, hk3, hk4, hk5, hk6, hk7]; rfl)
  clear hk2 hk4 hk5
  go_wp2_with (first | (go_at_call 53; refine (HC5.out z4 HB4.out).mono ?_; rintro e z5 ⟨rfl, hb5⟩; have HB5 := Lib.hid (HB4.out.trans (hb5.mono HB4.out.size)); have ra2_5 := (HTB.out.on HB5.out).ca 24 (v := .int .i64 x.var) (tail_atM (i := 0) HX2.out HL.out HCB.out rfl); have rb2_5 := (HTB.out.on HB5.out).cb 24 (v := .int .i64 y.var) (tail_atM (i := 0) HY2.out HL'.out HCB'.out rfl); have ra3_5 := (HTB.out.on HB5.out).ca 25 (v := .int .i64 x.msg) (tail_atM (i := 1) HX2.out HL.out HCB.out rfl); have rb3_5 := (HTB.out.on HB5.out).cb 25 (v := .int .i64 y.msg) (tail_atM (i := 1) HY2.out HL'.out HCB'.out rfl); have ra4_5 := (HTB.out.on HB5.out).ca 26 (v := .int .i64 x.catch_) (tail_atM (i := 2) HX2.out HL.out HCB.out rfl); have rb4_5 := (HTB.out.on HB5.out).cb 26 (v := .int .i64 y.catch_) (tail_atM (i := 2) HY2.out HL'.out HCB'.out rfl); have ra5_5 := (HTB.out.on HB5.out).ca 27 (v := .int .i64 x.wait) (tail_atM (i := 3) HX2.out HL.out HCB.out rfl); have rb5_5 := (HTB.out.on HB5.out).cb 27 (v := .int .i64 y.wait) (tail_atM (i := 3) HY2.out HL'.out HCB'.out rfl); have ra6_5 := (HTB.out.on HB5.out).ca 28 (v := .int .i64 x.from_) (tail_atM (i := 4) HX2.out HL.out HCB.out rfl); have rb6_5 := (HTB.out.on HB5.out).cb 28 (v := .int .i64 y.from_) (tail_atM (i := 4) HY2.out HL'.out HCB'.out rfl); clear hb5) | (go_at_call 53; refine (HC4.out z2 HB2.out).mono ?_; rintro e z4 ⟨rfl, hb4⟩; have HB4 := Lib.hid (HB2.out.trans (hb4.mono HB2.out.size)); have u14_4 := (HTB.out.on HB4.out).ca 14 (v := k0) (by rw [HX.out]; rfl); have u15_4 := (HTB.out.on HB4.out).ca 15 (v := k1) (by rw [HX.out]; rfl); have u16_4 := (HTB.out.on HB4.out).ca 16 (v := k2) (by rw [HX.out]; rfl); have u17_4 := (HTB.out.on HB4.out).ca 17 (v := k3) (by rw [HX.out]; rfl); have u18_4 := (HTB.out.on HB4.out).ca 18 (v := k4) (by rw [HX.out]; rfl); have u19_4 := (HTB.out.on HB4.out).ca 19 (v := k5) (by rw [HX.out]; rfl); have u20_4 := (HTB.out.on HB4.out).ca 20 (v := k6) (by rw [HX.out]; rfl); have u21_4 := (HTB.out.on HB4.out).ca 21 (v := k7) (by rw [HX.out]; rfl); have u22_4 := (HTB.out.on HB4.out).ca 22 (v := k8) (by rw [HX.out]; rfl); have u23_4 := (HTB.out.on HB4.out).ca 23 (v := k9) (by rw [HX.out]; rfl); have v14_4 := (HTB.out.on HB4.out).cb 14 (v := l0) (by rw [HY.out]; rfl); have v15_4 := (HTB.out.on HB4.out).cb 15 (v := l1) (by rw [HY.out]; rfl); have v16_4 := (HTB.out.on HB4.out).cb 16 (v := l2) (by rw [HY.out]; rfl); have v17_4 := (HTB.out.on HB4.out).cb 17 (v := l3) (by rw [HY.out]; rfl); have v18_4 := (HTB.out.on HB4.out).cb 18 (v := l4) (by rw [HY.out]; rfl); have v19_4 := (HTB.out.on HB4.out).cb 19 (v := l5) (by rw [HY.out]; rfl); have v20_4 := (HTB.out.on HB4.out).cb 20 (v := l6) (by rw [HY.out]; rfl); have v21_4 := (HTB.out.on HB4.out).cb 21 (v := l7) (by rw [HY.out]; rfl); have v22_4 := (HTB.out.on HB4.out).cb 22 (v := l8) (by rw [HY.out]; rfl); have v23_4 := (HTB.out.on HB4.out).cb 23 (v := l9) (by rw [HY.out]; rfl); clear hb4) | (go_at_call 10; refine (HC2.out W (Below.refl _ _)).mono ?_; rintro e z2 ⟨rfl, hb2⟩; have HB2 := Lib.hid hb2; have p3_2 := (HTB.out.on HB2.out).ca 3 (v := (.slice CA x.conds.length cc)) (by rw [HX.out]; rfl); have q3_2 := (HTB.out.on HB2.out).cb 3 (v := (.slice DA y.conds.length cd)) (by rw [HY.out]; rfl); have u4_2 := (HTB.out.on HB2.out).ca 4 (v := f0) (by rw [HX.out]; rfl); have u5_2 := (HTB.out.on HB2.out).ca 5 (v := f1) (by rw [HX.out]; rfl); have u6_2 := (HTB.out.on HB2.out).ca 6 (v := f2) (by rw [HX.out]; rfl); have u7_2 := (HTB.out.on HB2.out).ca 7 (v := f3) (by rw [HX.out]; rfl); have u8_2 := (HTB.out.on HB2.out).ca 8 (v := f4) (by rw [HX.out]; rfl); have u9_2 := (HTB.out.on HB2.out).ca 9 (v := f5) (by rw [HX.out]; rfl); have u10_2 := (HTB.out.on HB2.out).ca 10 (v := f6) (by rw [HX.out]; rfl); have u11_2 := (HTB.out.on HB2.out).ca 11 (v := f7) (by rw [HX.out]; rfl); have u12_2 := (HTB.out.on HB2.out).ca 12 (v := f8) (by rw [HX.out]; rfl); have u13_2 := (HTB.out.on HB2.out).ca 13 (v := f9) (by rw [HX.out]; rfl); have v4_2 := (HTB.out.on HB2.out).cb 4 (v := g0) (by rw [HY.out]; rfl); have v5_2 := (HTB.out.on HB2.out).cb 5 (v := g1) (by rw [HY.out]; rfl); have v6_2 := (HTB.out.on HB2.out).cb 6 (v := g2) (by rw [HY.out]; rfl); have v7_2 := (HTB.out.on HB2.out).cb 7 (v := g3) (by rw [HY.out]; rfl); have v8_2 := (HTB.out.on HB2.out).cb 8 (v := g4) (by rw [HY.out]; rfl); have v9_2 := (HTB.out.on HB2.out).cb 9 (v := g5) (by rw [HY.out]; rfl); have v10_2 := (HTB.out.on HB2.out).cb 10 (v := g6) (by rw [HY.out]; rfl); have v11_2 := (HTB.out.on HB2.out).cb 11 (v := g7) (by rw [HY.out]; rfl); have v12_2 := (HTB.out.on HB2.out).cb 12 (v := g8) (by rw [HY.out]; rfl); have v13_2 := (HTB.out.on HB2.out).cb 13 (v := g9) (by rw [HY.out]; rfl); clear hb2))
  go_ret
  exact ⟨ret_bool HV.out.symm, HTB.out.bel.trans (HB5.out.mono HTB.out.bel.size)⟩
end Go.Proofs.YtpmjcbjdcjjplaaGreat
end
section
namespace Go.Proofs.YtpmjcbjdcjjplaaGreat
open Go Go.RowKit
set_option linter.unusedVariables false
set_option linter.unusedSimpArgs false
set_option maxHeartbeats 16000000 in
set_option maxRecDepth 100000 in
theorem rnode_f10 (x y : NodeT) (X Y : List Value) (w : World) (hx : NodeAt w w.heap.size X x) (hy : NodeAt w w.heap.size Y y) (hk0 : (x.kind == y.kind) = true) (hk1 : (x.label == y.label) = true) (hk2 : (x.next == y.next) = true) (hk3 : ((x.conds.length : Int) == y.conds.length) = true) (hk4 : sameE x.expr y.expr = true) (hk5 : sameE x.body y.body = true) (hk6 : (x.var == y.var) = true) (hk7 : (x.msg == y.msg) = true) (hk8 : (x.catch_ == y.catch_) = true) (hk9 : (x.wait == y.wait) = true) (hk10 : (x.from_ == y.from_) = false) :
    Calls Tryz.prog 27 #[.agg ⟨X⟩, .agg ⟨Y⟩] w fun e w' => e = .returned (.bool (sameNd x y)) ∧ Below w.heap.size w w' := by
  obtain ⟨⟨vn, vc, ce, cb, hX, hce, hcb, hnx, hcs, hcl, hex, hbd⟩, _⟩ := hx
  have HNX := Lib.hid hnx
  have HCS := Lib.hid hcs
  obtain ⟨hn1, NA, nc, rfl, hna⟩ := hnx
  obtain ⟨hn2, CA, cc, rfl, hca⟩ := hcs
  have HX : Hid (X = [.int .i64 x.kind, .int .i64 x.label, .slice NA x.next.length nc, .slice CA x.conds.length cc] ++ (ce ++ (cb ++ [.int .i64 x.var, .int .i64 x.msg, .int .i64 x.catch_, .int .i64 x.wait, .int .i64 x.from_]))) := Lib.hid (by rw [hX]; simp)
  have HX2 : Hid (X = ([.int .i64 x.kind, .int .i64 x.label, .slice NA x.next.length nc, .slice CA x.conds.length cc] ++ ce) ++ (cb ++ [.int .i64 x.var, .int .i64 x.msg, .int .i64 x.catch_, .int .i64 x.wait, .int .i64 x.from_])) := Lib.hid (by rw [HX.out, List.append_assoc])
  have HL : Hid (([.int .i64 x.kind, .int .i64 x.label, .slice NA x.next.length nc, .slice CA x.conds.length cc] ++ ce : List Value).length = 14) := Lib.hid (by rw [List.length_append, hce]; rfl)
  have HCE := Lib.hid hce
  have HCB := Lib.hid hcb
  have HEX := Lib.hid (And.intro hex hbd)
  have HCA := Lib.hid hca
  have HCN : Hid (x.conds.length ≤ maxLen) := Lib.hid hcl
  clear hX hce hcb hcl hex hbd hna hca hn1 hn2
  obtain ⟨⟨vn', vc', de, db, hY, hce', hcb', hnx', hcs', hcl', hex', hbd'⟩, _⟩ := hy
  have HNX' := Lib.hid hnx'
  have HCS' := Lib.hid hcs'
  obtain ⟨hn1', MA, nd, rfl, hna'⟩ := hnx'
  obtain ⟨hn2', DA, cd, rfl, hca'⟩ := hcs'
  have HY : Hid (Y = [.int .i64 y.kind, .int .i64 y.label, .slice MA y.next.length nd, .slice DA y.conds.length cd] ++ (de ++ (db ++ [.int .i64 y.var, .int .i64 y.msg, .int .i64 y.catch_, .int .i64 y.wait, .int .i64 y.from_]))) := Lib.hid (by rw [hY]; simp)
  have HY2 : Hid (Y = ([.int .i64 y.kind, .int .i64 y.label, .slice MA y.next.length nd, .slice DA y.conds.length cd] ++ de) ++ (db ++ [.int .i64 y.var, .int .i64 y.msg, .int .i64 y.catch_, .int .i64 y.wait, .int .i64 y.from_])) := Lib.hid (by rw [HY.out, List.append_assoc])
  have HL' : Hid (([.int .i64 y.kind, .int .i64 y.label, .slice MA y.next.length nd, .slice DA y.conds.length cd] ++ de : List Value).length = 14) := Lib.hid (by rw [List.length_append, hce']; rfl)
  have HCE' := Lib.hid hce'
  have HCB' := Lib.hid hcb'
  have HEX' := Lib.hid (And.intro hex' hbd')
  have HCA' := Lib.hid hca'
  have HCN' : Hid (y.conds.length ≤ maxLen) := Lib.hid hcl'
  clear hY hce' hcb' hcl' hex' hbd' hna' hca' hn1' hn2'
  obtain ⟨f0, f1, f2, f3, f4, f5, f6, f7, f8, f9, rfl⟩ := list10M HCE.out
  obtain ⟨g0, g1, g2, g3, g4, g5, g6, g7, g8, g9, rfl⟩ := list10M HCE'.out
  obtain ⟨k0, k1, k2, k3, k4, k5, k6, k7, k8, k9, rfl⟩ := list10M HCB.out
  obtain ⟨l0, l1, l2, l3, l4, l5, l6, l7, l8, l9, rfl⟩ := list10M HCB'.out
  have HO : Hid (sameNd x y = ((x.kind == y.kind) && ((x.label == y.label) && ((x.next == y.next) && (((x.conds.length : Int) == y.conds.length) && (sameE x.expr y.expr && (sameE x.body y.body && ((x.var == y.var) && ((x.msg == y.msg) && ((x.catch_ == y.catch_) && ((x.wait == y.wait) && ((x.from_ == y.from_) && sameEL x.conds y.conds)))))))))))) := Lib.hid (sameNd_ref x y)
  generalize sameNd x y = res at HO ⊢
  go_enter Tryz.func27, Tryz.ntmps27
  go_upto_region 1 with (fail)
  have HTB := Lib.hid (twoP_start 42 w X Y)
  generalize (w.alloc (.cells ⟨X⟩ 42)).alloc (.cells ⟨Y⟩ 42) = W at *
  obtain ⟨pb, hpb⟩ : ∃ pb, w.heap.size + 1 = pb := ⟨_, rfl⟩
  rw [hpb] at HTB
  rw [hpb]
  clear hpb
  have ra0 := HTB.out.ca 0 (v := .int .i64 x.kind) (by rw [HX.out]; rfl)
  have rb0 := HTB.out.cb 0 (v := .int .i64 y.kind) (by rw [HY.out]; rfl)
  have ra1 := HTB.out.ca 1 (v := .int .i64 x.label) (by rw [HX.out]; rfl)
  have rb1 := HTB.out.cb 1 (v := .int .i64 y.label) (by rw [HY.out]; rfl)
  have p2_ := HTB.out.ca 2 (v := (.slice NA x.next.length nc)) (by rw [HX.out]; rfl)
  have q2_ := HTB.out.cb 2 (v := (.slice MA y.next.length nd)) (by rw [HY.out]; rfl)
  have hn0 : (x.kind != y.kind) = false := by rw [bne, hk0]; rfl
  have hn1 : (x.label != y.label) = false := by rw [bne, hk1]; rfl
  have HC2 : Hid (∀ z, Below W.heap.size W z → Calls Tryz.prog 10 #[(.slice NA x.next.length nc), (.slice MA y.next.length nd)] z fun e w' => e = .returned (.bool ((x.next == y.next))) ∧ Below z.heap.size z w') := Lib.hid fun z hz => by
    have hz2 := HTB.out.bel.trans (hz.mono HTB.out.bel.size)
    exact (same_any _ _ _ _ z.heap.size z (intsR ((HNX.out.below hz2 (fun _ _ _ h2 => h2)).more hz2.size)) (intsR ((HNX'.out.below hz2 (fun _ _ _ h2 => h2)).more hz2.size))).mono fun e w' h => ⟨h.1, by obtain ⟨m, rfl⟩ := h.2; exact below_drewN (Below.refl _ _) m⟩
  rw [hk2] at HC2
  have hn3 : ((x.conds.length : Int) != y.conds.length) = false := by rw [bne, hk3]; rfl
  have HC4 : Hid (∀ z, Below W.heap.size W z → Calls Tryz.prog 53 #[.agg ⟨[f0, f1, f2, f3, f4, f5, f6, f7, f8, f9]⟩, .agg ⟨[g0, g1, g2, g3, g4, g5, g6, g7, g8, g9]⟩] z fun e w' => e = .returned (.bool (sameE x.expr y.expr)) ∧ Below z.heap.size z w') := Lib.hid fun z hz => by
    have hz2 := HTB.out.bel.trans (hz.mono HTB.out.bel.size)
    exact resame_any _ _ _ _ z ((HEX.out.1.under hz2).more hz2.size) ((HEX'.out.1.under hz2).more hz2.size)
  rw [hk4] at HC4
  have HC5 : Hid (∀ z, Below W.heap.size W z → Calls Tryz.prog 53 #[.agg ⟨[k0, k1, k2, k3, k4, k5, k6, k7, k8, k9]⟩, .agg ⟨[l0, l1, l2, l3, l4, l5, l6, l7, l8, l9]⟩] z fun e w' => e = .returned (.bool (sameE x.body y.body)) ∧ Below z.heap.size z w') := Lib.hid fun z hz => by
    have hz2 := HTB.out.bel.trans (hz.mono HTB.out.bel.size)
    exact resame_any _ _ _ _ z ((HEX.out.2.under hz2).more hz2.size) ((HEX'.out.2.under hz2).more hz2.size)
  rw [hk5] at HC5
  have hn6 : (x.var != y.var) = false := by rw [bne, hk6]; rfl
  have hn7 : (x.msg != y.msg) = false := by rw [bne, hk7]; rfl
  have hn8 : (x.catch_ != y.catch_) = false := by rw [bne, hk8]; rfl
  have hn9 : (x.wait != y.wait) = false := by rw [bne, hk9]; rfl
  have hn10 : (x.from_ != y.from_) = true := by rw [bne, hk10]; rfl
  have HV : Hid (res = false) := Lib.hid (by rw [HO.out, hk0, hk1, hk2, hk3, hk4, hk5, hk6, hk7, hk8, hk9, hk10]; rfl)
  clear hk2 hk4 hk5
  go_wp2_with (first | (go_at_call 53; refine (HC5.out z4 HB4.out).mono ?_; rintro e z5 ⟨rfl, hb5⟩; have HB5 := Lib.hid (HB4.out.trans (hb5.mono HB4.out.size)); have ra2_5 := (HTB.out.on HB5.out).ca 24 (v := .int .i64 x.var) (tail_atM (i := 0) HX2.out HL.out HCB.out rfl); have rb2_5 := (HTB.out.on HB5.out).cb 24 (v := .int .i64 y.var) (tail_atM (i := 0) HY2.out HL'.out HCB'.out rfl); have ra3_5 := (HTB.out.on HB5.out).ca 25 (v := .int .i64 x.msg) (tail_atM (i := 1) HX2.out HL.out HCB.out rfl); have rb3_5 := (HTB.out.on HB5.out).cb 25 (v := .int .i64 y.msg) (tail_atM (i := 1) HY2.out HL'.out HCB'.out rfl); have ra4_5 := (HTB.out.on HB5.out).ca 26 (v := .int .i64 x.catch_) (tail_atM (i := 2) HX2.out HL.out HCB.out rfl); have rb4_5 := (HTB.out.on HB5.out).cb 26 (v := .int .i64 y.catch_) (tail_atM (i := 2) HY2.out HL'.out HCB'.out rfl); have ra5_5 := (HTB.out.on HB5.out).ca 27 (v := .int .i64 x.wait) (tail_atM (i := 3) HX2.out HL.out HCB.out rfl); have rb5_5 := (HTB.out.on HB5.out).cb 27 (v := .int .i64 y.wait) (tail_atM (i := 3) HY2.out HL'.out HCB'.out rfl); have ra6_5 := (HTB.out.on HB5.out).ca 28 (v := .int .i64 x.from_) (tail_atM (i := 4) HX2.out HL.out HCB.out rfl); have rb6_5 := (HTB.out.on HB5.out).cb 28 (v := .int .i64 y.from_) (tail_atM (i := 4) HY2.out HL'.out HCB'.out rfl); clear hb5) | (go_at_call 53; refine (HC4.out z2 HB2.out).mono ?_; rintro e z4 ⟨rfl, hb4⟩; have HB4 := Lib.hid (HB2.out.trans (hb4.mono HB2.out.size)); have u14_4 := (HTB.out.on HB4.out).ca 14 (v := k0) (by rw [HX.out]; rfl); have u15_4 := (HTB.out.on HB4.out).ca 15 (v := k1) (by rw [HX.out]; rfl); have u16_4 := (HTB.out.on HB4.out).ca 16 (v := k2) (by rw [HX.out]; rfl); have u17_4 := (HTB.out.on HB4.out).ca 17 (v := k3) (by rw [HX.out]; rfl); have u18_4 := (HTB.out.on HB4.out).ca 18 (v := k4) (by rw [HX.out]; rfl); have u19_4 := (HTB.out.on HB4.out).ca 19 (v := k5) (by rw [HX.out]; rfl); have u20_4 := (HTB.out.on HB4.out).ca 20 (v := k6) (by rw [HX.out]; rfl); have u21_4 := (HTB.out.on HB4.out).ca 21 (v := k7) (by rw [HX.out]; rfl); have u22_4 := (HTB.out.on HB4.out).ca 22 (v := k8) (by rw [HX.out]; rfl); have u23_4 := (HTB.out.on HB4.out).ca 23 (v := k9) (by rw [HX.out]; rfl); have v14_4 := (HTB.out.on HB4.out).cb 14 (v := l0) (by rw [HY.out]; rfl); have v15_4 := (HTB.out.on HB4.out).cb 15 (v := l1) (by rw [HY.out]; rfl); have v16_4 := (HTB.out.on HB4.out).cb 16 (v := l2) (by rw [HY.out]; rfl); have v17_4 := (HTB.out.on HB4.out).cb 17 (v := l3) (by rw [HY.out]; rfl); have v18_4 := (HTB.out.on HB4.out).cb 18 (v := l4) (by rw [HY.out]; rfl); have v19_4 := (HTB.out.on HB4.out).cb 19 (v := l5) (by rw [HY.out]; rfl); have v20_4 := (HTB.out.on HB4.out).cb 20 (v := l6) (by rw [HY.out]; rfl); have v21_4 := (HTB.out.on HB4.out).cb 21 (v := l7) (by rw [HY.out]; rfl); have v22_4 := (HTB.out.on HB4.out).cb 22 (v := l8) (by rw [HY.out]; rfl); have v23_4 := (HTB.out.on HB4.out).cb 23 (v := l9) (by rw [HY.out]; rfl); clear hb4) | (go_at_call 10; refine (HC2.out W (Below.refl _ _)).mono ?_; rintro e z2 ⟨rfl, hb2⟩; have HB2 := Lib.hid hb2; have p3_2 := (HTB.out.on HB2.out).ca 3 (v := (.slice CA x.conds.length cc)) (by rw [HX.out]; rfl); have q3_2 := (HTB.out.on HB2.out).cb 3 (v := (.slice DA y.conds.length cd)) (by rw [HY.out]; rfl); have u4_2 := (HTB.out.on HB2.out).ca 4 (v := f0) (by rw [HX.out]; rfl); have u5_2 := (HTB.out.on HB2.out).ca 5 (v := f1) (by rw [HX.out]; rfl); have u6_2 := (HTB.out.on HB2.out).ca 6 (v := f2) (by rw [HX.out]; rfl); have u7_2 := (HTB.out.on HB2.out).ca 7 (v := f3) (by rw [HX.out]; rfl); have u8_2 := (HTB.out.on HB2.out).ca 8 (v := f4) (by rw [HX.out]; rfl); have u9_2 := (HTB.out.on HB2.out).ca 9 (v := f5) (by rw [HX.out]; rfl); have u10_2 := (HTB.out.on HB2.out).ca 10 (v := f6) (by rw [HX.out]; rfl); have u11_2 := (HTB.out.on HB2.out).ca 11 (v := f7) (by rw [HX.out]; rfl); have u12_2 := (HTB.out.on HB2.out).ca 12 (v := f8) (by rw [HX.out]; rfl); have u13_2 := (HTB.out.on HB2.out).ca 13 (v := f9) (by rw [HX.out]; rfl); have v4_2 := (HTB.out.on HB2.out).cb 4 (v := g0) (by rw [HY.out]; rfl); have v5_2 := (HTB.out.on HB2.out).cb 5 (v := g1) (by rw [HY.out]; rfl); have v6_2 := (HTB.out.on HB2.out).cb 6 (v := g2) (by rw [HY.out]; rfl); have v7_2 := (HTB.out.on HB2.out).cb 7 (v := g3) (by rw [HY.out]; rfl); have v8_2 := (HTB.out.on HB2.out).cb 8 (v := g4) (by rw [HY.out]; rfl); have v9_2 := (HTB.out.on HB2.out).cb 9 (v := g5) (by rw [HY.out]; rfl); have v10_2 := (HTB.out.on HB2.out).cb 10 (v := g6) (by rw [HY.out]; rfl); have v11_2 := (HTB.out.on HB2.out).cb 11 (v := g7) (by rw [HY.out]; rfl); have v12_2 := (HTB.out.on HB2.out).cb 12 (v := g8) (by rw [HY.out]; rfl); have v13_2 := (HTB.out.on HB2.out).cb 13 (v := g9) (by rw [HY.out]; rfl); clear hb2))
  go_ret
  exact ⟨ret_bool HV.out.symm, HTB.out.bel.trans (HB5.out.mono HTB.out.bel.size)⟩
end Go.Proofs.YtpmjcbjdcjjplaaGreat
end
