/- THE STATEMENT ValueInner is proved: for all two values the Go function ValueInner returns true, and its arguments read afterwards as before; without conditions. -/
import Derived.Test.YtieciegfloldhaaDoorInnerP
import Derived.Test.YtieciegfloldhaaDoorOpenV
import Derived.Test.YtieciegfloldhaaDoorCards
import Derived.Test.YtieciegfloldhaaDoorTie
import Derived.WalkKit
import Derived.Deep.DeepHandedRow
import Derived.SevenTiedAt
import Derived.Lib.LaidTab
namespace Go.Proofs.YtieciegfloldhaaDoor
open Go.ChangeShapes Go.WideShapes Go.ChangeAt Go.RowKit Go
set_option linter.unusedVariables false

def inD : OrdT := (.act 44 (.act 45 (.act 48 (.take 49 (.take 50 (.take 51 .done))))))
def inC : OrdT := (.act 32 (.act 33 (.take 34 (.take 35 (.take 36 (.take 37 (.take 38 (.take 41 (.take 42 (.take 46 (.take 47 (.two 39 43 (.two 40 43 (.act 43 inD) (.act 40 inD)) (.act 39 (.act 40 inD))))))))))))))
def inB : OrdT := (.act 22 (.act 23 (.take 24 (.take 25 (.take 26 (.take 27 (.take 29 (.take 30 (.two 28 31 (.act 31 inC) (.act 28 inC))))))))))
def inA : OrdT := (.act 7 (.act 8 (.act 11 (.take 12 (.take 13 (.take 14 (.take 15 (.take 18 (.take 19 (.take 20 (.two 16 21 (.two 17 21 (.act 21 inB) (.act 17 inB)) (.act 16 (.act 17 inB)))))))))))))
def in0 : OrdT := (.take 0 (.take 1 (.take 4 (.take 5 (.take 9 (.take 10 (.two 2 6 (.two 3 6 (.act 6 inA) (.act 3 inA)) (.act 2 (.act 3 inA)))))))))
set_option maxHeartbeats 8000000 in
set_option maxRecDepth 100000 in
theorem valueInner_walk (w : World) (cs1 : List Value) (t1 : VT) (hv1 : ValAt w w.heap.size cs1 t1) (cs2 : List Value) (t2 : VT) (hv2 : ValAt w w.heap.size cs2 t2) :
    Calls Tryd.prog 5 #[.agg ⟨cs1⟩, .agg ⟨cs2⟩] w fun e w' => e = .returned (.bool true) ∧ Below w.heap.size w w' := by
  have HC1 := Lib.hid (val_one hv1).1
  have HV1 := Lib.hid hv1
  have HC2 := Lib.hid (val_one hv2).1
  have HV2 := Lib.hid hv2
  clear hv1 hv2
  go_enter Tryd.func5, Tryd.ntmps5
  go_upto_region 1 with (fail)
  have HR1 := Lib.hid (range_box w cs1 26)
  have HB1 := Lib.hid (box_below w (.cells ⟨cs1⟩ 26))
  have HS1 : Hid ((w.alloc (.cells ⟨cs1⟩ 26)).heap.size = w.heap.size + 1) := Lib.hid (by simp)
  generalize w.alloc (.cells ⟨cs1⟩ 26) = U1 at *
  have HR2 := Lib.hid (range_box U1 cs2 26)
  have HB2 := Lib.hid (box_below U1 (.cells ⟨cs2⟩ 26))
  have HS2 : Hid ((U1.alloc (.cells ⟨cs2⟩ 26)).heap.size = U1.heap.size + 1) := Lib.hid (by simp)
  generalize U1.alloc (.cells ⟨cs2⟩ 26) = U2 at *
  obtain ⟨p1, hp1⟩ : ∃ p1, w.heap.size = p1 := ⟨_, rfl⟩
  obtain ⟨p2, hp2⟩ : ∃ p2, p1 + 1 = p2 := ⟨_, rfl⟩
  rw [hp1, hp2]
  have e1 : w.heap.size = p1 := by exact hp1
  have e2 : U1.heap.size = p2 := by have := HS1.out; omega
  have eW : U2.heap.size = p2 + 1 := by have := HS2.out; omega
  have HZ2 := Lib.hid (Below.refl U2.heap.size U2)
  have HZ1 : Hid (Below U1.heap.size U1 U2) := Lib.hid (HB2.out.trans (HZ2.out.mono (by have := HS2.out; omega)))
  have HX1 : Hid (U2.rangeAt p1 0 cs1) := Lib.hid (by have h := rangeAt_below HR1.out HZ1.out (show w.heap.size < U1.heap.size by have := HS1.out; omega); rw [e1] at h; exact h)
  have HX2 : Hid (U2.rangeAt p2 0 cs2) := Lib.hid (by have h := rangeAt_below HR2.out HZ2.out (show U1.heap.size < U2.heap.size by have := HS2.out; omega); rw [e2] at h; exact h)
  have HBW : Hid (Below w.heap.size w U2) := Lib.hid (HB1.out.trans (HZ1.out.mono (by have := HS1.out; omega)))
  have HY1 : Hid (ValAt U2 U2.heap.size cs1 t1) := Lib.hid (HV1.out.next HBW.out)
  have HY2 : Hid (ValAt U2 U2.heap.size cs2 t2) := Lib.hid (HV2.out.next HBW.out)
  have HLT : Hid (p1 < U2.heap.size ∧ p2 < U2.heap.size) := Lib.hid (by omega)
  clear HR1 HB1 HS1 HZ1 HV1 e1 hp1 HR2 HB2 HS2 HZ2 HV2 e2 hp2 eW
  obtain ⟨W, rfl⟩ : ∃ W, W = U2 := ⟨_, rfl⟩
  go_wp2_with (go_at_call 7; fail)
  refine (awake04 _).mono ?_
  rintro e v0 ⟨rfl, hb⟩
  have HK0 := Lib.hid hb
  clear hb
  have HRI1 := Lib.hid (rangeAt_below HX1.out HK0.out HLT.out.1)
  go_wp2_with (first | ((with_reducible refine wl_sload 26 _ rfl ?hwg p1 0 cs1 _ rfl HRI1.out Tryd.underlying26 rfl ?hig ?_); (case hwg => first | exact wanted_none rfl | exact wanted_if rfl rfl rfl rfl); (case hig => rw [HC1.out]; kernel_rfl)) | (go_at_call 8; fail))
  refine (vsmall t1 cs1 v0 (HY1.out.next HK0.out)).mono ?_
  rintro e v1 ⟨b, rfl, hb⟩
  have HK1 := Lib.hid (HK0.out.trans (hb.mono HK0.out.size))
  clear hb HRI1
  cases b with
  | false =>
    go_wp2_with (go_at_call 7; fail)
    refine (awake04 _).mono ?_
    rintro e wf ⟨rfl, hbf⟩
    have HBF := Lib.hid hbf
    clear hbf
    go_wp2
    go_ret
    exact ⟨rfl, HBW.out.trans ((HK1.out.trans (HBF.out.mono HK1.out.size)).mono HBW.out.size)⟩
  | true =>
    have HRI2 := Lib.hid (rangeAt_below HX2.out HK1.out HLT.out.2)
    go_wp2_with (first | ((with_reducible refine wl_sload 26 _ rfl ?hwg p2 0 cs2 _ rfl HRI2.out Tryd.underlying26 rfl ?hig ?_); (case hwg => first | exact wanted_none rfl | exact wanted_if rfl rfl rfl rfl); (case hig => rw [HC2.out]; kernel_rfl)) | (go_at_call 8; fail))
    refine (vsmall t2 cs2 v1 (HY2.out.next HK1.out)).mono ?_
    rintro e v2 ⟨b, rfl, hb⟩
    have HK2 := Lib.hid (HK1.out.trans (hb.mono HK1.out.size))
    clear hb HRI2
    cases b with
    | false =>
      go_wp2_with (go_at_call 7; fail)
      refine (awake04 _).mono ?_
      rintro e wf ⟨rfl, hbf⟩
      have HBF := Lib.hid hbf
      clear hbf
      go_wp2
      go_ret
      exact ⟨rfl, HBW.out.trans ((HK2.out.trans (HBF.out.mono HK2.out.size)).mono HBW.out.size)⟩
    | true =>
      go_upto_region 4 with (fail)
      obtain ⟨k1, n1, f1, s1, vn1, vi1, hcs1⟩ := val_shape HY1.out
      subst hcs1
      obtain ⟨k2, n2, f2, s2, vn2, vi2, hcs2⟩ := val_shape HY2.out
      subst hcs2
      obtain ⟨x, hx⟩ : ∃ x, ordV t1 t2 = x := ⟨_, rfl⟩
      have HXX := Lib.hid hx
      obtain ⟨y, hy⟩ : ∃ y, eqV t1 t2 = y := ⟨_, rfl⟩
      have HYY := Lib.hid hy
      clear hx hy
      refine wp_region_tree in0 (fun z => Below W.heap.size W z) (by kernel_rfl) (by kernel_rfl) ?ok rfl (by intro c a d v w h; cases d <;> exact h) ?_
      case ok =>
        refine ok_of [(0, true), (1, true), (4, true), (5, true), (9, true), (10, true)] (.two 2 6 (.two 3 6 (.act 6 inA) (.act 3 inA)) (.act 2 (.act 3 inA))) _ (by kernel_rfl) ?_
        refine ok_float (by decide) (by decide) (by kernel_rfl) (by kernel_rfl) (by kernel_rfl) (by kernel_rfl) (by kernel_rfl) ?_
        refine ok_of [(7, false), (8, false), (11, false), (12, true), (13, true), (14, true), (15, true), (18, true), (19, true), (20, true)] (.two 16 21 (.two 17 21 (.act 21 inB) (.act 17 inB)) (.act 16 (.act 17 inB))) _ (by kernel_rfl) ?_
        refine ok_float (by decide) (by decide) (by kernel_rfl) (by kernel_rfl) (by kernel_rfl) (by kernel_rfl) (by kernel_rfl) ?_
        refine ok_of [(22, false), (23, false), (24, true), (25, true), (26, true), (27, true), (29, true), (30, true)] (.two 28 31 (.act 31 inC) (.act 28 inC)) _ (by kernel_rfl) ?_
        refine ok_pair (by decide) (by kernel_rfl) (by kernel_rfl) (by kernel_rfl) ?_
        refine ok_of [(32, false), (33, false), (34, true), (35, true), (36, true), (37, true), (38, true), (41, true), (42, true), (46, true), (47, true)] (.two 39 43 (.two 40 43 (.act 43 inD) (.act 40 inD)) (.act 39 (.act 40 inD))) _ (by kernel_rfl) ?_
        refine ok_float (by decide) (by decide) (by kernel_rfl) (by kernel_rfl) (by kernel_rfl) (by kernel_rfl) (by kernel_rfl) ?_
        refine ok_of [(44, false), (45, false), (48, false), (49, true), (50, true), (51, true)] .done _ (by kernel_rfl) ?_
        kernel_rfl
      have hs0 : Below W.heap.size W v2.drew := HK2.out.drew
      refine tree_move (some 19) (.func (.func 13) #[] #[]) _ _ rfl rfl rfl (by first | exact wanted_none rfl | exact wanted_if rfl rfl rfl rfl) hs0 rfl ?_
      go_frame
      refine tree_load (some 20) (.agg ⟨[.int .i64 k1, .int .i64 n1, .float .f64 f1, .string s1, vn1, vi1]⟩) _ rfl rfl (by first | exact wanted_none rfl | exact wanted_if rfl rfl rfl rfl) hs0 (fun z hz => exec_sload 26 rfl p1 0 [.int .i64 k1, .int .i64 n1, .float .f64 f1, .string s1, vn1, vi1] _ rfl (rangeAt_below HX1.out hz HLT.out.1) Tryd.underlying26 rfl (by kernel_rfl)) ?_
      go_frame
      refine tree_move (some 23) (.func (.func 13) #[] #[]) _ _ rfl rfl rfl (by first | exact wanted_none rfl | exact wanted_if rfl rfl rfl rfl) hs0 rfl ?_
      go_frame
      refine tree_load (some 24) (.agg ⟨[.int .i64 k2, .int .i64 n2, .float .f64 f2, .string s2, vn2, vi2]⟩) _ rfl rfl (by first | exact wanted_none rfl | exact wanted_if rfl rfl rfl rfl) hs0 (fun z hz => exec_sload 26 rfl p2 0 [.int .i64 k2, .int .i64 n2, .float .f64 f2, .string s2, vn2, vi2] _ rfl (rangeAt_below HX2.out hz HLT.out.2) Tryd.underlying26 rfl (by kernel_rfl)) ?_
      go_frame
      refine tree_load (some 28) (.agg ⟨[.int .i64 k1, .int .i64 n1, .float .f64 f1, .string s1, vn1, vi1]⟩) _ rfl rfl (by first | exact wanted_none rfl | exact wanted_if rfl rfl rfl rfl) hs0 (fun z hz => exec_sload 26 rfl p1 0 [.int .i64 k1, .int .i64 n1, .float .f64 f1, .string s1, vn1, vi1] _ rfl (rangeAt_below HX1.out hz HLT.out.1) Tryd.underlying26 rfl (by kernel_rfl)) ?_
      go_frame
      refine tree_load (some 29) (.agg ⟨[.int .i64 k2, .int .i64 n2, .float .f64 f2, .string s2, vn2, vi2]⟩) _ rfl rfl (by first | exact wanted_none rfl | exact wanted_if rfl rfl rfl rfl) hs0 (fun z hz => exec_sload 26 rfl p2 0 [.int .i64 k2, .int .i64 n2, .float .f64 f2, .string s2, vn2, vi2] _ rfl (rangeAt_below HX2.out hz HLT.out.2) Tryd.underlying26 rfl (by kernel_rfl)) ?_
      go_frame
      refine tree_float (i := 2) (k := 3) (j := 6) (d1 := 21) (d2 := 22) (d3 := 25) (n1 := 1) (n3 := 1) (T := 26) (LitAt 1 [.int .i64 k1, .int .i64 n1, .float .f64 f1, .string s1, vn1, vi1]) (LitAt 1 [.int .i64 k2, .int .i64 n2, .float .f64 f2, .string s2, vn2, vi2]) fList 13 #[.int .i64 k1, .int .i64 n1, .float .f64 f1, .string s1, vn1, vi1] #[.int .i64 k2, .int .i64 n2, .float .f64 f2, .string s2, vn2, vi2] _ _ _ rfl rfl rfl rfl rfl rfl (by first | exact wanted_none rfl | exact wanted_if rfl rfl rfl rfl) (fun v => (by first | exact wanted_none rfl | exact wanted_if rfl rfl rfl rfl)) (fun u => (by first | exact wanted_none rfl | exact wanted_if rfl rfl rfl rfl)) (fun u v => (by first | exact wanted_none rfl | exact wanted_if rfl rfl rfl rfl)) (by first | exact wanted_none rfl | exact wanted_if rfl rfl rfl rfl) (fun u => (by first | exact wanted_none rfl | exact wanted_if rfl rfl rfl rfl)) (fun u v => (by first | exact wanted_none rfl | exact wanted_if rfl rfl rfl rfl)) (fun z => by first | (go_simp; done) | (go_simp; rfl)) (fun v z => by first | (go_simp; done) | (go_simp; rfl)) (fun u z => by first | (go_simp; done) | (go_simp; rfl)) (fun u v z => by first | (go_simp; done) | (go_simp; rfl)) (fun z => by first | (go_simp; done) | (go_simp; rfl)) (fun u z => by first | (go_simp; done) | (go_simp; rfl)) (fun u v z => by first | (go_simp; done) | (go_simp; rfl)) ?fc2 (fun z hz => hz.alloc hz.size _) (fun z hz => hz.alloc hz.size _) (fun z => LitAt.new 1 [.int .i64 k1, .int .i64 n1, .float .f64 f1, .string s1, vn1, vi1] z _) (fun z => LitAt.new 1 [.int .i64 k2, .int .i64 n2, .float .f64 f2, .string s2, vn2, vi2] z _) (fun u z h => h.alloc _) (fun u z h => h.alloc _) (by decide) (by decide) hs0 ?_
      case fc2 =>
        intro u z hz hu
        refine (call_list u 1 _ z hu).mono ?_
        rintro e z' ⟨rfl, hb⟩
        exact ⟨rfl, hz.trans (hb.mono hz.size), hu.next hb, fun v hv => hv.next hb⟩
      intro u1 u2 z1 hs1 hu1 hu2
      go_frame
      refine tree_calld (some 26) _ 13 #[u2] rfl rfl (by first | exact wanted_none rfl | exact wanted_if rfl rfl rfl rfl) (by go_simp) ?_
      refine (call_list u2 1 [.int .i64 k2, .int .i64 n2, .float .f64 f2, .string s2, vn2, vi2] _ hu2).mono ?_
      rintro e z2 ⟨rfl, hb⟩
      have hs2 : Below W.heap.size W z2 := hs1.trans (hb.mono hs1.size)
      refine ⟨_, rfl, hs2, ?_⟩
      replace hu1 := hu1.next hb
      replace hu2 := hu2.next hb
      clear hb
      go_frame
      refine tree_to (some 27) 9 Tryd.func9 (by kernel_rfl) (by kernel_rfl) [fList u1, fList u2] _ _ _ rfl rfl rfl (by first | exact wanted_none rfl | exact wanted_if rfl rfl rfl rfl) rfl ?_
      refine (vorder (tList [t1]) (tList [t2]) (csList u1) (csList u2) _ (list1_val hu1 (HY1.out.next hs2)) (list1_val hu2 (HY2.out.next hs2))).mono ?_
      rintro e z3 ⟨rfl, hb⟩
      rw [ord_one, HXX.out]
      have hs3 : Below W.heap.size W z3 := hs2.trans (hb.mono hs2.size)
      refine ⟨(.int .i64 x), rfl, hs3, ?_⟩
      clear hb
      go_frame
      refine tree_to (some 30) 9 Tryd.func9 (by kernel_rfl) (by kernel_rfl) [.agg ⟨[.int .i64 k1, .int .i64 n1, .float .f64 f1, .string s1, vn1, vi1]⟩, .agg ⟨[.int .i64 k2, .int .i64 n2, .float .f64 f2, .string s2, vn2, vi2]⟩] _ _ _ rfl rfl rfl (by first | exact wanted_none rfl | exact wanted_if rfl rfl rfl rfl) rfl ?_
      refine (vorder t1 t2 [.int .i64 k1, .int .i64 n1, .float .f64 f1, .string s1, vn1, vi1] [.int .i64 k2, .int .i64 n2, .float .f64 f2, .string s2, vn2, vi2] _ (HY1.out.next hs3) (HY2.out.next hs3)).mono ?_
      rintro e z4 ⟨rfl, hb⟩
      rw [HXX.out]
      have hs4 : Below W.heap.size W z4 := hs3.trans (hb.mono hs3.size)
      refine ⟨(.int .i64 x), rfl, hs4, ?_⟩
      clear hb
      go_frame
      clear hu1 hu2
      refine tree_load (some 31) (.bool true) _ rfl rfl (by first | exact wanted_none rfl | exact wanted_if rfl rfl rfl rfl) hs4 (fun z hz => by go_simp) ?_
      go_frame
      refine tree_move (some 32) (.bool true) _ _ rfl rfl rfl (by first | exact wanted_none rfl | exact wanted_if rfl rfl rfl rfl) hs4 rfl ?_
      go_frame
      refine tree_move (some 33) (.func (.func 13) #[] #[]) _ _ rfl rfl rfl (by first | exact wanted_none rfl | exact wanted_if rfl rfl rfl rfl) hs4 rfl ?_
      go_frame
      refine tree_load (some 34) (.agg ⟨[.int .i64 k1, .int .i64 n1, .float .f64 f1, .string s1, vn1, vi1]⟩) _ rfl rfl (by first | exact wanted_none rfl | exact wanted_if rfl rfl rfl rfl) hs4 (fun z hz => exec_sload 26 rfl p1 0 [.int .i64 k1, .int .i64 n1, .float .f64 f1, .string s1, vn1, vi1] _ rfl (rangeAt_below HX1.out hz HLT.out.1) Tryd.underlying26 rfl (by kernel_rfl)) ?_
      go_frame
      refine tree_move (some 37) (.func (.func 13) #[] #[]) _ _ rfl rfl rfl (by first | exact wanted_none rfl | exact wanted_if rfl rfl rfl rfl) hs4 rfl ?_
      go_frame
      refine tree_load (some 38) (.agg ⟨[.int .i64 k1, .int .i64 n1, .float .f64 f1, .string s1, vn1, vi1]⟩) _ rfl rfl (by first | exact wanted_none rfl | exact wanted_if rfl rfl rfl rfl) hs4 (fun z hz => exec_sload 26 rfl p1 0 [.int .i64 k1, .int .i64 n1, .float .f64 f1, .string s1, vn1, vi1] _ rfl (rangeAt_below HX1.out hz HLT.out.1) Tryd.underlying26 rfl (by kernel_rfl)) ?_
      go_frame
      refine tree_load (some 39) (.agg ⟨[.int .i64 k2, .int .i64 n2, .float .f64 f2, .string s2, vn2, vi2]⟩) _ rfl rfl (by first | exact wanted_none rfl | exact wanted_if rfl rfl rfl rfl) hs4 (fun z hz => exec_sload 26 rfl p2 0 [.int .i64 k2, .int .i64 n2, .float .f64 f2, .string s2, vn2, vi2] _ rfl (rangeAt_below HX2.out hz HLT.out.2) Tryd.underlying26 rfl (by kernel_rfl)) ?_
      go_frame
      refine tree_float (i := 16) (k := 17) (j := 21) (d1 := 35) (d2 := 36) (d3 := 40) (n1 := 1) (n3 := 2) (T := 26) (LitAt 1 [.int .i64 k1, .int .i64 n1, .float .f64 f1, .string s1, vn1, vi1]) (LitAt 2 ([.int .i64 k1, .int .i64 n1, .float .f64 f1, .string s1, vn1, vi1] ++ [.int .i64 k2, .int .i64 n2, .float .f64 f2, .string s2, vn2, vi2])) fList 13 #[.int .i64 k1, .int .i64 n1, .float .f64 f1, .string s1, vn1, vi1] #[.int .i64 k1, .int .i64 n1, .float .f64 f1, .string s1, vn1, vi1, .int .i64 k2, .int .i64 n2, .float .f64 f2, .string s2, vn2, vi2] _ _ _ rfl rfl rfl rfl rfl rfl (by first | exact wanted_none rfl | exact wanted_if rfl rfl rfl rfl) (fun v => (by first | exact wanted_none rfl | exact wanted_if rfl rfl rfl rfl)) (fun u => (by first | exact wanted_none rfl | exact wanted_if rfl rfl rfl rfl)) (fun u v => (by first | exact wanted_none rfl | exact wanted_if rfl rfl rfl rfl)) (by first | exact wanted_none rfl | exact wanted_if rfl rfl rfl rfl) (fun u => (by first | exact wanted_none rfl | exact wanted_if rfl rfl rfl rfl)) (fun u v => (by first | exact wanted_none rfl | exact wanted_if rfl rfl rfl rfl)) (fun z => by first | (go_simp; done) | (go_simp; rfl)) (fun v z => by first | (go_simp; done) | (go_simp; rfl)) (fun u z => by first | (go_simp; done) | (go_simp; rfl)) (fun u v z => by first | (go_simp; done) | (go_simp; rfl)) (fun z => by first | (go_simp; done) | (go_simp; rfl)) (fun u z => by first | (go_simp; done) | (go_simp; rfl)) (fun u v z => by first | (go_simp; done) | (go_simp; rfl)) ?fc16 (fun z hz => hz.alloc hz.size _) (fun z hz => hz.alloc hz.size _) (fun z => LitAt.new 1 [.int .i64 k1, .int .i64 n1, .float .f64 f1, .string s1, vn1, vi1] z _) (fun z => LitAt.new 2 ([.int .i64 k1, .int .i64 n1, .float .f64 f1, .string s1, vn1, vi1] ++ [.int .i64 k2, .int .i64 n2, .float .f64 f2, .string s2, vn2, vi2]) z _) (fun u z h => h.alloc _) (fun u z h => h.alloc _) (by decide) (by decide) hs4 ?_
      case fc16 =>
        intro u z hz hu
        refine (call_list u 1 _ z hu).mono ?_
        rintro e z' ⟨rfl, hb⟩
        exact ⟨rfl, hz.trans (hb.mono hz.size), hu.next hb, fun v hv => hv.next hb⟩
      intro u3 u4 z5 hs5 hu3 hu4
      go_frame
      refine tree_calld (some 41) _ 13 #[u4] rfl rfl (by first | exact wanted_none rfl | exact wanted_if rfl rfl rfl rfl) (by go_simp) ?_
      refine (call_list u4 2 ([.int .i64 k1, .int .i64 n1, .float .f64 f1, .string s1, vn1, vi1] ++ [.int .i64 k2, .int .i64 n2, .float .f64 f2, .string s2, vn2, vi2]) _ hu4).mono ?_
      rintro e z6 ⟨rfl, hb⟩
      have hs6 : Below W.heap.size W z6 := hs5.trans (hb.mono hs5.size)
      refine ⟨_, rfl, hs6, ?_⟩
      replace hu3 := hu3.next hb
      replace hu4 := hu4.next hb
      clear hb
      go_frame
      refine tree_to (some 42) 9 Tryd.func9 (by kernel_rfl) (by kernel_rfl) [fList u3, fList u4] _ _ _ rfl rfl rfl (by first | exact wanted_none rfl | exact wanted_if rfl rfl rfl rfl) rfl ?_
      refine (vorder (tList [t1]) (tList [t1, t2]) (csList u3) (csList u4) _ (list1_val hu3 (HY1.out.next hs6)) (list2_val hu4 (HY1.out.next hs6) (HY2.out.next hs6))).mono ?_
      rintro e z7 ⟨rfl, hb⟩
      rw [ord_more]
      have hs7 : Below W.heap.size W z7 := hs6.trans (hb.mono hs6.size)
      refine ⟨(.int .i64 (-1)), rfl, hs7, ?_⟩
      clear hb
      go_frame
      clear hu3 hu4
      refine tree_load (some 43) (.bool true) _ rfl rfl (by first | exact wanted_none rfl | exact wanted_if rfl rfl rfl rfl) hs7 (fun z hz => by go_simp) ?_
      go_frame
      refine tree_pick (some 44) (.bool true) _ _ _ _ true rfl rfl rfl rfl (by first | exact wanted_none rfl | exact wanted_if rfl rfl rfl rfl) hs7 rfl ?_
      go_frame
      refine tree_move (some 45) (.bool true) _ _ rfl rfl rfl (by first | exact wanted_none rfl | exact wanted_if rfl rfl rfl rfl) hs7 rfl ?_
      go_frame
      refine tree_move (some 46) (.func (.func 13) #[] #[]) _ _ rfl rfl rfl (by first | exact wanted_none rfl | exact wanted_if rfl rfl rfl rfl) hs7 rfl ?_
      go_frame
      refine tree_move (some 48) (.func (.func 13) #[] #[]) _ _ rfl rfl rfl (by first | exact wanted_none rfl | exact wanted_if rfl rfl rfl rfl) hs7 rfl ?_
      go_frame
      refine tree_load (some 49) (.agg ⟨[.int .i64 k1, .int .i64 n1, .float .f64 f1, .string s1, vn1, vi1]⟩) _ rfl rfl (by first | exact wanted_none rfl | exact wanted_if rfl rfl rfl rfl) hs7 (fun z hz => exec_sload 26 rfl p1 0 [.int .i64 k1, .int .i64 n1, .float .f64 f1, .string s1, vn1, vi1] _ rfl (rangeAt_below HX1.out hz HLT.out.1) Tryd.underlying26 rfl (by kernel_rfl)) ?_
      go_frame
      refine tree_pair2 (i := 28) (j := 31) (d1 := 47) (d2 := 50) (n := 1) (T := 26) (fun v z => v = fList (.slice none 0 0)) (LitAt 1 [.int .i64 k1, .int .i64 n1, .float .f64 f1, .string s1, vn1, vi1]) 13 #[.slice none 0 0] #[.int .i64 k1, .int .i64 n1, .float .f64 f1, .string s1, vn1, vi1] _ _ rfl rfl rfl rfl (by first | exact wanted_none rfl | exact wanted_if rfl rfl rfl rfl) (fun v => (by first | exact wanted_none rfl | exact wanted_if rfl rfl rfl rfl)) (by first | exact wanted_none rfl | exact wanted_if rfl rfl rfl rfl) (fun v => (by first | exact wanted_none rfl | exact wanted_if rfl rfl rfl rfl)) (fun z => by first | (go_simp; done) | (go_simp; rfl)) (fun v z => by first | (go_simp; done) | (go_simp; rfl)) (fun z => by first | (go_simp; done) | (go_simp; rfl)) (fun v z => by first | (go_simp; done) | (go_simp; rfl)) ?pc28 (fun z hz => hz.alloc hz.size _) (fun v z h => h) (fun z => LitAt.new 1 [.int .i64 k1, .int .i64 n1, .float .f64 f1, .string s1, vn1, vi1] z _) (by decide) hs7 ?_
      case pc28 =>
        intro z hz
        refine (mk_list none 0 0 z).mono ?_
        rintro e z' ⟨rfl, hb⟩
        exact ⟨_, rfl, hz.trans (hb.mono hz.size), rfl, fun v hv => hv.next hb⟩
      intro u5 u6 z8 hs8 hu5 hu6
      subst hu5
      go_frame
      refine tree_calld (some 51) _ 13 #[u6] rfl rfl (by first | exact wanted_none rfl | exact wanted_if rfl rfl rfl rfl) (by go_simp) ?_
      refine (call_list u6 1 [.int .i64 k1, .int .i64 n1, .float .f64 f1, .string s1, vn1, vi1] _ hu6).mono ?_
      rintro e z9 ⟨rfl, hb⟩
      have hs9 : Below W.heap.size W z9 := hs8.trans (hb.mono hs8.size)
      refine ⟨_, rfl, hs9, ?_⟩
      replace hu6 := hu6.next hb
      clear hb
      go_frame
      refine tree_to (some 52) 9 Tryd.func9 (by kernel_rfl) (by kernel_rfl) [fList (.slice none 0 0), fList u6] _ _ _ rfl rfl rfl (by first | exact wanted_none rfl | exact wanted_if rfl rfl rfl rfl) rfl ?_
      refine (vorder (tList []) (tList [t1]) (csList (.slice none 0 0)) (csList u6) _ (list0_val _) (list1_val hu6 (HY1.out.next hs9))).mono ?_
      rintro e z10 ⟨rfl, hb⟩
      rw [ord_none]
      have hs10 : Below W.heap.size W z10 := hs9.trans (hb.mono hs9.size)
      refine ⟨(.int .i64 (-1)), rfl, hs10, ?_⟩
      clear hb
      go_frame
      clear hu6
      refine tree_load (some 53) (.bool true) _ rfl rfl (by first | exact wanted_none rfl | exact wanted_if rfl rfl rfl rfl) hs10 (fun z hz => by go_simp) ?_
      go_frame
      refine tree_pick (some 54) (.bool true) _ _ _ _ true rfl rfl rfl rfl (by first | exact wanted_none rfl | exact wanted_if rfl rfl rfl rfl) hs10 rfl ?_
      go_frame
      refine tree_move (some 55) (.bool true) _ _ rfl rfl rfl (by first | exact wanted_none rfl | exact wanted_if rfl rfl rfl rfl) hs10 rfl ?_
      go_frame
      refine tree_move (some 56) (.func (.func 13) #[] #[]) _ _ rfl rfl rfl (by first | exact wanted_none rfl | exact wanted_if rfl rfl rfl rfl) hs10 rfl ?_
      go_frame
      refine tree_load (some 57) (.agg ⟨[.int .i64 k1, .int .i64 n1, .float .f64 f1, .string s1, vn1, vi1]⟩) _ rfl rfl (by first | exact wanted_none rfl | exact wanted_if rfl rfl rfl rfl) hs10 (fun z hz => exec_sload 26 rfl p1 0 [.int .i64 k1, .int .i64 n1, .float .f64 f1, .string s1, vn1, vi1] _ rfl (rangeAt_below HX1.out hz HLT.out.1) Tryd.underlying26 rfl (by kernel_rfl)) ?_
      go_frame
      refine tree_move (some 60) (.func (.func 13) #[] #[]) _ _ rfl rfl rfl (by first | exact wanted_none rfl | exact wanted_if rfl rfl rfl rfl) hs10 rfl ?_
      go_frame
      refine tree_load (some 61) (.agg ⟨[.int .i64 k2, .int .i64 n2, .float .f64 f2, .string s2, vn2, vi2]⟩) _ rfl rfl (by first | exact wanted_none rfl | exact wanted_if rfl rfl rfl rfl) hs10 (fun z hz => exec_sload 26 rfl p2 0 [.int .i64 k2, .int .i64 n2, .float .f64 f2, .string s2, vn2, vi2] _ rfl (rangeAt_below HX2.out hz HLT.out.2) Tryd.underlying26 rfl (by kernel_rfl)) ?_
      go_frame
      refine tree_load (some 65) (.agg ⟨[.int .i64 k1, .int .i64 n1, .float .f64 f1, .string s1, vn1, vi1]⟩) _ rfl rfl (by first | exact wanted_none rfl | exact wanted_if rfl rfl rfl rfl) hs10 (fun z hz => exec_sload 26 rfl p1 0 [.int .i64 k1, .int .i64 n1, .float .f64 f1, .string s1, vn1, vi1] _ rfl (rangeAt_below HX1.out hz HLT.out.1) Tryd.underlying26 rfl (by kernel_rfl)) ?_
      go_frame
      refine tree_load (some 66) (.agg ⟨[.int .i64 k2, .int .i64 n2, .float .f64 f2, .string s2, vn2, vi2]⟩) _ rfl rfl (by first | exact wanted_none rfl | exact wanted_if rfl rfl rfl rfl) hs10 (fun z hz => exec_sload 26 rfl p2 0 [.int .i64 k2, .int .i64 n2, .float .f64 f2, .string s2, vn2, vi2] _ rfl (rangeAt_below HX2.out hz HLT.out.2) Tryd.underlying26 rfl (by kernel_rfl)) ?_
      go_frame
      refine tree_float (i := 39) (k := 40) (j := 43) (d1 := 58) (d2 := 59) (d3 := 62) (n1 := 1) (n3 := 1) (T := 26) (LitAt 1 [.int .i64 k1, .int .i64 n1, .float .f64 f1, .string s1, vn1, vi1]) (LitAt 1 [.int .i64 k2, .int .i64 n2, .float .f64 f2, .string s2, vn2, vi2]) fList 13 #[.int .i64 k1, .int .i64 n1, .float .f64 f1, .string s1, vn1, vi1] #[.int .i64 k2, .int .i64 n2, .float .f64 f2, .string s2, vn2, vi2] _ _ _ rfl rfl rfl rfl rfl rfl (by first | exact wanted_none rfl | exact wanted_if rfl rfl rfl rfl) (fun v => (by first | exact wanted_none rfl | exact wanted_if rfl rfl rfl rfl)) (fun u => (by first | exact wanted_none rfl | exact wanted_if rfl rfl rfl rfl)) (fun u v => (by first | exact wanted_none rfl | exact wanted_if rfl rfl rfl rfl)) (by first | exact wanted_none rfl | exact wanted_if rfl rfl rfl rfl) (fun u => (by first | exact wanted_none rfl | exact wanted_if rfl rfl rfl rfl)) (fun u v => (by first | exact wanted_none rfl | exact wanted_if rfl rfl rfl rfl)) (fun z => by first | (go_simp; done) | (go_simp; rfl)) (fun v z => by first | (go_simp; done) | (go_simp; rfl)) (fun u z => by first | (go_simp; done) | (go_simp; rfl)) (fun u v z => by first | (go_simp; done) | (go_simp; rfl)) (fun z => by first | (go_simp; done) | (go_simp; rfl)) (fun u z => by first | (go_simp; done) | (go_simp; rfl)) (fun u v z => by first | (go_simp; done) | (go_simp; rfl)) ?fc39 (fun z hz => hz.alloc hz.size _) (fun z hz => hz.alloc hz.size _) (fun z => LitAt.new 1 [.int .i64 k1, .int .i64 n1, .float .f64 f1, .string s1, vn1, vi1] z _) (fun z => LitAt.new 1 [.int .i64 k2, .int .i64 n2, .float .f64 f2, .string s2, vn2, vi2] z _) (fun u z h => h.alloc _) (fun u z h => h.alloc _) (by decide) (by decide) hs10 ?_
      case fc39 =>
        intro u z hz hu
        refine (call_list u 1 _ z hu).mono ?_
        rintro e z' ⟨rfl, hb⟩
        exact ⟨rfl, hz.trans (hb.mono hz.size), hu.next hb, fun v hv => hv.next hb⟩
      intro u7 u8 z11 hs11 hu7 hu8
      go_frame
      refine tree_calld (some 63) _ 13 #[u8] rfl rfl (by first | exact wanted_none rfl | exact wanted_if rfl rfl rfl rfl) (by go_simp) ?_
      refine (call_list u8 1 [.int .i64 k2, .int .i64 n2, .float .f64 f2, .string s2, vn2, vi2] _ hu8).mono ?_
      rintro e z12 ⟨rfl, hb⟩
      have hs12 : Below W.heap.size W z12 := hs11.trans (hb.mono hs11.size)
      refine ⟨_, rfl, hs12, ?_⟩
      replace hu7 := hu7.next hb
      replace hu8 := hu8.next hb
      clear hb
      go_frame
      refine tree_to (some 64) 14 Tryd.func14 (by kernel_rfl) (by kernel_rfl) [fList u7, fList u8] _ _ _ rfl rfl rfl (by first | exact wanted_none rfl | exact wanted_if rfl rfl rfl rfl) rfl ?_
      refine (vequal (tList [t1]) (tList [t2]) (csList u7) (csList u8) _ (list1_val hu7 (HY1.out.next hs12)) (list1_val hu8 (HY2.out.next hs12))).mono ?_
      rintro e z13 ⟨rfl, hb⟩
      rw [eq_one, HYY.out]
      have hs13 : Below W.heap.size W z13 := hs12.trans (hb.mono hs12.size)
      refine ⟨(.bool y), rfl, hs13, ?_⟩
      clear hb
      go_frame
      refine tree_to (some 67) 14 Tryd.func14 (by kernel_rfl) (by kernel_rfl) [.agg ⟨[.int .i64 k1, .int .i64 n1, .float .f64 f1, .string s1, vn1, vi1]⟩, .agg ⟨[.int .i64 k2, .int .i64 n2, .float .f64 f2, .string s2, vn2, vi2]⟩] _ _ _ rfl rfl rfl (by first | exact wanted_none rfl | exact wanted_if rfl rfl rfl rfl) rfl ?_
      refine (vequal t1 t2 [.int .i64 k1, .int .i64 n1, .float .f64 f1, .string s1, vn1, vi1] [.int .i64 k2, .int .i64 n2, .float .f64 f2, .string s2, vn2, vi2] _ (HY1.out.next hs13) (HY2.out.next hs13)).mono ?_
      rintro e z14 ⟨rfl, hb⟩
      rw [HYY.out]
      have hs14 : Below W.heap.size W z14 := hs13.trans (hb.mono hs13.size)
      refine ⟨(.bool y), rfl, hs14, ?_⟩
      clear hb
      go_frame
      refine tree_load (some 68) (.bool true) _ rfl rfl (by first | exact wanted_none rfl | exact wanted_if rfl rfl rfl rfl) hs14 (fun z hz => by cases y <;> go_simp) ?_
      go_frame
      refine tree_pick (some 69) (.bool true) _ _ _ _ true rfl rfl rfl rfl (by first | exact wanted_none rfl | exact wanted_if rfl rfl rfl rfl) hs14 rfl ?_
      go_frame
      refine tree_assign (some 4) (.bool true) _ _ rfl rfl rfl (by first | exact wanted_none rfl | exact wanted_if rfl rfl rfl rfl) hs14 rfl ?_
      go_frame
      refine tree_end ?_
      have HKE := Lib.hid hs14
      clear hs0 hs1 hs2 hs3 hs4 hs5 hs6 hs7 hs8 hs9 hs10 hs11 hs12 hs13 hs14
      go_wp2
      go_ret
      exact ⟨rfl, HBW.out.trans (HKE.out.mono HBW.out.size)⟩

noncomputable def valueInnerWorld (os : Os) : World :=
  { World.holding Tryd.prog os ⟨#[], #[], []⟩ with heap := ((((World.holding Tryd.prog os ⟨#[], #[], []⟩).heap).modify 2 (fun x => match x with | .cells _ t frozen => .cells #[.int .u64 1, .int .u64 10, .int .u64 100, .int .u64 1000, .int .u64 10000, .int .u64 100000, .int .u64 1000000, .int .u64 10000000, .int .u64 100000000, .int .u64 1000000000, .int .u64 10000000000, .int .u64 100000000000, .int .u64 1000000000000, .int .u64 10000000000000, .int .u64 100000000000000, .int .u64 1000000000000000, .int .u64 10000000000000000, .int .u64 100000000000000000, .int .u64 1000000000000000000, .int .u64 10000000000000000000] t frozen | o => o)).modify 3 (fun x => match x with | .cells _ t frozen => .cells #[.int .u8 0, .int .u8 1, .int .u8 28, .int .u8 2, .int .u8 29, .int .u8 14, .int .u8 24, .int .u8 3, .int .u8 30, .int .u8 22, .int .u8 20, .int .u8 15, .int .u8 25, .int .u8 17, .int .u8 4, .int .u8 8, .int .u8 31, .int .u8 27, .int .u8 13, .int .u8 23, .int .u8 21, .int .u8 19, .int .u8 16, .int .u8 7, .int .u8 26, .int .u8 12, .int .u8 18, .int .u8 6, .int .u8 11, .int .u8 5, .int .u8 10, .int .u8 9] t frozen | o => o)).modify 4 (fun x => match x with | .cells _ t frozen => .cells #[.int .u8 0, .int .u8 1, .int .u8 56, .int .u8 2, .int .u8 57, .int .u8 49, .int .u8 28, .int .u8 3, .int .u8 61, .int .u8 58, .int .u8 42, .int .u8 50, .int .u8 38, .int .u8 29, .int .u8 17, .int .u8 4, .int .u8 62, .int .u8 47, .int .u8 59, .int .u8 36, .int .u8 45, .int .u8 43, .int .u8 51, .int .u8 22, .int .u8 53, .int .u8 39, .int .u8 33, .int .u8 30, .int .u8 24, .int .u8 18, .int .u8 12, .int .u8 5, .int .u8 63, .int .u8 55, .int .u8 48, .int .u8 27, .int .u8 60, .int .u8 41, .int .u8 37, .int .u8 16, .int .u8 46, .int .u8 35, .int .u8 44, .int .u8 21, .int .u8 52, .int .u8 32, .int .u8 23, .int .u8 11, .int .u8 54, .int .u8 26, .int .u8 40, .int .u8 15, .int .u8 34, .int .u8 20, .int .u8 31, .int .u8 10, .int .u8 25, .int .u8 14, .int .u8 19, .int .u8 9, .int .u8 13, .int .u8 8, .int .u8 7, .int .u8 6] t frozen | o => o) }
set_option maxRecDepth 100000 in
theorem valueInner_laid (os : Os) : laidMet Tryd.prog Rows.valueInnerRow.laid ((valueInnerWorld os).forCall (fun _ _ => 0) ⟨#[], #[.agg #[.int .i64 0, .int .i64 0, .float .f64 0, .string .empty, .slice none 0 0, .slice none 0 0], .agg #[.int .i64 0, .int .i64 0, .float .f64 0, .string .empty, .slice none 0 0, .slice none 0 0]], []⟩).memory :=
  laidMet_of_run' 8 (by kernel_rfl) (by kernel_rfl)
set_option maxRecDepth 100000 in
theorem valueInner_reads (os : Os) {H : Type} (enc : TypeId × Value → H) : ∃ x, DataW.whole enc Tryd.prog ((valueInnerWorld os).forCall (fun _ _ => 0) ⟨#[], #[.agg #[.int .i64 0, .int .i64 0, .float .f64 0, .string .empty, .slice none 0 0, .slice none 0 0], .agg #[.int .i64 0, .int .i64 0, .float .f64 0, .string .empty, .slice none 0 0, .slice none 0 0]], []⟩).memory Tryd.f5.params.toList Rows.valueInnerSpec.vars false (#[.agg #[.int .i64 0, .int .i64 0, .float .f64 0, .string .empty, .slice none 0 0, .slice none 0 0], .agg #[.int .i64 0, .int .i64 0, .float .f64 0, .string .empty, .slice none 0 0, .slice none 0 0]] : Array Value).toList 8 = some x :=
  Option.isSome_iff_exists.1 (by kernel_rfl)
set_option maxRecDepth 100000 in
theorem valueInner_contract (H : Type) (enc : TypeId × Value → H) (W : World) (base : Nat) (args : Array Value) (ds gs : List (DataW H)) (before : List MemPlace)
    (hval0 : ∀ (j : Nat) t v, Tryd.f5.params[j]? = some t → args[j]? = some v → Value.okWide Tryd.prog W .any base t v)
    (hW : DataW.Whole enc Tryd.prog Tryd.f5.params.toList Rows.valueInnerSpec.vars false W args.toList ds gs before) :
    Calls Tryd.prog 5 args W fun e W' => ∃ v, e = .returned v ∧ Rows.valueInnerSpec.post enc Tryd.prog Tryd.f5 false true false false W args v W' := by
  have hval : ∀ (j : Nat) t v, Tryd.f5.params[j]? = some t → args[j]? = some v → Value.okWide Tryd.prog W .any base t v := hval0
  have hW' := hW
  obtain ⟨p, q, hA0, hV, rfl, hfz, hnd⟩ := hW
  have hA : DataW.TrodAll enc Tryd.prog W 0 (fun _ => true) true Tryd.f5.params.toList args.toList ds p := hA0
  rw [Tryd.params5] at hA hval
  obtain ⟨v0, vs0, d0, ds0, p0, q0, hargs, rfl, rfl, h0, r0⟩ := trodAll_cons hA
  obtain ⟨v1, vs1, d1, ds1, p1, q1, rfl, rfl, rfl, h1, r1⟩ := trodAll_cons r0
  obtain ⟨rfl, rfl, rfl⟩ := trodAll_nil r1
  obtain rfl : args = #[v0, v1] := by cases args; simp_all
  obtain ⟨rfl, rfl⟩ := trodVars_none hV
  have k0 := h0
  have lt0 := lt_of_trod k0
  obtain ⟨cs0, m0, rfl, hm0⟩ := val_arg (hval 0 26 v0 rfl rfl) h0
  have k1 := h1
  have lt1 := lt_of_trod k1
  obtain ⟨cs1, m1, rfl, hm1⟩ := val_arg (hval 1 26 v1 rfl rfl) h1
  clear hA0 hval0
  refine (valueInner_walk W cs0 m0 hm0 cs1 m1 hm1).mono fun e W' ⟨he, bel⟩ => ?_
  subst he
  exact ⟨_, rfl, _, _, _, [], _, [], hW', trodAll_mk1 (shut_bool Tryd.underlying4 _), (trodAll_cons_mk (Below.trod laidOut (by kernel_rfl) (of_decide_eq_true (by kernel_rfl)) k0 bel lt0) (trodAll_cons_mk (Below.trod laidOut (by kernel_rfl) (of_decide_eq_true (by kernel_rfl)) k1 bel lt1) trodAll_mk0)), rfl, bel.frame _, fun h => by cases h⟩
set_option maxRecDepth 100000 in
theorem valueInner_lifted (os : Os) (started : os.Started) (H : Type) (enc : TypeId × Value → H) (F : Stop.Interp) :
    ReturnsInHanded {} Tryd.checked os 5 .any ((OpenSpec.ofChange Rows.valueInnerSpec).preRow enc Tryd.prog Tryd.f5 Rows.valueInnerRow.domain false Rows.valueInnerRow.laid) (((OpenSpec.ofChange Rows.valueInnerSpec).at F).post enc Tryd.prog Tryd.f5 false true false false) := by
  obtain ⟨x, hx⟩ := valueInner_reads os enc
  refine returnsInHanded_of_row (C := Tryd.checked) (s := OpenSpec.ofChange Rows.valueInnerSpec) own started (by kernel_rfl) Tryd.func5
    (witness_row_at (enc := enc) (C := Tryd.checked) false (valueInnerWorld os) #[.agg #[.int .i64 0, .int .i64 0, .float .f64 0, .string .empty, .slice none 0 0, .slice none 0 0], .agg #[.int .i64 0, .int .i64 0, .float .f64 0, .string .empty, .slice none 0 0, .slice none 0 0]] rfl (by kernel_rfl) (by kernel_rfl) (by kernel_rfl)
      (OpenSpec.preRow_of_cond 8 hx rfl (fun k hk => by cases hk) (by kernel_rfl) (valueInner_laid os))) ?_
  intro W base args ds gs before hval hW _ _ _ hL _ _
  exact valueInner_contract H enc W base args ds gs before hval hW
theorem valueInner_said : Rows.ValueInnerSaid :=
  OpenClaim.holds_of_cond 5 Tryd.f5 rfl rfl rfl rfl rfl rfl rfl ⟨rfl, rfl, rfl, rfl, rfl⟩ rfl rfl rfl rfl rfl (by kernel_rfl) Tryd.func5 (by kernel_rfl)
    (of_decide_eq_true (by kernel_rfl)) (by unfold Func.isWrapper; first | (rw [if_pos (by decide +kernel)]; kernel_rfl) | (rw [if_neg (by decide +kernel)]; exact ⟨rfl, rfl⟩))
    (fun os started H enc _ F => by rw [OpenClaim.pre_eq_preRow]; exact valueInner_lifted os started H enc F)
theorem valueInner_plain (f : FuncId) (fn : Func) (hf : Tryd.pinned.checked.prog.funcNamed "bascule/basculelaw04.ValueInner" = some f) (hfn : Tryd.pinned.checked.prog.funcs[f]? = some fn) :
    false = Tryd.pinned.checked.prog.looks [] ∧ ∀ (j : Nat) t, fn.params[j]? = some t → Tryd.pinned.checked.prog.wantsStandIn t = false := by
  obtain rfl : f = 5 := Option.some.inj ((show Tryd.prog.funcNamed "bascule/basculelaw04.ValueInner" = some 5 by kernel_rfl).symm.trans hf) |>.symm
  obtain rfl : fn = Tryd.f5 := (Option.some.inj (Tryd.func5.symm.trans hfn)).symm
  refine ⟨by kernel_rfl, fun j t ht => ?_⟩
  rw [Tryd.params5] at ht
  obtain rfl : t = 26 := by simpa using Array.mem_of_getElem? ht
  exact (show Tryd.prog.wantsStandIn 26 = false by kernel_rfl)
/-- the card -/
theorem valueInner_proved : Rows.ValueInnerCardSaid :=
  Claim7.holds_tied_plain_at .later [] _ _ _ _ valueInner_said (fun _ h => by cases h) (by kernel_rfl) (fun _ h => by cases h) valueInner_row_tie rfl ⟨rfl, rfl⟩ (by kernel_rfl) rfl valueInner_plain (by kernel_rfl)
#print axioms valueInner_proved
end Go.Proofs.YtieciegfloldhaaDoor
