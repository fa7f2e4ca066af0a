/- Parts of a proof: Own0, Own1. -/
import Derived.Lib.BufferMore
import Derived.Test.YtpmjcbjdcjjplaaGreatPack50
section
namespace Go.Proofs.YtpmjcbjdcjjplaaGreat
open Go Go.RowKit
set_option linter.unusedVariables false
set_option maxRecDepth 100000 in
theorem clp_nil (w : World) : Calls Tryz.prog 28 #[.slice none 0 0] w fun e w' => e = .returned (.slice none 0 0) ∧ w' = w := by
  have hq : ∀ W, (binOp .eql 22 (.slice none 0 0) (.slice none 0 0)).run Tryz.prog W = .ok (.bool true) W := fun W => Go.Lib.run_eql_slice_nil_nil W _ _ Tryz.underlying22
  go_enter Tryz.func28, Tryz.ntmps28
  go_wp2
  go_ret
  exact ⟨rfl, rfl⟩
set_option maxRecDepth 100000 in
theorem cls_nil (w : World) : Calls Tryz.prog 54 #[.slice none 0 0] w fun e w' => e = .returned (.slice none 0 0) ∧ w' = w := by
  have hq : ∀ W, (binOp .eql 35 (.slice none 0 0) (.slice none 0 0)).run Tryz.prog W = .ok (.bool true) W := fun W => Go.Lib.run_eql_slice_nil_nil W _ _ Tryz.underlying35
  go_enter Tryz.func54, Tryz.ntmps54
  go_wp2
  go_ret
  exact ⟨rfl, rfl⟩
set_option maxRecDepth 100000 in
theorem clv_nil (w : World) : Calls Tryz.prog 29 #[.slice none 0 0] w fun e w' => e = .returned (.slice none 0 0) ∧ w' = w := by
  have hq : ∀ W, (binOp .eql 23 (.slice none 0 0) (.slice none 0 0)).run Tryz.prog W = .ok (.bool true) W := fun W => Go.Lib.run_eql_slice_nil_nil W _ _ Tryz.underlying23
  go_enter Tryz.func29, Tryz.ntmps29
  go_wp2
  go_ret
  exact ⟨rfl, rfl⟩
set_option maxRecDepth 100000 in
theorem clm_nil (w : World) : Calls Tryz.prog 30 #[.slice none 0 0] w fun e w' => e = .returned (.slice none 0 0) ∧ w' = w := by
  have hq : ∀ W, (binOp .eql 24 (.slice none 0 0) (.slice none 0 0)).run Tryz.prog W = .ok (.bool true) W := fun W => Go.Lib.run_eql_slice_nil_nil W _ _ Tryz.underlying24
  go_enter Tryz.func30, Tryz.ntmps30
  go_wp2
  go_ret
  exact ⟨rfl, rfl⟩
set_option maxRecDepth 100000 in
theorem clx_nil (w : World) : Calls Tryz.prog 35 #[.slice none 0 0] w fun e w' => e = .returned (.slice none 0 0) ∧ w' = w := by
  have hq : ∀ W, (binOp .eql 33 (.slice none 0 0) (.slice none 0 0)).run Tryz.prog W = .ok (.bool true) W := fun W => Go.Lib.run_eql_slice_nil_nil W _ _ Tryz.underlying33
  go_enter Tryz.func35, Tryz.ntmps35
  go_wp2
  go_ret
  exact ⟨rfl, rfl⟩
theorem run_store_float0 {P : Program} {w : World} {a : Addr} {m : Mode} (k : FloatKind) (x : Nat) : (store a (.float k x) m).run P w = stored P w a (.float k x) m := run_store P w a _ m rfl
attribute [local go_sem] run_store_float0
theorem fcanon_zero (w : World) : Calls Tryz.prog 55 #[.float .f64 0] w fun e w' => e = .returned (.float .f64 0) ∧ w' = w := by
  have hf : ∀ W, (binOp .neq 34 (.float .f64 0) (.float .f64 0)).run Tryz.prog W = .ok (.bool false) W := fun W => rfl
  go_enter Tryz.func55, Tryz.ntmps55
  go_wp2
  go_ret
  exact ⟨rfl, rfl⟩
theorem results_cell {fn : Func} {p : Tmp} {T : TypeId} {d : TypeDesc} (h : fn.results = #[.cell p T]) (hu : Tryz.prog.underlying T = some d) (hd : d.isRow = true) (tmps : Array Value) (w : World) (g : Nat) (cs : List Value) (hi : (Tryz.prog.info? T).map (·.size) = some cs.length)
    (hp : tmps.getD p undef = .pointer (some ⟨g, 0, none⟩)) (hm : w.rangeAt g 0 cs) : (results fn tmps).run Tryz.prog w = .ok (.agg ⟨cs⟩) w := by
  have hp' : tmps[p]?.getD undef = .pointer (some ⟨g, 0, none⟩) := by simpa using hp
  have hl := run_loadVar_mid (P := Tryz.prog) w g 0 T cs _ hm hu hd hi
  simp [results, h, hp', asAddr, hl]
theorem zeroV_ones : ∀ u ∈ zeroV, u.oneCell' = true := by decide +kernel
theorem encX_ones : ∀ u ∈ encX, u.oneCell' = true := by decide +kernel
def zF (i : Nat) : Value := zeroV.getD i undef
def xF (i : Nat) : Value := encX.getD i undef
theorem rowF_range {w : World} {g n : Nat} {f : Nat → Value} {cs : List Value} (h : RowF w g n f) (hn : cs.length = n) (hf : ∀ i, i < n → f i = cs.getD i undef) : w.rangeAt g 0 cs := fun i v hv => by
  have hi := (List.getElem?_eq_some_iff.1 hv).1
  rw [Nat.zero_add, h.c i (by omega), hf i (by omega), List.getD_eq_getElem?_getD, hv]
  rfl
theorem row_lit (w : World) (cs : List Value) (T : TypeId) : RowF (w.alloc (.cells ⟨cs⟩ T)) w.heap.size cs.length (fun i => cs.getD i undef) :=
  ⟨fun i hi => by rw [cell_box]; simp [List.getD_eq_getElem?_getD, List.getElem?_eq_getElem hi], fun i hi => frozen_box _ _ _ _⟩
theorem RowF.same {w : World} {g n : Nat} {f : Nat → Value} (h : RowF w g n f) {i : Nat} (hi : i < n) {v : Value} (hv : v = f i) : RowF (w.setCell ⟨g, i, none⟩ v) g n f :=
  (h.set hi v).congr fun j hj => by by_cases e : j = i <;> simp [e, hv]
theorem RowF.apart {w : World} {g n : Nat} {f : Nat → Value} (h : RowF w g n f) {b i : Nat} (hb : g ≠ b) (v : Value) : RowF (w.setCell ⟨b, i, none⟩ v) g n f := h.keep (Below.heap_setCell w ⟨b, i, none⟩ v g hb)
set_option maxHeartbeats 4000000 in
set_option maxRecDepth 100000 in
theorem canon_zero (w : World) : Calls Tryz.prog 33 #[.agg ⟨zeroV⟩] w fun e w' => e = .returned (.agg ⟨zeroV⟩) ∧ Below w.heap.size w w' := by
  have HA := Lib.hid (row_lit w zeroV 38)
  have HB1 := Lib.hid (box_below w (.cells ⟨zeroV⟩ 38))
  have HS1 := Lib.hid (box_size w (.cells ⟨zeroV⟩ 38))
  have HSE : Hid ((w.alloc (.cells ⟨zeroV⟩ 38)).heap.size = w.heap.size + 1) := Lib.hid (by simp)
  go_enter Tryz.func33, Tryz.ntmps33
  go_upto_region 1 with (fail)
  generalize w.alloc (.cells ⟨zeroV⟩ 38) = W1 at *
  have HB := Lib.hid (row_lit W1 zeroV 38)
  have HB2 := Lib.hid (box_below W1 (.cells ⟨zeroV⟩ 38))
  have HS2 := Lib.hid (box_size W1 (.cells ⟨zeroV⟩ 38))
  have hz : W1.alloc (.cells ⟨zeroV⟩ 38) = W1.alloc (.cells #[.int .i64 0, .int .i64 0, .float .f64 0, .string ⟨#[]⟩, .slice none 0 0, .slice none 0 0] 38) := rfl
  rw [hz] at HB HB2 HS2
  generalize W1.alloc (.cells #[.int .i64 0, .int .i64 0, .float .f64 0, .string ⟨#[]⟩, .slice none 0 0, .slice none 0 0] 38) = W at *
  have HRA : Hid (RowF W w.heap.size 6 zF) := Lib.hid (HA.out.below HB2.out HS1.out)
  have HBW := Lib.hid (HB1.out.trans (HB2.out.mono HB1.out.size))
  rw [HSE.out] at HB HS2
  obtain ⟨pb, hpb⟩ : ∃ pb, w.heap.size + 1 = pb := ⟨_, rfl⟩
  obtain ⟨pa, hpa⟩ : ∃ pa, w.heap.size = pa := ⟨_, rfl⟩
  rw [hpb] at HB HS2
  rw [hpa] at HRA
  rw [hpb, hpa]
  have HNE : Hid (pa ≠ pb ∧ w.heap.size ≤ pa ∧ w.heap.size ≤ pb) := Lib.hid (by omega)
  have HRB : Hid (RowF W pb 6 zF) := HB
  clear HA HB1 HS1 HSE HB2 hpb hz HB hpa
  have d2 : W.cell? ⟨pa, 2, none⟩ = some (.float .f64 0) := HRA.out.c 2 (by omega)
  have f2 := HRA.out.fz 2 (by omega)
  go_upto_region 2 with (go_at_call 55; refine (fcanon_zero _).mono ?_; rintro e z1 ⟨rfl, rfl⟩)
  clear d2 f2
  have HRA2 := Lib.hid (HRA.out.same (i := 2) (by omega) (v := .float .f64 0) rfl)
  have HRB2 := Lib.hid (HRB.out.apart (Ne.symm HNE.out.1) (b := pa) (i := 2) (.float .f64 0))
  have HBW2 := Lib.hid (below_put (i := 2) HBW.out HNE.out.2.1 (.float .f64 0))
  generalize z1.setCell ⟨pa, 2, none⟩ (.float .f64 0) = W2 at *
  have d4 : W2.cell? ⟨pa, 4, none⟩ = some (.slice none 0 0) := HRA2.out.c 4 (by omega)
  have f4 := HRA2.out.fz 4 (by omega)
  go_upto_region 4 with (go_at_call 54; refine (cls_nil _).mono ?_; rintro e z2 ⟨rfl, rfl⟩)
  clear d4 f4 HRA HRB HBW
  have HRA3 := Lib.hid (HRA2.out.same (i := 4) (by omega) (v := .slice none 0 0) rfl)
  have HRB3 := Lib.hid (HRB2.out.apart (Ne.symm HNE.out.1) (b := pa) (i := 4) (.slice none 0 0))
  have HBW3 := Lib.hid (below_put (i := 4) HBW2.out HNE.out.2.1 (.slice none 0 0))
  clear HRA2 HRB2 HBW2
  generalize z2.setCell ⟨pa, 4, none⟩ (.slice none 0 0) = W3 at *
  have d5 : W3.cell? ⟨pa, 5, none⟩ = some (.slice none 0 0) := HRA3.out.c 5 (by omega)
  have f5 := HRA3.out.fz 5 (by omega)
  go_wp2
  go_loopg [3, 17] 0 (fun q v x u => q = 0 ∧ v = .slice none 0 0 ∧ x = .int .i64 0 ∧ u = W3)
  case atStart => exact ⟨rfl, rfl, rfl, rfl⟩
  case round =>
    obtain ⟨rfl, rfl, rfl, rfl⟩ := hrel
    go_upto_region 10 with (fail)
    clear d5 f5
    have HRA4 := Lib.hid (HRA3.out.same (i := 5) (by omega) (v := .slice none 0 0) rfl)
    have HRB4 := Lib.hid (HRB3.out.apart (Ne.symm HNE.out.1) (b := pa) (i := 5) (.slice none 0 0))
    have HBW4 := Lib.hid (below_put (i := 5) HBW3.out HNE.out.2.1 (.slice none 0 0))
    generalize wr.setCell ⟨pa, 5, none⟩ (.slice none 0 0) = W4 at *
    have HRG := Lib.hid (rowF_range HRA4.out (cs := zeroV) rfl (fun i _ => rfl))
    have HTH : Hid (W4.there pb 0 zeroV.length) := Lib.hid fun i (hi : i < 6) => by rw [Nat.zero_add, HRB4.out.c i hi]; exact ⟨rfl, HRB4.out.fz i hi⟩
    go_wp2_with (first | ((with_reducible refine wl_sload 38 _ rfl ?hw2 pa 0 zeroV _ rfl HRG.out Tryz.underlying38 rfl ?hi2 ?_); (case hw2 => exact wantA rfl); (case hi2 => kernel_rfl)) | ((with_reducible refine wl_sstore 38 _ _ rfl ?hw3 pb 0 zeroV rfl rfl HTH.out ?hi3 ?h13 ?_); (case hw3 => exact wantA rfl); (case hi3 => kernel_rfl); (case h13 => exact zeroV_ones)))
    have hres := World.rangeAt_setCells_same W4 pb 0 zeroV HTH.out
    have hbl : Below w.heap.size w (W4.setCells pb 0 zeroV) := below_sets HBW4.out HNE.out.2.2 _ 0
    refine bodyPost_ret (results_cell rfl Tryz.underlying38 rfl _ _ pb zeroV (by kernel_rfl) rfl hres) rfl ?_
    exact ⟨rfl, hbl⟩
theorem put_size0 (w : World) (p : Addr) (v : Value) : (w.setCell p v).heap.size = w.heap.size := by simp [World.setCell]
theorem heap_sets0 (b k : Nat) (hk : k ≠ b) : ∀ (cs : List Value) (w : World) (i : Nat), (w.setCells b i cs).heap[k]? = w.heap[k]?
  | [], _, _ => rfl
  | v :: cs, w, i => by
    show ((w.setCell ⟨b, i, none⟩ v).setCells b (i + 1) cs).heap[k]? = _
    rw [heap_sets0 b k hk cs]
    exact Below.heap_setCell w ⟨b, i, none⟩ v k hk
theorem xF_sub {w : World} {g : Nat} (h : RowF w g 10 xF) : w.rangeAt g 2 zeroV := fun i v hv => by
  have hi : i < 6 := (List.getElem?_eq_some_iff.1 hv).1
  rw [h.c (2 + i) (by omega), ← hv]
  match i, hi with
  | 0, _ => rfl
  | 1, _ => rfl
  | 2, _ => rfl
  | 3, _ => rfl
  | 4, _ => rfl
  | 5, _ => rfl
theorem xF_sets {w : World} {g : Nat} (h : RowF w g 10 xF) : RowF (w.setCells g 2 zeroV) g 10 xF :=
  RowF.same (RowF.same (RowF.same (RowF.same (RowF.same (RowF.same h (i := 2) (by omega) rfl) (i := 3) (by omega) rfl) (i := 4) (by omega) rfl) (i := 5) (by omega) rfl) (i := 6) (by omega) rfl) (i := 7) (by omega) rfl
section
variable {P : Program} {ops : Array Oper} {S : World → Prop} {Q : Exit → Act → World → Prop} {i : Nat} {r : List (Nat × Bool)} {a : Act} {w : World}
theorem ord_skipw (d : Option Tmp) (w' : World) (o : Oper) (hi : ops[i]? = some o) (hd : o.dst = d) (hw : Region.wanted o (yielded ops a.tmps) = true) (hrun : (execOp a.eval o).run P w = .ok .skip w') (hS : S w') (h : wpOrd P ops S Q r (a.put d undef) w') :
    wpOrd P ops S Q ((i, false) :: r) a w := by
  subst hd
  refine ord_act o hi hw fun K hK => ?_
  unfold Oper.wp
  rw [hrun]
  exact hK _ _ hS h
theorem ord_sstore (d : Option Tmp) (T : TypeId) (o : Oper) (x y : Operand) (hi : ops[i]? = some o) (ho : o.op = .store T x y) (hd : o.dst = d) (hw : Region.wanted o (yielded ops a.tmps) = true) (b ofs : Nat) (cs : List Value)
    (hx : a.eval x = .pointer (some ⟨b, ofs, none⟩)) (hy : a.eval y = .agg cs.toArray) (ht : w.there b ofs cs.length) (hi2 : (P.info? T).map (·.size) = some cs.length) (h1 : ∀ v ∈ cs, v.oneCell' = true) (hS : S (w.setCells b ofs cs))
    (h : wpOrd P ops S Q r (a.put d undef) (w.setCells b ofs cs)) : wpOrd P ops S Q ((i, false) :: r) a w := by
  subst hd
  refine ord_act o hi hw fun K hK => ?_
  exact wp_store_mid T x y ho b ofs cs.toArray hx hy (by simpa using ht) (by simpa using hi2) (all_oneCell_toArray h1) (by simpa using hK _ _ hS h)
end
set_option maxHeartbeats 4000000 in
set_option maxRecDepth 100000 in
theorem ownx_zero (w : World) : Calls Tryz.prog 36 #[.agg ⟨encX⟩] w fun e w' => e = .returned (.agg ⟨encX⟩) ∧ Below w.heap.size w w' := by
  have HA := Lib.hid (row_lit w encX 40)
  have HB1 := Lib.hid (box_below w (.cells ⟨encX⟩ 40))
  have HS1 := Lib.hid (box_size w (.cells ⟨encX⟩ 40))
  have HSE : Hid ((w.alloc (.cells ⟨encX⟩ 40)).heap.size = w.heap.size + 1) := Lib.hid (by simp)
  go_enter Tryz.func36, Tryz.ntmps36
  go_upto_region 1 with (fail)
  generalize w.alloc (.cells ⟨encX⟩ 40) = W1 at *
  have HB := Lib.hid (row_lit W1 encX 40)
  have HB2 := Lib.hid (box_below W1 (.cells ⟨encX⟩ 40))
  have HS2 := Lib.hid (box_size W1 (.cells ⟨encX⟩ 40))
  have hz : W1.alloc (.cells ⟨encX⟩ 40) = W1.alloc (.cells #[.int .i64 0, .string ⟨#[]⟩, .int .i64 0, .int .i64 0, .float .f64 0, .string ⟨#[]⟩, .slice none 0 0, .slice none 0 0, .slice none 0 0, .slice none 0 0] 40) := rfl
  rw [hz] at HB HB2 HS2
  generalize W1.alloc (.cells #[.int .i64 0, .string ⟨#[]⟩, .int .i64 0, .int .i64 0, .float .f64 0, .string ⟨#[]⟩, .slice none 0 0, .slice none 0 0, .slice none 0 0, .slice none 0 0] 40) = W at *
  have HRA : Hid (RowF W w.heap.size 10 xF) := Lib.hid (HA.out.below HB2.out HS1.out)
  have HBW := Lib.hid (HB1.out.trans (HB2.out.mono HB1.out.size))
  have HLA : Hid (w.heap.size < W.heap.size) := Lib.hid (Nat.lt_of_lt_of_le HS1.out HB2.out.size)
  rw [HSE.out] at HB HS2
  obtain ⟨pb, hpb⟩ : ∃ pb, w.heap.size + 1 = pb := ⟨_, rfl⟩
  obtain ⟨pa, hpa⟩ : ∃ pa, w.heap.size = pa := ⟨_, rfl⟩
  have HNE : Hid (pa ≠ pb ∧ w.heap.size ≤ pa ∧ w.heap.size ≤ pb) := Lib.hid (by omega)
  rw [hpb] at HB HS2
  have HLA' : Hid (pa < W.heap.size) := Lib.hid (hpa ▸ HLA.out)
  have HRA' : Hid (RowF W pa 10 xF) := Lib.hid (hpa ▸ HRA.out)
  clear HRA HLA
  have HRA := HRA'
  have HLA := HLA'
  clear HRA' HLA'
  rw [hpb, hpa]
  have HRB : Hid (RowF W pb 10 xF) := HB
  clear HA HB1 HS1 HSE HB2 hpb hz HB hpa
  refine wp_region_ord [(0, true), (1, true), (3, true), (4, true), (2, false), (6, true), (5, false), (7, false), (8, true), (9, false)]
    (fun z => RowF z pa 10 xF ∧ RowF z pb 10 xF ∧ Below w.heap.size w z ∧ pa < z.heap.size ∧ pb < z.heap.size) (by kernel_rfl) (by kernel_rfl) (by kernel_rfl) rfl (by intro c a d v w h; cases d <;> exact h) ?_
  have hs : RowF W.drew pa 10 xF ∧ RowF W.drew pb 10 xF ∧ Below w.heap.size w W.drew ∧ pa < W.drew.heap.size ∧ pb < W.drew.heap.size := ⟨HRA.out.keep rfl, HRB.out.keep rfl, HBW.out.drew, HLA.out, HS2.out⟩
  refine ord_load (some 6) (.pointer (some ⟨pa, 2, none⟩)) _ rfl rfl (by exact wantA rfl) hs (fun z hz => by go_simp) ?_
  go_frame
  refine ord_load (some 7) (.agg ⟨zeroV⟩) _ rfl rfl (by exact wantA rfl) hs (fun z hz => exec_sload 38 rfl pa 2 zeroV _ rfl (xF_sub hz.1) Tryz.underlying38 rfl (by kernel_rfl)) ?_
  go_frame
  refine ord_load (some 9) (.pointer (some ⟨pa, 8, none⟩)) _ rfl rfl (by exact wantA rfl) hs (fun z hz => by go_simp) ?_
  go_frame
  refine ord_load (some 10) (.slice none 0 0) _ rfl rfl (by exact wantA rfl) hs (fun z hz => by have dd : z.cell? ⟨pa, 8, none⟩ = some (.slice none 0 0) := hz.1.c 8 (by omega); go_simp) ?_
  go_frame
  refine ord_to (some 8) 33 Tryz.func33 (by kernel_rfl) (by kernel_rfl) [.agg ⟨zeroV⟩] _ _ _ rfl rfl rfl (by exact wantA rfl) rfl ?_
  refine (canon_zero _).mono ?_
  rintro e z1 ⟨rfl, hb1⟩
  have hs1 : RowF z1 pa 10 xF ∧ RowF z1 pb 10 xF ∧ Below w.heap.size w z1 ∧ pa < z1.heap.size ∧ pb < z1.heap.size := ⟨hs.1.below hb1 hs.2.2.2.1, hs.2.1.below hb1 hs.2.2.2.2, hs.2.2.1.trans (hb1.mono hs.2.2.1.size), Nat.lt_of_lt_of_le hs.2.2.2.1 hb1.size, Nat.lt_of_lt_of_le hs.2.2.2.2 hb1.size⟩
  refine ⟨.agg ⟨zeroV⟩, rfl, hs1, ?_⟩
  go_frame
  refine ord_load (some 12) (.pointer (some ⟨pa, 2, none⟩)) _ rfl rfl (by exact wantA rfl) hs1 (fun z hz => by go_simp) ?_
  go_frame
  refine ord_to (some 11) 54 Tryz.func54 (by kernel_rfl) (by kernel_rfl) [.slice none 0 0] _ _ _ rfl rfl rfl (by exact wantA rfl) rfl ?_
  refine (cls_nil _).mono ?_
  rintro e z2 ⟨rfl, rfl⟩
  refine ⟨.slice none 0 0, rfl, hs1, ?_⟩
  go_frame
  have hs2 : RowF (z2.setCells pa 2 zeroV) pa 10 xF ∧ RowF (z2.setCells pa 2 zeroV) pb 10 xF ∧ Below w.heap.size w (z2.setCells pa 2 zeroV) ∧ pa < (z2.setCells pa 2 zeroV).heap.size ∧ pb < (z2.setCells pa 2 zeroV).heap.size := ⟨xF_sets hs1.1, hs1.2.1.keep (heap_sets0 pa pb (Ne.symm HNE.out.1) zeroV z2 2), below_sets hs1.2.2.1 HNE.out.2.1 zeroV 2, by rw [size_sets]; exact hs1.2.2.2.1, by rw [size_sets]; exact hs1.2.2.2.2⟩
  refine ord_sstore none 38 _ _ _ rfl rfl rfl (by exact wantA rfl) pa 2 zeroV rfl rfl (fun i (hi : i < 6) => ⟨by rw [hs1.1.c (2 + i) (by omega)]; rfl, hs1.1.fz (2 + i) (by omega)⟩) (by kernel_rfl) zeroV_ones hs2 ?_
  go_frame
  refine ord_load (some 13) (.pointer (some ⟨pa, 8, none⟩)) _ rfl rfl (by exact wantA rfl) hs2 (fun z hz => by go_simp) ?_
  go_frame
  have hs3 : RowF ((z2.setCells pa 2 zeroV).setCell ⟨pa, 8, none⟩ (.slice none 0 0)) pa 10 xF ∧ RowF ((z2.setCells pa 2 zeroV).setCell ⟨pa, 8, none⟩ (.slice none 0 0)) pb 10 xF ∧ Below w.heap.size w ((z2.setCells pa 2 zeroV).setCell ⟨pa, 8, none⟩ (.slice none 0 0)) ∧ pa < ((z2.setCells pa 2 zeroV).setCell ⟨pa, 8, none⟩ (.slice none 0 0)).heap.size ∧ pb < ((z2.setCells pa 2 zeroV).setCell ⟨pa, 8, none⟩ (.slice none 0 0)).heap.size := ⟨hs2.1.same (by omega) rfl, hs2.2.1.apart (Ne.symm HNE.out.1) _, below_put hs2.2.2.1 HNE.out.2.1 _, by rw [put_size0]; exact hs2.2.2.2.1, by rw [put_size0]; exact hs2.2.2.2.2⟩
  have d8 : (z2.setCells pa 2 zeroV).cell? ⟨pa, 8, none⟩ = some (.slice none 0 0) := hs2.1.c 8 (by omega)
  have f8 := hs2.1.fz 8 (by omega)
  refine ord_skipw none ((z2.setCells pa 2 zeroV).setCell ⟨pa, 8, none⟩ (.slice none 0 0)) _ rfl rfl (by exact wantA rfl) (by go_simp) hs3 ?_
  go_frame
  refine ord_end ?_
  have HRA3 := Lib.hid hs3.1
  have HRB3 := Lib.hid hs3.2.1
  have HBW3 := Lib.hid hs3.2.2.1
  clear hs hs1 hs2 hs3 d8 f8
  generalize (z2.setCells pa 2 zeroV).setCell ⟨pa, 8, none⟩ (.slice none 0 0) = W3 at *
  have d5 : W3.cell? ⟨pa, 9, none⟩ = some (.slice none 0 0) := HRA3.out.c 9 (by omega)
  have f5 := HRA3.out.fz 9 (by omega)
  go_wp2
  go_loopg [3, 17] 0 (fun q v x u => q = 0 ∧ v = .slice none 0 0 ∧ x = .int .i64 0 ∧ u = W3)
  case atStart => exact ⟨rfl, rfl, rfl, rfl⟩
  case round =>
    obtain ⟨rfl, rfl, rfl, rfl⟩ := hrel
    go_upto_region 9 with (fail)
    clear d5 f5
    have HRA4 := Lib.hid (HRA3.out.same (i := 9) (by omega) (v := .slice none 0 0) rfl)
    have HRB4 := Lib.hid (HRB3.out.apart (Ne.symm HNE.out.1) (b := pa) (i := 9) (.slice none 0 0))
    have HBW4 := Lib.hid (below_put (i := 9) HBW3.out HNE.out.2.1 (.slice none 0 0))
    generalize wr.setCell ⟨pa, 9, none⟩ (.slice none 0 0) = W4 at *
    have HRG := Lib.hid (rowF_range HRA4.out (cs := encX) rfl (fun i _ => rfl))
    have HTH : Hid (W4.there pb 0 encX.length) := Lib.hid fun i (hi : i < 10) => by rw [Nat.zero_add, HRB4.out.c i hi]; exact ⟨rfl, HRB4.out.fz i hi⟩
    go_wp2_with (first | ((with_reducible refine wl_sload 40 _ rfl ?hw2 pa 0 encX _ rfl HRG.out Tryz.underlying40 rfl ?hi2 ?_); (case hw2 => exact wantA rfl); (case hi2 => kernel_rfl)) | ((with_reducible refine wl_sstore 40 _ _ rfl ?hw3 pb 0 encX rfl rfl HTH.out ?hi3 ?h13 ?_); (case hw3 => exact wantA rfl); (case hi3 => kernel_rfl); (case h13 => exact encX_ones)))
    have hres := World.rangeAt_setCells_same W4 pb 0 encX HTH.out
    have hbl : Below w.heap.size w (W4.setCells pb 0 encX) := below_sets HBW4.out HNE.out.2.2 _ 0
    refine bodyPost_ret (results_cell rfl Tryz.underlying40 rfl _ _ pb encX (by kernel_rfl) rfl hres) rfl ?_
    exact ⟨rfl, hbl⟩
end Go.Proofs.YtpmjcbjdcjjplaaGreat
end
section
namespace Go.Proofs.YtpmjcbjdcjjplaaGreat
open Go Go.RowKit
set_option linter.unusedVariables false
abbrev Cells29 := {ks : List Value // ks.length = 29}
theorem list_of {α : Type} {n : Nat} {P : Nat → α → Prop} (h : ∀ i, i < n → ∃ x, P i x) : ∃ l : List α, l.length = n ∧ ∀ (i : Nat) x, l[i]? = some x → P i x := by
  induction n with
  | zero => exact ⟨[], rfl, fun i x hx => by cases hx⟩
  | succ n ih =>
    obtain ⟨l, h1, h2⟩ := ih fun i hi => h i (Nat.lt_succ_of_lt hi)
    obtain ⟨x, hx⟩ := h n (Nat.lt_succ_self n)
    refine ⟨l ++ [x], by rw [List.length_append, h1]; rfl, fun i y hy => ?_⟩
    rcases Nat.lt_or_ge i l.length with hi | hi
    · rw [List.getElem?_append_left hi] at hy
      exact h2 i y hy
    · rw [List.getElem?_append_right hi] at hy
      have : i = n := by
        have := (List.getElem?_eq_some_iff.1 hy).1
        simp only [List.length_singleton] at this
        omega
      subst this
      rw [h1, Nat.sub_self] at hy
      injection hy with hy
      rw [← hy]; exact hx
theorem PlainAt.cells {w : World} {v : Value} {L : List (List Int × Int)} (h : PlainAt w v L) : ∃ (KL : List Cells29) (A : Option Addr) (c : Nat), KL.length = L.length ∧ v = .slice A L.length c ∧
    (∀ (i : Nat) k x, KL[i]? = some k → L[i]? = some x → PlainR w w.heap.size k.1 x) ∧ (0 < L.length → ∃ b o, A = some ⟨b, o, none⟩ ∧ b < w.heap.size ∧ ∀ (i : Nat) k, KL[i]? = some k → w.rangeAt b (o + i * 29) k.1) := by
  obtain ⟨_, A, c, hv, h1⟩ := h
  rcases Nat.eq_zero_or_pos L.length with h0 | h0
  · exact ⟨[], A, c, by rw [h0]; rfl, hv, fun i k x hk _ => (by cases hk), fun h2 => by omega⟩
  · obtain ⟨b, o, hb, hlt, h2⟩ := h1 h0
    obtain ⟨KL, h3, h4⟩ := list_of (n := L.length) (P := fun i (k : Cells29) => w.rangeAt b (o + i * 29) k.1 ∧ ∀ x, L[i]? = some x → PlainR w w.heap.size k.1 x) fun i hi => by
      obtain ⟨ks, h5, h6, h7⟩ := h2 i _ (List.getElem?_eq_getElem hi)
      exact ⟨⟨ks, h5⟩, h6, fun x hx => by
        rw [List.getElem?_eq_getElem hi] at hx
        injection hx with hx
        rw [← hx]; exact h7⟩
    exact ⟨KL, A, c, h3, hv, fun i k x hk hx => (h4 i k hk).2 x hx, fun _ => ⟨b, o, hb, hlt, fun i k hk => (h4 i k hk).1⟩⟩
theorem flat29_at {KL : List Cells29} {i j : Nat} {k : Cells29} {u : Value} (hk : KL[i]? = some k) (hu : k.1[j]? = some u) : (flat (fun k : Cells29 => k.1) KL)[i * 29 + j]? = some u := by
  induction KL generalizing i with
  | nil => cases hk
  | cons x KL ih =>
    have hx : x.1.length = 29 := x.2
    show (x.1 ++ flat (fun k : Cells29 => k.1) KL)[i * 29 + j]? = some u
    cases i with
    | zero =>
      injection hk with hk
      subst hk
      rw [List.getElem?_append_left (by have := (List.getElem?_eq_some_iff.1 hu).1; omega)]
      rw [Nat.zero_mul, Nat.zero_add]; exact hu
    | succ i =>
      rw [List.getElem?_append_right (by omega), show (i + 1) * 29 + j - x.1.length = i * 29 + j by omega]
      exact ih hk
theorem flat29_len (KL : List Cells29) : (flat (fun k : Cells29 => k.1) KL).length = KL.length * 29 := by
  induction KL with
  | nil => rfl
  | cons x KL ih =>
    show (x.1 ++ flat (fun k : Cells29 => k.1) KL).length = _
    rw [List.length_append, ih, x.2, List.length_cons]
    omega
theorem flat29_get {KL : List Cells29} {m : Nat} {u : Value} (h : (flat (fun k : Cells29 => k.1) KL)[m]? = some u) : ∃ k, KL[m / 29]? = some k ∧ k.1[m % 29]? = some u := by
  have hm := (List.getElem?_eq_some_iff.1 h).1
  rw [flat29_len] at hm
  obtain ⟨k, hk⟩ : ∃ k, KL[m / 29]? = some k := ⟨_, List.getElem?_eq_getElem (by omega)⟩
  have hl : m % 29 < k.1.length := by rw [k.2]; omega
  have h2 := flat29_at hk (List.getElem?_eq_getElem hl)
  rw [show m / 29 * 29 + m % 29 = m by omega, h] at h2
  exact ⟨k, hk, by rw [List.getElem?_eq_getElem hl]; exact h2.symm⟩
def cellsOf (KL : List Cells29) (m : Nat) : Value := (flat (fun k : Cells29 => k.1) KL).getD m undef
theorem own_rowF {w : World} {base : Nat} {v : Value} {KL : List Cells29} (h : OwnSl 42 29 (fun k : Cells29 => k.1) w base v KL) (h0 : 0 < KL.length) :
    ∃ g c, v = .slice (some ⟨g, 0, none⟩) KL.length c ∧ base ≤ g ∧ g < w.heap.size ∧ RowF w g (KL.length * 29) (cellsOf KL) := by
  rcases h.2 with ⟨_, h1⟩ | ⟨g, cap, cur, hv, hb, hg, hle, _, hsz, ht⟩
  · omega
  · refine ⟨g, cap, hv, hb, h.lt (by rw [hv]; rfl), fun m hm => ?_, fun m hm => ?_⟩
    · have hl : m < (cur.toList.take (KL.length * 29)).length := by
        have h2 : cur.toList.length = cap * 29 := by rw [← hsz]; simp
        have : KL.length * 29 ≤ cap * 29 := Nat.mul_le_mul_right 29 hle
        rw [List.length_take, h2]
        omega
      unfold cellsOf World.cell?
      simp only [hg]
      rw [← ht, List.getD_eq_getElem?_getD, List.getElem?_eq_getElem hl]
      have hl2 : m < cur.size := by
        have : KL.length * 29 ≤ cap * 29 := Nat.mul_le_mul_right 29 hle
        omega
      simp [hl2]
    · unfold World.frozen?
      simp [hg]
set_option maxHeartbeats 4000000 in
set_option maxRecDepth 100000 in
theorem clone_cells (KL : List Cells29) (b o c n : Nat) (w : World) (hl : KL.length = n) (hn : n ≤ 100) (hr : ∀ (i : Nat) k, KL[i]? = some k → w.rangeAt b (o + i * 29) k.1) (hlt : b < w.heap.size) (hones : ∀ k ∈ KL, ∀ u ∈ k.1, u.oneCell' = true) :
    Calls Tryz.prog 31 #[.slice (some ⟨b, o, none⟩) n c] w fun e w' => ∃ v' : Value, e = .returned v' ∧ OwnSl 42 29 (fun k : Cells29 => k.1) w' w.heap.size v' KL ∧ Below w.heap.size w w' := by
  have HO1 := Lib.hid hones
  have HR := Lib.hid hr
  have HKL := Lib.hid hl
  have HLT := Lib.hid hlt
  obtain ⟨j0, hi, hz0, hz1, hz2⟩ := info_parts' info_node
  have HJ0 := Lib.hid hi
  have HY0 := Lib.hid hz0
  have HY1 := Lib.hid hz1
  have HY2 := Lib.hid hz2
  have hq : ∀ W, (binOp .eql 25 (.slice (some ⟨b, o, none⟩) n c) (.slice none 0 0)).run Tryz.prog W = .ok (.bool false) W := fun W => Go.Lib.run_eql_slice_some_nil W _ _ _ Tryz.underlying25
  clear hi hz0 hz1 hz2 hr hl hlt hones
  have HB := Lib.hid (box_below w (.cells #[] 42))
  have HE := Lib.hid (ownsRow_empty w 42 29 w.heap.size (Nat.le_refl _))
  have HNW : Hid (0 < n → ∃ ad, (some ⟨b, o, none⟩ : Option Addr) = some ad ∧ ∀ (j : Nat) u, (flat (fun k : Cells29 => k.1) KL)[j]? = some u → (w.alloc (.cells #[] 42)).cell? (ad.add j) = some u) := Lib.hid fun _ => ⟨_, rfl, fun j u hu => by
    obtain ⟨k, hk, hku⟩ := flat29_get hu
    rw [Addr.add_mid]
    have := HR.out (j / 29) k hk (j % 29) u hku
    rw [show o + j / 29 * 29 + j % 29 = o + j by omega] at this
    exact (HB.out.cell (p := ⟨b, o + j, none⟩) HLT.out).trans this⟩
  have HFL : Hid ((flat (fun k : Cells29 => k.1) KL).length = n * 29) := Lib.hid (by rw [flat29_len, HKL.out])
  have HON : Hid (∀ u ∈ flat (fun k : Cells29 => k.1) KL, u.oneCell' = true) := Lib.hid fun u hu => by
    obtain ⟨j, hj⟩ := List.mem_iff_getElem?.1 hu
    obtain ⟨k, hk, hku⟩ := flat29_get hj
    exact HO1.out k (List.mem_of_getElem? hk) u (List.mem_of_getElem? hku)
  have HM : Hid (0 + n ≤ maxLen) := Lib.hid (by unfold maxLen; omega)
  have HM2 : Hid ((0 + n) * 424 ≤ 140737488355328) := Lib.hid (by omega)
  go_enter Tryz.func31, Tryz.ntmps31
  go_upto_region 3 with (fail)
  clear hq
  go_wp2_with (at_builtin; (refine wl_append rfl _ _ 25 rfl w.heap.size 42 j0 (.agg ⟨encC (.slice none 0 0) 0⟩) 29 424 Tryz.underlying25 HJ0.out HY0.out HY1.out HY2.out rfl (by decide) (.slice (some ⟨w.heap.size, 0, none⟩) 0 0) 0 [] rfl HE.out (some ⟨b, o, none⟩) n c (flat (fun k : Cells29 => k.1) KL) rfl HFL.out HNW.out HON.out HM.out HM2.out HB.out.size ?_; intro v' w' hown hg; have HO := Lib.hid hown; have HG := Lib.hid hg; clear hown hg))
  go_ret
  have hbel : Below w.heap.size w w' := HB.out.grown HG.out HB.out.size (fun b hb => by
    have hb2 : w.heap.size = b := by simpa [Value.ownBlock] using hb
    omega)
  refine ⟨v', rfl, ?_, hbel⟩
  have := HO.out
  rw [Nat.zero_add, List.nil_append, ← HKL.out] at this
  exact this
def IntsG (u : World) (g p : Nat) (v : Value) (l : List Int) : Prop := ∃ A c, v = .slice A l.length c ∧ (0 < l.length → ∃ b o, A = some ⟨b, o, none⟩ ∧ b < u.heap.size ∧ (b ≠ g ∧ b ≠ p) ∧ ∀ (i : Nat) x, l[i]? = some x → u.cell? ⟨b, o + i, none⟩ = some (.int .i64 x))
theorem IntsG.below {u u' : World} {g p : Nat} {v : Value} {l : List Int} (h : IntsG u g p v l) (hb : Below u.heap.size u u') : IntsG u' g p v l := by
  obtain ⟨A, c, hv, h1⟩ := h
  refine ⟨A, c, hv, fun h0 => ?_⟩
  obtain ⟨b, o, h2, h3, h4, h5⟩ := h1 h0
  exact ⟨b, o, h2, Nat.lt_of_lt_of_le h3 hb.size, h4, fun i x hx => (hb.cell (p := ⟨b, o + i, none⟩) h3).trans (h5 i x hx)⟩
theorem IntsG.sets {u : World} {g p : Nat} {v : Value} {l : List Int} (h : IntsG u g p v l) (cs : List Value) (k : Nat) : IntsG (u.setCells g k cs) g p v l := by
  obtain ⟨A, c, hv, h1⟩ := h
  refine ⟨A, c, hv, fun h0 => ?_⟩
  obtain ⟨b, o, h2, h3, h4, h5⟩ := h1 h0
  exact ⟨b, o, h2, by rw [size_sets]; exact h3, h4, fun i x hx => (World.cell?_of_block (a := ⟨b, o + i, none⟩) (heap_sets0 g b h4.1 cs u k)).trans (h5 i x hx)⟩
theorem IntsG.put {u : World} {g p : Nat} {v : Value} {l : List Int} (h : IntsG u g p v l) (k : Nat) (y : Value) : IntsG (u.setCell ⟨g, k, none⟩ y) g p v l := h.sets [y] k
theorem IntsG.vals {u : World} {g p : Nat} {v : Value} {l : List Int} (h : IntsG u g p v l) (hl : l.length ≤ 10000) : IntsV u v l := by
  obtain ⟨A, c, hv, h1⟩ := h
  refine ⟨by omega, A, c, hv, fun h0 => ?_⟩
  obtain ⟨b, o, h2, h3, h4, h5⟩ := h1 h0
  refine ⟨b, o, h2, h3, fun i x hx => ⟨encI x, rfl, fun j u hu => ?_, rfl⟩⟩
  have hj : j = 0 := by
    have := (List.getElem?_eq_some_iff.1 hu).1
    have h6 : (encI x).length = 1 := rfl
    omega
  subst hj
  injection hu with hu
  rw [← hu, Nat.mul_one, Nat.add_zero]
  exact h5 i x hx
theorem IntsV.outside {u : World} {g p : Nat} {v : Value} {l : List Int} {B : Nat} (h : SlAt u B 1 (Enc encI) v l) (hB : B ≤ g) (hP : B ≤ p) (hu : B ≤ u.heap.size) : IntsG u g p v l := by
  obtain ⟨_, A, c, hv, h1⟩ := h
  refine ⟨A, c, hv, fun h0 => ?_⟩
  obtain ⟨b, o, h2, h3, h4⟩ := h1 h0
  refine ⟨b, o, h2, by omega, ⟨by omega, by omega⟩, fun i x hx => ?_⟩
  obtain ⟨cs, h5, h6, h7⟩ := h4 i x hx
  have h7' : cs = encI x := h7
  subst h7'
  have := h6 0 (.int .i64 x) rfl
  simpa using this
theorem clone_ints (u : World) (g p : Nat) (v : Value) (l : List Int) (h : IntsG u g p v l) (hg : g < u.heap.size) (hp : p < u.heap.size) (hl : l.length ≤ 10000) : Calls Tryz.prog 34 #[v] u fun e u' => ∃ v', e = .returned v' ∧ IntsG u' g p v' l ∧ Below u.heap.size u u' := by
  obtain ⟨A, c, hv, h1⟩ := h
  subst hv
  have key : ∀ (u' : World) (v' : Value), u'.ownsRow u.heap.size 3 1 v' l.length (l.map (Value.int .i64)) → Below u.heap.size u u' → IntsG u' g p v' l := fun u' v' ho hb => by
    have hown : OwnSl 3 1 encI u' u.heap.size v' l := own_flat rfl ho
    obtain ⟨_, A', c', hv', h2⟩ := (hown.ints hl).ints
    refine ⟨A', c', hv', fun h0 => ?_⟩
    obtain ⟨b, o, h3, h4, h5⟩ := h2 h0
    subst hv'
    subst h3
    have hblk : o = 0 := by
      rcases hown.2 with ⟨h6, _⟩ | ⟨q, cap, cur, h6, _⟩
      · cases h6
      · injection h6 with h6 _ _
        injection h6 with h6
        injection h6 with _ h6 _
    subst hblk
    have := hown.block (b := b) rfl
    exact ⟨b, 0, rfl, h4, ⟨by omega, by omega⟩, h5⟩
  rcases Nat.eq_zero_or_pos l.length with h0 | h0
  · have hnil : l = [] := List.eq_nil_of_length_eq_zero h0
    subst hnil
    cases A with
    | none => exact (Tryz.slices_Clone_int_nil _ _ _).mono fun e u' h => ⟨_, h.1, by rw [h.2]; exact ⟨none, 0, rfl, fun h0 => absurd h0 (Nat.lt_irrefl 0)⟩, by rw [h.2]; exact Below.refl _ _⟩
    | some ad => exact (Tryz.slices_Clone_int_zero ad c u).mono fun e u' ⟨v', h1, h2, _, h3⟩ => ⟨v', h1, key u' v' h2 h3, h3⟩
  · obtain ⟨b, o, rfl, h2, h3, h4⟩ := h1 h0
    refine (Tryz.slices_Clone_int b o l.length c l u (Nat.le_refl _) (by omega) fun j hj => h4 j _ ?_).mono fun e u' ⟨v', h5, h6, _, h7⟩ => ⟨v', h5, key u' v' (by rwa [List.take_length] at h6) h7, h7⟩
    rw [List.getD_eq_getElem?_getD, List.getElem?_eq_getElem hj]
    rfl
theorem rowF_sets {w : World} {g n : Nat} {f : Nat → Value} : ∀ (cs : List Value) (w : World) (k : Nat), RowF w g n f → (∀ i u, cs[i]? = some u → k + i < n ∧ f (k + i) = u) → RowF (w.setCells g k cs) g n f
  | [], _, _, h, _ => h
  | v :: cs, w, k, h, hc => by
    have h0 := hc 0 v rfl
    exact rowF_sets (w := w) cs (w.setCell ⟨g, k, none⟩ v) (k + 1) (h.same h0.1 h0.2.symm) fun i u hu => by
      have := hc (i + 1) u (by simpa using hu)
      rw [show k + 1 + i = k + (i + 1) by omega]
      exact this
end Go.Proofs.YtpmjcbjdcjjplaaGreat
end
