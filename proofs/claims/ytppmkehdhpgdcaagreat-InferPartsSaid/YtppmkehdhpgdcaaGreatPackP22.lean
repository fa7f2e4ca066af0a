/- Parts of a proof: Prim. -/
import Derived.Test.YtppmkehdhpgdcaaGreatPackP21
namespace Go.Proofs.YtppmkehdhpgdcaaGreat
open Go Go.RowKit
set_option linter.unusedVariables false
set_option linter.unusedSimpArgs false
section
variable {P : Program} {ops : Array Oper} {S : World → Prop} {Q : Exit → Act → World → Prop} {i : Nat} {r : List (Nat × Bool)} {o : Oper} {a : Act} {w : World}
theorem exec_alloc (T : TypeId) (ho : o.op = .alloc T) (j : TypeInfo) (z : Value) (hi : P.info? T = some j) (hz : j.zero = some z) :
    (execOp a.eval o).run P w = .ok (.value (.pointer (some ⟨w.heap.size, 0, none⟩))) (w.alloc (.cells z.cells T)) := by
  have hzv : (zeroValue T).run P w = .ok z w := by simp [zeroValue, typeInfo, hi, hz]
  unfold execOp
  simp only [ho, Instr.alloc, Sem.run_bind, hzv, Result.andThen_ok]
  simp [newVar, newRow]
theorem ord_wstore (d : Option Tmp) (T : TypeId) (o : Oper) (x y : Operand) (hi : ops[i]? = some o) (ho : o.op = .store T x y) (hd : o.dst = d) (hw : Region.wanted o (yielded ops a.tmps) = true) (b : Nat) (cs0 cs : List Value) (hb : Whole T w b cs0) (hl : cs0.length = cs.length)
    (hx : a.eval x = .pointer (some ⟨b, 0, none⟩)) (hy : a.eval y = .agg cs.toArray) (hi2 : (P.info? T).map (·.size) = some cs.length) (h1 : ∀ v ∈ cs, v.oneCell' = true)
    (h : ∀ Z, Whole T Z b cs → But w Z b b → S Z ∧ wpOrd P ops S Q r (a.put d undef) Z) : wpOrd P ops S Q ((i, false) :: r) a w := by
  subst hd
  refine ord_act o hi hw fun K hK => ?_
  have hz := h (w.setCells b 0 cs) (heap_set_row b T cs [] cs0 w hb hl) (but_sets b cs w 0)
  exact wp_store_mid T x y ho b 0 cs.toArray hx hy (by rw [List.size_toArray, ← hl]; exact hb.there) (by simpa using hi2) (all_oneCell_toArray h1) (by simpa using hK _ _ hz.1 hz.2)
end
theorem tok_one (t : Tok) : ∀ v ∈ tokC t, v.oneCell' = true := by
  intro v hv; simp only [tokC, List.mem_cons, List.not_mem_nil, or_false] at hv; rcases hv with rfl | rfl | rfl | rfl | rfl | rfl <;> rfl
theorem info_tok : (Tryz.prog.info? 141).map (fun i => (i.zero, i.size, i.bytes)) = some (some (.agg (tokC ⟨0, 0, 0, 0, 0, ⟨#[]⟩⟩).toArray), 6, 56) := by kernel_rfl
def plainB (s : ByteArray) : Bool := !(s.toList == [116, 114, 117, 101]) && (!(s.toList == [102, 97, 108, 115, 101]) && (!(s.toList == [108, 101, 110]) && (!(s.toList == [102, 108, 111, 97, 116]) && (!(s.toList == [105, 110, 116]) && !(s.toList == [115, 116, 114])))))
theorem Whole.cells {T : TypeId} {w : World} {b : Nat} {cs : List Value} (h : Whole T w b cs) (k : Nat) {v : Value} (hv : cs[k]? = some v) : w.cell? ⟨b, k, none⟩ = some v := by
  have := h.range k v hv
  rwa [Nat.zero_add] at this
theorem PS.under {T : TypeId} {pb tb c : Nat} {E : Int} {toks : List Tok} {w w' : World} {i : Nat} {d : Int} (h : PS T pb tb c E toks w i d) (b : Nat) (hp : b ≠ pb) (ht : b ≠ tb) (hb : But w w' b b) : PS T pb tb c E toks w' i d :=
  ⟨(hb.block pb h.lt.2 (Ne.symm hp) (Ne.symm hp)).trans h.blk, h.ne, ⟨Nat.lt_of_lt_of_le h.lt.1 hb.size, Nat.lt_of_lt_of_le h.lt.2 hb.size⟩, fun j t hj a v hv => (hb.cell h.lt.1 (Ne.symm ht) (Ne.symm ht)).trans (h.tok j t hj a v hv), h.len⟩
theorem but_last {w z Z : World} {p pb : Nat} (h : But w z pb pb) (k : But z Z p p) (hp : w.heap.size ≤ p) : But w Z pb pb :=
  ⟨k.os.trans h.os, k.tape.trans h.tape, k.output.trans h.output, Nat.le_trans h.size k.size, fun b hb h1 h2 => (k.block b (Nat.lt_of_lt_of_le hb h.size) (by omega) (by omega)).trans (h.block b hb h1 h2)⟩
section
variable {pb tb c : Nat} {E : Int} {toks : List Tok} {w : World} {i : Nat} {d : Int}
set_option maxHeartbeats 4000000 in
set_option maxRecDepth 100000 in
theorem prim_int (t : Tok) (ht : toks[i]? = some t) (hk : t.kind = 2) (h : PSt pb tb c E toks w i d) :
    Calls Tryz.prog 164 #[.pointer (some ⟨pb, 0, none⟩)] w fun e w' => e = .returned (.agg ⟨conC 2 t.n 0 ⟨#[]⟩⟩) ∧ PSt pb tb c E toks w' (i + 1) d ∧ But w w' pb pb := by
  obtain ⟨i0, hi0, hz0, hz1, hz2⟩ := info_parts info_tok
  have hno : ∀ s, isB toks i s = false := fun s => by unfold isB; rw [ht]; show (decide (t.kind = 6) && _) = false; rw [hk]; rfl
  have HNO := Lib.hid hno
  have hil : i < toks.length := (List.getElem?_eq_some_iff.1 ht).1
  have HIL := Lib.hid hil
  have hlen := h.len
  have HT := Lib.hid ht
  have HK := Lib.hid hk
  have H := Lib.hid h
  have d3 := h.cell 3
  simp only [List.getElem?_toArray, List.getElem?_cons_succ, List.getElem?_cons_zero] at d3
  clear hno hk ht h hil
  go_enter Tryz.func164, Tryz.ntmps164
  go_upto_region 1 with (fail)
  have HR0 := Lib.hid (Whole.new w zEc 30)
  have HB0 := Lib.hid (box_below w (.cells zEc.toArray 30))
  have hz : (#[Value.int IntKind.i64 0, Value.string { data := #[] }, Value.int IntKind.i64 0, Value.int IntKind.i64 0, Value.float FloatKind.f64 0, Value.string { data := #[] }, Value.slice none 0 0, Value.slice none 0 0, Value.slice none 0 0, Value.slice none 0 0] : Array Value) = zEc.toArray := rfl
  rw [hz]
  clear hz
  have HRW : Hid (w.heap.size < (w.alloc (.cells zEc.toArray 30)).heap.size) := Lib.hid (by simp)
  generalize w.alloc (.cells zEc.toArray 30) = W at *
  obtain ⟨p, hp⟩ : ∃ p, w.heap.size = p := ⟨_, rfl⟩
  rw [hp] at HR0 HRW
  rw [hp]
  have HP := Lib.hid hp
  have HS0 := Lib.hid (H.out.keep HB0.out)
  have HPN : Hid (p ≠ pb ∧ p ≠ tb) := Lib.hid ⟨by have := H.out.lt; omega, by have := H.out.lt; omega⟩
  have d3' := HS0.out.cell 3
  simp only [List.getElem?_toArray, List.getElem?_cons_succ, List.getElem?_cons_zero] at d3'
  clear hp d3
  go_upto_region 3 with (fail)
  clear d3'
  go_upto_region 7 with (go_at_call 96; refine (take_no HS0.out (HNO.out _)).mono ?_; rintro e w1 ⟨rfl, h1, h2⟩; have HS1 := Lib.hid h1; have HB1 := Lib.hid h2; clear h1 h2)
  go_upto_region 9 with (go_at_call 96; refine (take_no HS1.out (HNO.out _)).mono ?_; rintro e w2 ⟨rfl, h1, h2⟩; have HS2 := Lib.hid h1; have HB2 := Lib.hid h2; clear h1 h2)
  go_upto_region 11 with (go_at_call 96; refine (take_no HS2.out (HNO.out _)).mono ?_; rintro e w3 ⟨rfl, h1, h2⟩; have HS3 := Lib.hid h1; have HB3 := Lib.hid h2; clear h1 h2)
  have HB03 := Lib.hid (HB1.out.trans (HB2.out.trans HB3.out))
  clear HB1 HB2 HB3 HS1 HS2
  have d0 := HS3.out.cell 0
  have d1 := HS3.out.cell 1
  simp only [List.getElem?_toArray, List.getElem?_cons_succ, List.getElem?_cons_zero] at d0 d1
  have c0 : w3.cell? ⟨tb, i * 6, none⟩ = some (.int .i64 2) := (HS3.out.tok i t HT.out 0 _ rfl).trans (by rw [HK.out])
  have q1 : ¬ ((toks.length : Int) ≤ (i : Int)) := by have := HIL.out; omega
  have q2 : (i : Int) < (toks.length : Int) := by have := HIL.out; omega
  go_quiet (fail)
  have HBQ : Hid (Below w3.heap.size w3 (w3.drewN nq)) := Lib.hid ⟨rfl, rfl, rfl, Nat.le_refl _, fun _ _ => rfl⟩
  generalize w3.drewN nq = w4 at *
  have HS4 := Lib.hid (HS3.out.keep HBQ.out)
  have HB04 := Lib.hid (HB03.out.trans (But.of_below HBQ.out pb pb))
  clear d0 d1 c0 HBQ HS3 HB03
  go_upto_region 14 with (fail)
  have d0 := HS4.out.cell 0
  have d1 := HS4.out.cell 1
  simp only [List.getElem?_toArray, List.getElem?_cons_succ, List.getElem?_cons_zero] at d0 d1
  have ht6 := HS4.out.tok i t HT.out
  have HS4D := Lib.hid (HS4.out.keep (Below.refl _ w4).drew)
  have hs : PSt pb tb c E toks w4.drew i d := HS4D.out
  clear d0 d1 ht6
  refine wp_region_ord [(0, true), (1, true), (2, true), (3, true), (4, true), (5, true), (6, true), (7, true), (8, true), (9, true), (10, false), (11, false)]
    (fun z => PSt pb tb c E toks z i d) (by kernel_rfl) (by kernel_rfl) (by kernel_rfl) rfl (by intro c a d v w h; cases d <;> exact h) ?_
  refine ord_move (some 57) (.pointer (some ⟨pb, 0, none⟩)) _ _ rfl rfl rfl (by first | exact wanted_none rfl | exact wanted_if rfl rfl rfl rfl) hs rfl ?_
  go_frame
  refine ord_load (some 58) (.pointer (some ⟨pb, 0, none⟩)) _ rfl rfl (by first | exact wanted_none rfl | exact wanted_if rfl rfl rfl rfl) hs (fun z hz => by go_simp) ?_
  go_frame
  refine ord_load (some 59) (.pointer (some ⟨pb, 0, none⟩)) _ rfl rfl (by first | exact wanted_none rfl | exact wanted_if rfl rfl rfl rfl) hs (fun z hz => by go_simp) ?_
  go_frame
  refine ord_load (some 60) (.slice (some ⟨tb, 0, none⟩) toks.length c) _ rfl rfl (by first | exact wanted_none rfl | exact wanted_if rfl rfl rfl rfl) hs (fun z hz => by have d0 := hz.cell 0; simp only [List.getElem?_toArray, List.getElem?_cons_zero] at d0; clear hz; go_simp) ?_
  go_frame
  refine ord_move (some 61) (.pointer (some ⟨pb, 0, none⟩)) _ _ rfl rfl rfl (by first | exact wanted_none rfl | exact wanted_if rfl rfl rfl rfl) hs rfl ?_
  go_frame
  refine ord_load (some 62) (.pointer (some ⟨pb, 0, none⟩)) _ rfl rfl (by first | exact wanted_none rfl | exact wanted_if rfl rfl rfl rfl) hs (fun z hz => by go_simp) ?_
  go_frame
  refine ord_load (some 63) (.pointer (some ⟨pb, 1, none⟩)) _ rfl rfl (by first | exact wanted_none rfl | exact wanted_if rfl rfl rfl rfl) hs (fun z hz => by go_simp) ?_
  go_frame
  refine ord_load (some 64) (.int .i64 i) _ rfl rfl (by first | exact wanted_none rfl | exact wanted_if rfl rfl rfl rfl) hs (fun z hz => by have d1 := hz.cell 1; simp only [List.getElem?_toArray, List.getElem?_cons_succ, List.getElem?_cons_zero] at d1; clear hz; go_simp) ?_
  go_frame
  refine ord_load (some 65) (.pointer (some ⟨tb, i * 6, none⟩)) _ rfl rfl (by first | exact wanted_none rfl | exact wanted_if rfl rfl rfl rfl) hs (fun z hz => by go_simp) ?_
  go_frame
  refine ord_load (some 66) (.agg ⟨tokC t⟩) _ rfl rfl (by first | exact wanted_none rfl | exact wanted_if rfl rfl rfl rfl) hs (fun z hz => exec_sload 141 rfl tb (i * 6) (tokC t) _ rfl (hz.tok i t HT.out) Tryz.underlying141 rfl (by kernel_rfl)) ?_
  go_frame
  have hn := hs.keep (box_below w4.drew (.cells (tokC ⟨0, 0, 0, 0, 0, ⟨#[]⟩⟩).toArray 141))
  refine ord_run (some 4) (.pointer (some ⟨w4.drew.heap.size, 0, none⟩)) (w4.drew.alloc (.cells (tokC ⟨0, 0, 0, 0, 0, ⟨#[]⟩⟩).toArray 141)) _ rfl rfl (by first | exact wanted_none rfl | exact wanted_if rfl rfl rfl rfl) (exec_alloc 141 rfl i0 _ hi0 hz0) hn ?_
  go_frame
  refine ord_wstore none 141 _ _ _ rfl rfl rfl (by first | exact wanted_none rfl | exact wanted_if rfl rfl rfl rfl) w4.drew.heap.size (tokC ⟨0, 0, 0, 0, 0, ⟨#[]⟩⟩) (tokC t) (Whole.new _ _ _) rfl rfl rfl (by kernel_rfl) (tok_one t) ?_
  intro w5 hw5 hb5
  have hq5 : w4.drew.heap.size ≠ pb ∧ w4.drew.heap.size ≠ tb := ⟨by have := hs.lt; omega, by have := hs.lt; omega⟩
  have hs5 := hn.under w4.drew.heap.size hq5.1 hq5.2 hb5
  refine ⟨hs5, ?_⟩
  go_frame
  refine ord_end ?_
  have HB45 : Hid (Below w4.heap.size w4 w5) := Lib.hid (((Below.refl _ w4).drew.trans (box_below w4.drew _)).trans (hb5.below (B := w4.heap.size) (by simp) (Nat.le_refl _) (Nat.le_refl _)))
  have HB05 := Lib.hid (HB04.out.trans (But.of_below HB45.out pb pb))
  have HS5 := Lib.hid hs5
  obtain ⟨qb, hqb⟩ : ∃ q, w4.drew.heap.size = q := ⟨_, rfl⟩
  rw [hqb] at hw5 hq5
  have HQ5 := Lib.hid hq5
  have HT5 := Lib.hid hw5
  rw [hqb]
  clear hs hn hs5 hb5 hw5 hq5 hqb HB04 HB45
  have HR5 := Lib.hid (HR0.out.keep (HB05.out.block p HRW.out HPN.out.1 HPN.out.1))
  go_upto_region 15 with (fail)
  have d1 := HS5.out.cell 1
  have f1 := HS5.out.thaw 1
  simp only [List.getElem?_toArray, List.getElem?_cons_succ, List.getElem?_cons_zero] at d1
  have HS6 := Lib.hid (HS5.out.setI (i + 1))
  have HB6 := Lib.hid (But.setAt w5 pb 1 (.int .i64 ((i + 1 : Nat) : Int)))
  have HT6 := Lib.hid (HT5.out.keep (HB6.out.block qb HT5.out.lt HQ5.out.1 HQ5.out.1))
  have HR6 := Lib.hid (HR5.out.keep (HB6.out.block p HR5.out.lt HPN.out.1 HPN.out.1))
  have hcs : w5.setCell ⟨pb, 1, none⟩ (.int .i64 ((i + 1 : Nat) : Int)) = w5.setCell ⟨pb, 1, none⟩ (.int .i64 ((i : Int) + 1)) := rfl
  rw [hcs] at HS6 HB6 HT6 HR6
  clear hcs
  go_upto_region 16 with (fail)
  generalize w5.setCell ⟨pb, 1, none⟩ (.int .i64 ((i : Int) + 1)) = w6 at *
  clear d1 f1
  have HB06 := Lib.hid (HB05.out.trans HB6.out)
  have k0 : w6.cell? ⟨qb, 0, none⟩ = some (.int .i64 2) := (HT6.out.cells 0 rfl).trans (by rw [HK.out])
  have k3 : w6.cell? ⟨qb, 3, none⟩ = some (.int .i64 t.n) := HT6.out.cells 3 rfl
  go_wp2_with (first
    | (go_at_call 168; refine (con_raw 2 t.n 0 ⟨#[]⟩ w6).mono ?_; rintro e z ⟨rfl, hb⟩; have HBZ := Lib.hid hb; have HRZ := Lib.hid (HR6.out.keep (hb.block p HR6.out.lt)); clear hb)
    | ((with_reducible refine wl_wstore 30 _ _ rfl rfl ?hwd p zEc (conC 2 t.n 0 ⟨#[]⟩) HRZ.out ?hs5 ?hs6 ?hs7 ?hs8 ?hs9 ?_); (case hwd => first | exact wanted_none rfl | exact wanted_if rfl rfl rfl rfl); (case hs5 => rfl); (case hs6 => rfl); (case hs7 => rfl); (case hs8 => kernel_rfl); (case hs9 => exact con_one 2 t.n 0 ⟨#[]⟩); intro Z hz hb; have HZ := Lib.hid hz; have HZB := Lib.hid hb; clear hz hb))
  (try simp only [Exit.inBlock, Exit.then])
  refine bodyPost_ret (results_exp rfl _ _ p (conC 2 t.n 0 ⟨#[]⟩) (con_len 2 t.n 0 ⟨#[]⟩) rfl HZ.out) rfl ?_
  have hp := HP.out
  have hbz := (But.of_below HB0.out pb pb).trans (HB06.out.trans (But.of_below HBZ.out pb pb))
  exact ⟨rfl, (HS6.out.keep HBZ.out).under p HPN.out.1 HPN.out.2 HZB.out, but_last hbz HZB.out (by omega)⟩
set_option maxHeartbeats 4000000 in
set_option maxRecDepth 100000 in
theorem prim_name (t : Tok) (ht : toks[i]? = some t) (hk : t.kind = 5) (hpl : plainB t.s = true) (h : PSt pb tb c E toks w i d) :
    Calls Tryz.prog 164 #[.pointer (some ⟨pb, 0, none⟩)] w fun e w' => e = .returned (.agg ⟨varC t.s⟩) ∧ PSt pb tb c E toks w' (i + 1) d ∧ But w w' pb pb := by
  obtain ⟨i0, hi0, hz0, hz1, hz2⟩ := info_parts info_tok
  have hno : ∀ s, isB toks i s = false := fun s => by unfold isB; rw [ht]; show (decide (t.kind = 6) && _) = false; rw [hk]; rfl
  have HNO := Lib.hid hno
  have hil : i < toks.length := (List.getElem?_eq_some_iff.1 ht).1
  have HIL := Lib.hid hil
  have hlen := h.len
  have HT := Lib.hid ht
  have HK := Lib.hid hk
  have H := Lib.hid h
  have d3 := h.cell 3
  simp only [List.getElem?_toArray, List.getElem?_cons_succ, List.getElem?_cons_zero] at d3
  have HPL := Lib.hid hpl
  clear hno hk ht h hil hpl
  go_enter Tryz.func164, Tryz.ntmps164
  go_upto_region 1 with (fail)
  have HR0 := Lib.hid (Whole.new w zEc 30)
  have HB0 := Lib.hid (box_below w (.cells zEc.toArray 30))
  have hz : (#[Value.int IntKind.i64 0, Value.string { data := #[] }, Value.int IntKind.i64 0, Value.int IntKind.i64 0, Value.float FloatKind.f64 0, Value.string { data := #[] }, Value.slice none 0 0, Value.slice none 0 0, Value.slice none 0 0, Value.slice none 0 0] : Array Value) = zEc.toArray := rfl
  rw [hz]
  clear hz
  have HRW : Hid (w.heap.size < (w.alloc (.cells zEc.toArray 30)).heap.size) := Lib.hid (by simp)
  generalize w.alloc (.cells zEc.toArray 30) = W at *
  obtain ⟨p, hp⟩ : ∃ p, w.heap.size = p := ⟨_, rfl⟩
  rw [hp] at HR0 HRW
  rw [hp]
  have HP := Lib.hid hp
  have HS0 := Lib.hid (H.out.keep HB0.out)
  have HPN : Hid (p ≠ pb ∧ p ≠ tb) := Lib.hid ⟨by have := H.out.lt; omega, by have := H.out.lt; omega⟩
  have d3' := HS0.out.cell 3
  simp only [List.getElem?_toArray, List.getElem?_cons_succ, List.getElem?_cons_zero] at d3'
  clear hp d3
  go_upto_region 3 with (fail)
  clear d3'
  go_upto_region 7 with (go_at_call 96; refine (take_no HS0.out (HNO.out _)).mono ?_; rintro e w1 ⟨rfl, h1, h2⟩; have HS1 := Lib.hid h1; have HB1 := Lib.hid h2; clear h1 h2)
  go_upto_region 9 with (go_at_call 96; refine (take_no HS1.out (HNO.out _)).mono ?_; rintro e w2 ⟨rfl, h1, h2⟩; have HS2 := Lib.hid h1; have HB2 := Lib.hid h2; clear h1 h2)
  go_upto_region 11 with (go_at_call 96; refine (take_no HS2.out (HNO.out _)).mono ?_; rintro e w3 ⟨rfl, h1, h2⟩; have HS3 := Lib.hid h1; have HB3 := Lib.hid h2; clear h1 h2)
  have HB03 := Lib.hid (HB1.out.trans (HB2.out.trans HB3.out))
  clear HB1 HB2 HB3 HS1 HS2
  have d0 := HS3.out.cell 0
  have d1 := HS3.out.cell 1
  simp only [List.getElem?_toArray, List.getElem?_cons_succ, List.getElem?_cons_zero] at d0 d1
  have c0 : w3.cell? ⟨tb, i * 6, none⟩ = some (.int .i64 5) := (HS3.out.tok i t HT.out 0 _ rfl).trans (by rw [HK.out])
  have q1 : ¬ ((toks.length : Int) ≤ (i : Int)) := by have := HIL.out; omega
  have q2 : (i : Int) < (toks.length : Int) := by have := HIL.out; omega
  go_quiet (fail)
  have HBQ : Hid (Below w3.heap.size w3 (w3.drewN nq)) := Lib.hid ⟨rfl, rfl, rfl, Nat.le_refl _, fun _ _ => rfl⟩
  generalize w3.drewN nq = w4 at *
  have HS4 := Lib.hid (HS3.out.keep HBQ.out)
  have HB04 := Lib.hid (HB03.out.trans (But.of_below HBQ.out pb pb))
  clear d0 d1 c0 HBQ HS3 HB03
  go_upto_region 14 with (fail)
  have d0 := HS4.out.cell 0
  have d1 := HS4.out.cell 1
  simp only [List.getElem?_toArray, List.getElem?_cons_succ, List.getElem?_cons_zero] at d0 d1
  have ht6 := HS4.out.tok i t HT.out
  have HS4D := Lib.hid (HS4.out.keep (Below.refl _ w4).drew)
  have hs : PSt pb tb c E toks w4.drew i d := HS4D.out
  clear d0 d1 ht6
  refine wp_region_ord [(0, true), (1, true), (2, true), (3, true), (4, true), (5, true), (6, true), (7, true), (8, true), (9, true), (10, false), (11, false)]
    (fun z => PSt pb tb c E toks z i d) (by kernel_rfl) (by kernel_rfl) (by kernel_rfl) rfl (by intro c a d v w h; cases d <;> exact h) ?_
  refine ord_move (some 57) (.pointer (some ⟨pb, 0, none⟩)) _ _ rfl rfl rfl (by first | exact wanted_none rfl | exact wanted_if rfl rfl rfl rfl) hs rfl ?_
  go_frame
  refine ord_load (some 58) (.pointer (some ⟨pb, 0, none⟩)) _ rfl rfl (by first | exact wanted_none rfl | exact wanted_if rfl rfl rfl rfl) hs (fun z hz => by go_simp) ?_
  go_frame
  refine ord_load (some 59) (.pointer (some ⟨pb, 0, none⟩)) _ rfl rfl (by first | exact wanted_none rfl | exact wanted_if rfl rfl rfl rfl) hs (fun z hz => by go_simp) ?_
  go_frame
  refine ord_load (some 60) (.slice (some ⟨tb, 0, none⟩) toks.length c) _ rfl rfl (by first | exact wanted_none rfl | exact wanted_if rfl rfl rfl rfl) hs (fun z hz => by have d0 := hz.cell 0; simp only [List.getElem?_toArray, List.getElem?_cons_zero] at d0; clear hz; go_simp) ?_
  go_frame
  refine ord_move (some 61) (.pointer (some ⟨pb, 0, none⟩)) _ _ rfl rfl rfl (by first | exact wanted_none rfl | exact wanted_if rfl rfl rfl rfl) hs rfl ?_
  go_frame
  refine ord_load (some 62) (.pointer (some ⟨pb, 0, none⟩)) _ rfl rfl (by first | exact wanted_none rfl | exact wanted_if rfl rfl rfl rfl) hs (fun z hz => by go_simp) ?_
  go_frame
  refine ord_load (some 63) (.pointer (some ⟨pb, 1, none⟩)) _ rfl rfl (by first | exact wanted_none rfl | exact wanted_if rfl rfl rfl rfl) hs (fun z hz => by go_simp) ?_
  go_frame
  refine ord_load (some 64) (.int .i64 i) _ rfl rfl (by first | exact wanted_none rfl | exact wanted_if rfl rfl rfl rfl) hs (fun z hz => by have d1 := hz.cell 1; simp only [List.getElem?_toArray, List.getElem?_cons_succ, List.getElem?_cons_zero] at d1; clear hz; go_simp) ?_
  go_frame
  refine ord_load (some 65) (.pointer (some ⟨tb, i * 6, none⟩)) _ rfl rfl (by first | exact wanted_none rfl | exact wanted_if rfl rfl rfl rfl) hs (fun z hz => by go_simp) ?_
  go_frame
  refine ord_load (some 66) (.agg ⟨tokC t⟩) _ rfl rfl (by first | exact wanted_none rfl | exact wanted_if rfl rfl rfl rfl) hs (fun z hz => exec_sload 141 rfl tb (i * 6) (tokC t) _ rfl (hz.tok i t HT.out) Tryz.underlying141 rfl (by kernel_rfl)) ?_
  go_frame
  have hn := hs.keep (box_below w4.drew (.cells (tokC ⟨0, 0, 0, 0, 0, ⟨#[]⟩⟩).toArray 141))
  refine ord_run (some 4) (.pointer (some ⟨w4.drew.heap.size, 0, none⟩)) (w4.drew.alloc (.cells (tokC ⟨0, 0, 0, 0, 0, ⟨#[]⟩⟩).toArray 141)) _ rfl rfl (by first | exact wanted_none rfl | exact wanted_if rfl rfl rfl rfl) (exec_alloc 141 rfl i0 _ hi0 hz0) hn ?_
  go_frame
  refine ord_wstore none 141 _ _ _ rfl rfl rfl (by first | exact wanted_none rfl | exact wanted_if rfl rfl rfl rfl) w4.drew.heap.size (tokC ⟨0, 0, 0, 0, 0, ⟨#[]⟩⟩) (tokC t) (Whole.new _ _ _) rfl rfl rfl (by kernel_rfl) (tok_one t) ?_
  intro w5 hw5 hb5
  have hq5 : w4.drew.heap.size ≠ pb ∧ w4.drew.heap.size ≠ tb := ⟨by have := hs.lt; omega, by have := hs.lt; omega⟩
  have hs5 := hn.under w4.drew.heap.size hq5.1 hq5.2 hb5
  refine ⟨hs5, ?_⟩
  go_frame
  refine ord_end ?_
  have HB45 : Hid (Below w4.heap.size w4 w5) := Lib.hid (((Below.refl _ w4).drew.trans (box_below w4.drew _)).trans (hb5.below (B := w4.heap.size) (by simp) (Nat.le_refl _) (Nat.le_refl _)))
  have HB05 := Lib.hid (HB04.out.trans (But.of_below HB45.out pb pb))
  have HS5 := Lib.hid hs5
  obtain ⟨qb, hqb⟩ : ∃ q, w4.drew.heap.size = q := ⟨_, rfl⟩
  rw [hqb] at hw5 hq5
  have HQ5 := Lib.hid hq5
  have HT5 := Lib.hid hw5
  rw [hqb]
  clear hs hn hs5 hb5 hw5 hq5 hqb HB04 HB45
  have HR5 := Lib.hid (HR0.out.keep (HB05.out.block p HRW.out HPN.out.1 HPN.out.1))
  go_upto_region 15 with (fail)
  have d1 := HS5.out.cell 1
  have f1 := HS5.out.thaw 1
  simp only [List.getElem?_toArray, List.getElem?_cons_succ, List.getElem?_cons_zero] at d1
  have HS6 := Lib.hid (HS5.out.setI (i + 1))
  have HB6 := Lib.hid (But.setAt w5 pb 1 (.int .i64 ((i + 1 : Nat) : Int)))
  have HT6 := Lib.hid (HT5.out.keep (HB6.out.block qb HT5.out.lt HQ5.out.1 HQ5.out.1))
  have HR6 := Lib.hid (HR5.out.keep (HB6.out.block p HR5.out.lt HPN.out.1 HPN.out.1))
  have hcs : w5.setCell ⟨pb, 1, none⟩ (.int .i64 ((i + 1 : Nat) : Int)) = w5.setCell ⟨pb, 1, none⟩ (.int .i64 ((i : Int) + 1)) := rfl
  rw [hcs] at HS6 HB6 HT6 HR6
  clear hcs
  go_upto_region 16 with (fail)
  generalize w5.setCell ⟨pb, 1, none⟩ (.int .i64 ((i : Int) + 1)) = w6 at *
  clear d1 f1
  have HB06 := Lib.hid (HB05.out.trans HB6.out)
  have k0 : w6.cell? ⟨qb, 0, none⟩ = some (.int .i64 5) := (HT6.out.cells 0 rfl).trans (by rw [HK.out])
  have k5 : w6.cell? ⟨qb, 5, none⟩ = some (.string t.s) := HT6.out.cells 5 rfl
  have hpl2 := HPL.out
  unfold plainB at hpl2
  simp only [Bool.and_eq_true, Bool.not_eq_true'] at hpl2
  obtain ⟨n1, n2, n3, n4, n5, n6⟩ := hpl2
  go_wp2_with ((with_reducible refine wl_wstore 30 _ _ rfl rfl ?hwd p zEc (varC t.s) HR6.out ?hs5 ?hs6 ?hs7 ?hs8 ?hs9 ?_); (case hwd => first | exact wanted_none rfl | exact wanted_if rfl rfl rfl rfl); (case hs5 => rfl); (case hs6 => rfl); (case hs7 => rfl); (case hs8 => kernel_rfl); (case hs9 => exact var_one t.s); intro Z hz hb; have HZ := Lib.hid hz; have HZB := Lib.hid hb; clear hz hb)
  (try simp only [Exit.inBlock, Exit.then])
  refine bodyPost_ret (results_exp rfl _ _ p (varC t.s) rfl rfl HZ.out) rfl ?_
  have hp := HP.out
  have hbz := (But.of_below HB0.out pb pb).trans HB06.out
  exact ⟨rfl, HS6.out.under p HPN.out.1 HPN.out.2 HZB.out, but_last hbz HZB.out (by omega)⟩
end
end Go.Proofs.YtppmkehdhpgdcaaGreat
