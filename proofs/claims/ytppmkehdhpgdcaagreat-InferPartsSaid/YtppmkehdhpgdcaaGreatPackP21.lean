/- Parts of a proof: Par1, Par2, Par3. -/
import Derived.Test.YtppmkehdhpgdcaaGreatPackP13
import Derived.Test.YtppmkehdhpgdcaaGreatPackP20
section
namespace Go.Proofs.YtppmkehdhpgdcaaGreat
open Go Go.RowKit
set_option linter.unusedVariables false
set_option linter.unusedSimpArgs false
abbrev PSt (pb tb c : Nat) (E : Int) (toks : List Tok) (w : World) (i : Nat) (d : Int) : Prop := PS 123 pb tb c E toks w i d
def isB (toks : List Tok) (i : Nat) (s : ByteArray) : Bool := match toks[i]? with
  | some t => decide (t.kind = 6) && (t.s.toList == s.toList)
  | none => false
section
variable {pb tb c : Nat} {E : Int} {toks : List Tok} {w w' : World} {i : Nat} {d : Int}
set_option maxHeartbeats 2000000 in
set_option maxRecDepth 100000 in
theorem pis_any (s : ByteArray) (h : PSt pb tb c E toks w i d) : Calls Tryz.prog 133 #[.pointer (some ⟨pb, 0, none⟩), .string s] w fun e w' => e = .returned (.bool (isB toks i s)) ∧ Below w.heap.size w w' := by
  have HB : Hid (∀ n, Below w.heap.size w (w.drewN n)) := Lib.hid fun n => ⟨rfl, rfl, rfl, Nat.le_refl _, fun _ _ => rfl⟩
  have d0 := h.cell 0
  have d1 := h.cell 1
  have d3 := h.cell 3
  simp only [List.getElem?_toArray, List.getElem?_cons_succ, List.getElem?_cons_zero] at d0 d1 d3
  have hl := h.len
  by_cases hi : i < toks.length
  · obtain ⟨t, ht⟩ : ∃ t, toks[i]? = some t := ⟨_, List.getElem?_eq_getElem hi⟩
    have hr := h.tok i t ht
    have c0 : w.cell? ⟨tb, i * 6, none⟩ = some (.int .i64 t.kind) := hr 0 _ rfl
    have c5 : w.cell? ⟨tb, i * 6 + 5, none⟩ = some (.string t.s) := hr 5 _ rfl
    have hlt : (i : Int) < (toks.length : Int) := by omega
    have hb : isB toks i s = (decide (t.kind = 6) && (t.s.toList == s.toList)) := by unfold isB; rw [ht]
    by_cases hk : t.kind = 6
    · have e6 : (t.kind == 6) = true := by simpa using hk
      have hb2 : isB toks i s = (t.s.toList == s.toList) := by rw [hb, decide_eq_true hk]; rfl
      have HR := Lib.hid hb2
      clear h hr ht hb hb2 hk
      generalize t.kind = tk at *
      go_enter Tryz.func133, Tryz.ntmps133
      go_upto_region 1 with (fail)
      go_quiet (fail)
      go_wp2
      go_ret
      exact ⟨by rw [HR.out]; rfl, HB.out _⟩
    · have e6 : (t.kind == 6) = false := by simpa using hk
      have HR : Hid (isB toks i s = false) := Lib.hid (by rw [hb, decide_eq_false hk]; rfl)
      clear h hr ht hb c5
      generalize t.kind = tk at *
      go_enter Tryz.func133, Tryz.ntmps133
      go_upto_region 1 with (fail)
      go_quiet (fail)
      go_wp2
      go_ret
      exact ⟨by rw [HR.out]; rfl, HB.out _⟩
  · have HR : Hid (isB toks i s = false) := Lib.hid (by unfold isB; rw [List.getElem?_eq_none (by omega)])
    have hlt : ¬ ((i : Int) < (toks.length : Int)) := by omega
    clear h hi
    go_enter Tryz.func133, Tryz.ntmps133
    go_upto_region 1 with (fail)
    go_quiet (fail)
    go_wp2
    go_ret
    exact ⟨by rw [HR.out]; rfl, HB.out _⟩
theorem isB_lt {s : ByteArray} (h : isB toks i s = true) : i < toks.length := by
  unfold isB at h
  cases ht : toks[i]? with
  | none => rw [ht] at h; cases h
  | some t => exact (List.getElem?_eq_some_iff.1 ht).1
theorem PS.keepB {T : TypeId} (h : PS T pb tb c E toks w i d) (hb : Below w.heap.size w w') : PS T pb tb c E toks w' i d ∧ But w w' pb pb := ⟨h.keep hb, But.of_below hb pb pb⟩
set_option maxHeartbeats 1000000 in
set_option maxRecDepth 100000 in
theorem take_any (s : ByteArray) (h : PSt pb tb c E toks w i d) : Calls Tryz.prog 96 #[.pointer (some ⟨pb, 0, none⟩), .string s] w fun e w' =>
    e = .returned (.bool (isB toks i s)) ∧ PSt pb tb c E toks w' (if isB toks i s = true then i + 1 else i) d ∧ But w w' pb pb := by
  have HI := Lib.hid (pis_any s h)
  have H := Lib.hid h
  cases hb : isB toks i s with
  | false =>
    rw [hb] at HI
    clear h hb
    go_enter Tryz.func96, Tryz.ntmps96
    go_wp2_with (go_at_call 133; refine HI.out.mono ?_; rintro e z ⟨rfl, hb⟩; have HB := Lib.hid hb; clear hb)
    go_ret
    exact ⟨rfl, (H.out.keepB HB.out).1, (H.out.keepB HB.out).2⟩
  | true =>
    have hlt := isB_lt hb
    have hl := h.len
    rw [hb] at HI
    have HW : Hid (IntKind.i64.wrap ((i : Int) + 1) = ((i + 1 : Nat) : Int)) := Lib.hid (by rw [IntKind.wrap_i64]; omega)
    clear h hb
    go_enter Tryz.func96, Tryz.ntmps96
    go_upto_region 2 with (go_at_call 133; refine HI.out.mono ?_; rintro e z ⟨rfl, hb⟩; have HB := Lib.hid hb; have d1 := (H.out.keep hb).cell 1; have f1 := (H.out.keep hb).thaw 1; clear hb)
    simp only [List.getElem?_toArray, List.getElem?_cons_succ, List.getElem?_cons_zero] at d1
    go_wp2
    go_ret
    have h2 := (H.out.keep HB.out).setI (i + 1)
    have h3 := (But.of_below HB.out pb pb).trans (But.setAt z pb 1 (.int .i64 ((i + 1 : Nat) : Int)))
    exact ⟨rfl, h2, h3⟩
theorem take_no {s : ByteArray} (h : PSt pb tb c E toks w i d) (hb : isB toks i s = false) : Calls Tryz.prog 96 #[.pointer (some ⟨pb, 0, none⟩), .string s] w fun e w' =>
    e = .returned (.bool false) ∧ PSt pb tb c E toks w' i d ∧ But w w' pb pb := by
  have := take_any s h
  rw [hb] at this
  exact this
theorem take_yes {s : ByteArray} (h : PSt pb tb c E toks w i d) (hb : isB toks i s = true) : Calls Tryz.prog 96 #[.pointer (some ⟨pb, 0, none⟩), .string s] w fun e w' =>
    e = .returned (.bool true) ∧ PSt pb tb c E toks w' (i + 1) d ∧ But w w' pb pb := by
  have := take_any s h
  rw [hb] at this
  exact this
set_option maxHeartbeats 1000000 in
theorem want_yes {s : ByteArray} (h : PSt pb tb c E toks w i d) (hb : isB toks i s = true) : Calls Tryz.prog 97 #[.pointer (some ⟨pb, 0, none⟩), .string s] w fun e w' =>
    e = .returned (.tuple #[]) ∧ PSt pb tb c E toks w' (i + 1) d ∧ But w w' pb pb := by
  have HT := Lib.hid (take_yes h hb)
  clear h hb
  go_enter Tryz.func97, Tryz.ntmps97
  go_wp2_with (go_at_call 96; refine HT.out.mono ?_; rintro e z ⟨rfl, h1, h2⟩; have H1 := Lib.hid h1; have H2 := Lib.hid h2; clear h1 h2)
  (try simp only [Exit.inBlock, Exit.then])
  refine bodyPost_end (results_none rfl _ _ _) rfl ?_
  exact ⟨rfl, H1.out, H2.out⟩
set_option maxHeartbeats 1000000 in
set_option maxRecDepth 100000 in
theorem down_any (h : PSt pb tb c E toks w i d) (h0 : 0 ≤ d) (h1 : d < 100) : Calls Tryz.prog 94 #[.pointer (some ⟨pb, 0, none⟩)] w fun e w' =>
    e = .returned (.tuple #[]) ∧ PSt pb tb c E toks w' i (d + 1) ∧ But w w' pb pb := by
  have H := Lib.hid (h.setD (d + 1))
  have HB := Lib.hid (But.setAt w pb 5 (.int .i64 (d + 1)))
  have d5 := h.cell 5
  have f5 := h.thaw 5
  simp only [List.getElem?_toArray, List.getElem?_cons_succ, List.getElem?_cons_zero] at d5
  have t1 : ¬ (100 < d + 1) := by omega
  have t2 : decide (100 < d + 1) = false := decide_eq_false t1
  clear h
  go_enter Tryz.func94, Tryz.ntmps94
  go_wp2
  (try simp only [Exit.inBlock, Exit.then])
  refine bodyPost_end (results_none rfl _ _ _) rfl ?_
  exact ⟨rfl, H.out, HB.out⟩
end
end Go.Proofs.YtppmkehdhpgdcaaGreat
end
section
namespace Go.Proofs.YtppmkehdhpgdcaaGreat
open Go Go.RowKit
set_option linter.unusedVariables false
set_option linter.unusedSimpArgs false
section
variable {P : Program} {ops : Array Oper} {rest : List Oper} {o : Oper} {a : Act} {w : World} {Q : Exit → Act → World → Prop}
theorem wl_build2 (t : TypeId) (x y : Operand) (ho : o.op = .buildSlice t 2 #[(0, x), (1, y)]) (hw : Region.wanted o (yielded ops a.tmps) = true) (e : TypeId) (i : TypeInfo) (z : Value) (k1 k2 : List Value) (hx : a.eval x = .agg k1.toArray) (hy : a.eval y = .agg k2.toArray)
    (ht : P.underlying t = some (.slice e)) (hi : P.info? e = some i) (hz : i.zero = some z) (hsz : i.size = k1.length) (hs2 : k2.length = k1.length) (h0 : 0 < k1.length) (hmax : k1.length ≤ 1000)
    (h : wpList P ops Q rest (a.put o.dst (.slice (some ⟨w.heap.size, 0, none⟩) 2 2)) (w.alloc (.cells ⟨k1 ++ k2⟩ e))) : wpList P ops Q (o :: rest) a w := by
  refine wpList_step fun K hK => ?_
  rw [if_pos hw]
  unfold Oper.wp
  rw [exec_build2 t x y ho e i z k1 k2 hx hy ht hi hz hsz hs2 h0 hmax]
  exact hK _ _ h
def Whole (T : TypeId) (w : World) (b : Nat) (cs : List Value) : Prop := w.heap[b]? = some (.cells ⟨cs⟩ T (0, 0))
theorem Whole.new (w : World) (cs : List Value) (T : TypeId) : Whole T (w.alloc (.cells ⟨cs⟩ T)) w.heap.size cs := heap_alloc_new w _
theorem Whole.range {T : TypeId} {b : Nat} {cs : List Value} (h : Whole T w b cs) : w.rangeAt b 0 cs := by
  intro j v hv
  rw [Nat.zero_add]
  rw [cell_of_row w b j ⟨cs⟩ T _ h]
  simpa using hv
theorem Whole.lt {T : TypeId} {b : Nat} {cs : List Value} (h : Whole T w b cs) : b < w.heap.size := by
  rcases Nat.lt_or_ge b w.heap.size with h1 | h1
  · exact h1
  · unfold Whole at h; rw [Array.getElem?_eq_none h1] at h; cases h
theorem Whole.keep {T : TypeId} {w' : World} {b : Nat} {cs : List Value} (h : Whole T w b cs) (hb : w'.heap[b]? = w.heap[b]?) : Whole T w' b cs := hb.trans h
theorem Whole.there {T : TypeId} {b : Nat} {cs : List Value} (h : Whole T w b cs) : w.there b 0 cs.length := by
  intro j hj
  rw [Nat.zero_add, cell_of_row w b j ⟨cs⟩ T _ h]
  refine ⟨by simp [hj], ?_⟩
  unfold World.frozen?
  have h2 : w.heap[b]? = some (.cells ⟨cs⟩ T (0, 0)) := h
  simp [h2]
theorem Whole.tag {T : TypeId} {b : Nat} {cs : List Value} (h : Whole T w b cs) : Tag w b T := ⟨_, h⟩
theorem heap_set_row (b : Nat) (T : TypeId) : ∀ (vs pre mid : List Value) (w : World), w.heap[b]? = some (.cells ⟨pre ++ mid⟩ T (0, 0)) → mid.length = vs.length → (w.setCells b pre.length vs).heap[b]? = some (.cells ⟨pre ++ vs⟩ T (0, 0))
  | [], pre, mid, w, h, hl => by
    rw [List.eq_nil_of_length_eq_zero hl] at h
    exact h
  | v :: vs, pre, [], w, h, hl => by cases hl
  | v :: vs, pre, m :: mid, w, h, hl => by
    have h1 : (w.setCell ⟨b, pre.length, none⟩ v).heap[b]? = some (.cells ⟨(pre ++ [v]) ++ mid⟩ T (0, 0)) := by
      show (w.heap.modify b _)[b]? = _
      rw [Array.getElem?_modify, if_pos rfl, h]
      simp
    have h2 := heap_set_row b T vs (pre ++ [v]) mid (w.setCell ⟨b, pre.length, none⟩ v) h1 (by simpa using hl)
    rw [List.length_append] at h2
    have e : pre ++ [v] ++ vs = pre ++ v :: vs := by simp
    rw [e] at h2
    exact h2
theorem but_sets (b : Nat) : ∀ (cs : List Value) (w : World) (i : Nat), But w (w.setCells b i cs) b b
  | [], w, _ => But.refl w b b
  | v :: cs, w, i => (But.setAt w b i v).trans (but_sets b cs _ (i + 1))
theorem wl_wstore (T : TypeId) (x y : Operand) (ho : o.op = .store T x y) (hn : o.dst = none) (hw : Region.wanted o (yielded ops a.tmps) = true) (b : Nat) (cs0 cs : List Value) (hb : Whole T w b cs0) (hl : cs0.length = cs.length)
    (hx : a.eval x = .pointer (some ⟨b, 0, none⟩)) (hy : a.eval y = .agg cs.toArray) (hi : (P.info? T).map (·.size) = some cs.length) (h1 : ∀ v ∈ cs, v.oneCell' = true)
    (h : ∀ Z, Whole T Z b cs → But w Z b b → wpList P ops Q rest a Z) : wpList P ops Q (o :: rest) a w := by
  have h := fun Z h1 h2 => (show wpList P ops Q rest (a.put o.dst undef) Z from by rw [hn]; exact h Z h1 h2)
  refine wl_sstore T x y ho hw b 0 cs hx hy (by rw [← hl]; exact hb.there) hi h1 (h _ ?_ (but_sets b cs w 0))
  have := heap_set_row b T cs [] cs0 w hb hl
  exact this
end
theorem But.block2 {w w' : World} {p q : Nat} (h : But w w' p q) {b : Nat} (hb : b < w.heap.size) (h1 : b ≠ p) (h2 : b ≠ q) : w'.heap[b]? = w.heap[b]? := h.block b hb h1 h2
theorem results_exp {fn : Func} {p : Tmp} (h : fn.results = #[.cell p 30]) (tmps : Array Value) (w : World) (g : Nat) (cs : List Value) (hl : cs.length = 10)
    (hp : tmps.getD p undef = .pointer (some ⟨g, 0, none⟩)) (hm : Whole 30 w g cs) : (results fn tmps).run Tryz.prog w = .ok (.agg ⟨cs⟩) w := by
  have hp' : tmps[p]?.getD undef = .pointer (some ⟨g, 0, none⟩) := by simpa using hp
  have hl := run_loadVar_mid (P := Tryz.prog) w g 0 30 cs _ hm.range Tryz.underlying30 rfl (by rw [hl]; kernel_rfl)
  simp [results, h, hp', asAddr, hl]
def zV : VT := .mk 0 0 0 ⟨#[]⟩ [] []
def zVc : List Value := [.int .i64 0, .int .i64 0, .float .f64 0, .string ⟨#[]⟩, .slice none 0 0, .slice none 0 0]
def zEc : List Value := .int .i64 0 :: .string ⟨#[]⟩ :: (zVc ++ [.slice none 0 0, .slice none 0 0])
def twoC (k : Int) (g : Nat) : List Value := .int .i64 k :: .string ⟨#[]⟩ :: (zVc ++ [.slice none 0 0, .slice (some ⟨g, 0, none⟩) 2 2])
def twoE (k : Int) (x y : ET) : ET := .mk k ⟨#[]⟩ zV [] [x, y]
theorem info_exp : (Tryz.prog.info? 30).map (fun i => (i.zero, i.size, i.bytes)) = some (some (.agg zEc.toArray), 10, 160) := by kernel_rfl
set_option maxHeartbeats 2000000 in
set_option maxRecDepth 100000 in
theorem two_raw (k : Int) (ca cb : List Value) (ha : ca.length = 10) (hb : cb.length = 10) (h1 : ∀ v ∈ ca, v.oneCell' = true) (h2 : ∀ v ∈ cb, v.oneCell' = true) (w : World) :
    Calls Tryz.prog 132 #[.int .i64 k, .agg ⟨ca⟩, .agg ⟨cb⟩] w fun e w' => ∃ g, e = .returned (.agg ⟨twoC k g⟩) ∧ w.heap.size ≤ g ∧ Whole 30 w' g (ca ++ cb) ∧ Below w.heap.size w w' := by
  obtain ⟨i0, hi, hz0, hz1, hz2⟩ := info_parts info_exp
  go_enter Tryz.func132, Tryz.ntmps132
  go_upto_region 1 with (fail)
  have HA := Lib.hid ((Whole.new w ca 30).keep (w' := ((w.alloc (.cells ⟨ca⟩ 30)).alloc (.cells ⟨cb⟩ 30)).alloc (.cells zEc.toArray 30)) (by rw [Lib.alloc_old _ _ _ (by simp; omega), Lib.alloc_old _ _ _ (by simp)]))
  have HB := Lib.hid ((Whole.new (w.alloc (.cells ⟨ca⟩ 30)) cb 30).keep (w' := ((w.alloc (.cells ⟨ca⟩ 30)).alloc (.cells ⟨cb⟩ 30)).alloc (.cells zEc.toArray 30)) (by rw [Lib.alloc_old _ _ _ (by simp)]))
  have HC := Lib.hid (Whole.new ((w.alloc (.cells ⟨ca⟩ 30)).alloc (.cells ⟨cb⟩ 30)) zEc 30)
  have HW : Hid (Below w.heap.size w (((w.alloc (.cells ⟨ca⟩ 30)).alloc (.cells ⟨cb⟩ 30)).alloc (.cells zEc.toArray 30))) := Lib.hid ((((Below.refl _ w).alloc (Nat.le_refl _) _).alloc (by simp) _).alloc (by simp; omega) _)
  have HS : Hid ((((w.alloc (.cells ⟨ca⟩ 30)).alloc (.cells ⟨cb⟩ 30)).alloc (.cells zEc.toArray 30)).heap.size = w.heap.size + 3) := Lib.hid (by simp)
  have e1 : (w.alloc (.cells ⟨ca⟩ 30)).heap.size = w.heap.size + 1 := by simp
  have e2 : ((w.alloc (.cells ⟨ca⟩ 30)).alloc (.cells ⟨cb⟩ 30)).heap.size = w.heap.size + 1 + 1 := by simp
  rw [e1] at HB
  rw [e2] at HC
  have hz : (#[Value.int IntKind.i64 0, Value.string { data := #[] }, Value.int IntKind.i64 0, Value.int IntKind.i64 0, Value.float FloatKind.f64 0, Value.string { data := #[] }, Value.slice none 0 0, Value.slice none 0 0, Value.slice none 0 0, Value.slice none 0 0] : Array Value) = zEc.toArray := rfl
  rw [hz]
  clear hz e1 e2
  generalize ((w.alloc (.cells ⟨ca⟩ 30)).alloc (.cells ⟨cb⟩ 30)).alloc (.cells zEc.toArray 30) = W at *
  obtain ⟨p, hp⟩ : ∃ p, w.heap.size = p := ⟨_, rfl⟩
  rw [hp] at HA HB HC HS
  rw [hp]
  have HP := Lib.hid hp
  clear hp
  have HLA := Lib.hid ha
  have HLB := Lib.hid hb
  have HO1 := Lib.hid h1
  have HO2 := Lib.hid h2
  clear ha hb h1 h2
  have HG := Lib.hid (Whole.new W (ca ++ cb) 30)
  have HC2 := Lib.hid (HC.out.keep (w' := W.alloc (.cells ⟨ca ++ cb⟩ 30)) (Lib.alloc_old _ _ _ HC.out.lt))
  have HW2 : Hid (Below w.heap.size w (W.alloc (.cells ⟨ca ++ cb⟩ 30))) := Lib.hid (HW.out.alloc HW.out.size _)
  have H2C : Hid (∀ g, (twoC k g).length = 10 ∧ ∀ v ∈ twoC k g, v.oneCell' = true) := Lib.hid fun g => ⟨rfl, by intro v hv; simp only [twoC, zVc, List.mem_cons, List.mem_append, List.not_mem_nil, or_false] at hv; rcases hv with rfl | rfl | (rfl | rfl | rfl | rfl | rfl | rfl) | rfl | rfl <;> rfl⟩
  go_wp2_with (first
    | ((with_reducible refine wl_sload 30 _ rfl ?hwa p 0 ca _ rfl HA.out.range Tryz.underlying30 rfl ?hia ?_); (case hwa => first | exact wanted_none rfl | exact wanted_if rfl rfl rfl rfl); (case hia => rw [HLA.out]; kernel_rfl))
    | ((with_reducible refine wl_sload 30 _ rfl ?hwb (p + 1) 0 cb _ rfl HB.out.range Tryz.underlying30 rfl ?hib ?_); (case hwb => first | exact wanted_none rfl | exact wanted_if rfl rfl rfl rfl); (case hib => rw [HLB.out]; kernel_rfl))
    | ((with_reducible refine wl_build2 _ _ _ rfl ?hwc 30 i0 _ ca cb rfl rfl Tryz.underlying28 hi hz0 ?hs1 ?hs2 ?hs3 ?hs4 ?_); (case hwc => first | exact wanted_none rfl | exact wanted_if rfl rfl rfl rfl); (case hs1 => rw [hz1, HLA.out]); (case hs2 => rw [HLA.out, HLB.out]); (case hs3 => rw [HLA.out]; decide); (case hs4 => rw [HLA.out]; decide))
    | ((with_reducible refine wl_wstore 30 _ _ rfl rfl ?hwd (p + 1 + 1) zEc (twoC k W.heap.size) HC2.out ?hs5 ?hs6 ?hs7 ?hs8 ?hs9 ?_); (case hwd => first | exact wanted_none rfl | exact wanted_if rfl rfl rfl rfl); (case hs5 => rfl); (case hs6 => rfl); (case hs7 => rfl); (case hs8 => rw [(H2C.out _).1]; kernel_rfl); (case hs9 => exact (H2C.out _).2); intro Z hz hb; have HZ := Lib.hid hz; have HZB := Lib.hid hb; clear hz hb))
  (try simp only [Exit.inBlock, Exit.then])
  refine bodyPost_ret (results_exp rfl _ _ (p + 1 + 1) (twoC k W.heap.size) (H2C.out _).1 rfl HZ.out) rfl ?_
  have hp := HP.out
  have hs := HS.out
  refine ⟨W.heap.size, rfl, by omega, ?_, ?_⟩
  · exact HG.out.keep (HZB.out.block _ (by simp) (by omega) (by omega))
  · exact HW2.out.trans (HZB.out.below HW2.out.size (by omega) (by omega))
end Go.Proofs.YtppmkehdhpgdcaaGreat
end
section
namespace Go.Proofs.YtppmkehdhpgdcaaGreat
open Go Go.RowKit
set_option linter.unusedVariables false
set_option linter.unusedSimpArgs false
abbrev valC (k n : Int) (f : Nat) (s : ByteArray) : List Value := [.int .i64 k, .int .i64 n, .float .f64 f, .string s, .slice none 0 0, .slice none 0 0]
def conC (k n : Int) (f : Nat) (s : ByteArray) : List Value := .int .i64 1 :: .string ⟨#[]⟩ :: (valC k n f s ++ [.slice none 0 0, .slice none 0 0])
def conE (k n : Int) (f : Nat) (s : ByteArray) : ET := .mk 1 ⟨#[]⟩ (.mk k n f s [] []) [] []
def varC (s : ByteArray) : List Value := .int .i64 2 :: .string s :: (zVc ++ [.slice none 0 0, .slice none 0 0])
def varE (s : ByteArray) : ET := .mk 2 s zV [] []
theorem con_len (k n : Int) (f : Nat) (s : ByteArray) : (conC k n f s).length = 10 := rfl
theorem con_one (k n : Int) (f : Nat) (s : ByteArray) : ∀ v ∈ conC k n f s, v.oneCell' = true := by
  intro v hv; simp only [conC, valC, List.mem_cons, List.mem_append, List.not_mem_nil, or_false] at hv; rcases hv with rfl | rfl | (rfl | rfl | rfl | rfl | rfl | rfl) | rfl | rfl <;> rfl
theorem var_one (s : ByteArray) : ∀ v ∈ varC s, v.oneCell' = true := by
  intro v hv; simp only [varC, zVc, List.mem_cons, List.mem_append, List.not_mem_nil, or_false] at hv; rcases hv with rfl | rfl | (rfl | rfl | rfl | rfl | rfl | rfl) | rfl | rfl <;> rfl
set_option maxHeartbeats 2000000 in
set_option maxRecDepth 100000 in
theorem con_raw (k n : Int) (f : Nat) (s : ByteArray) (w : World) :
    Calls Tryz.prog 168 #[.agg ⟨valC k n f s⟩] w fun e w' => e = .returned (.agg ⟨conC k n f s⟩) ∧ Below w.heap.size w w' := by
  go_enter Tryz.func168, Tryz.ntmps168
  go_upto_region 1 with (fail)
  have HA := Lib.hid ((Whole.new w (valC k n f s) 27).keep (w' := (w.alloc (.cells ⟨valC k n f s⟩ 27)).alloc (.cells zEc.toArray 30)) (by rw [Lib.alloc_old _ _ _ (by simp)]))
  have HC := Lib.hid (Whole.new (w.alloc (.cells ⟨valC k n f s⟩ 27)) zEc 30)
  have HW : Hid (Below w.heap.size w ((w.alloc (.cells ⟨valC k n f s⟩ 27)).alloc (.cells zEc.toArray 30))) := Lib.hid (((Below.refl _ w).alloc (Nat.le_refl _) _).alloc (by simp) _)
  have e1 : (w.alloc (.cells ⟨valC k n f s⟩ 27)).heap.size = w.heap.size + 1 := by simp
  rw [e1] at HC
  have hz : (#[Value.int IntKind.i64 0, Value.string { data := #[] }, Value.int IntKind.i64 0, Value.int IntKind.i64 0, Value.float FloatKind.f64 0, Value.string { data := #[] }, Value.slice none 0 0, Value.slice none 0 0, Value.slice none 0 0, Value.slice none 0 0] : Array Value) = zEc.toArray := rfl
  rw [hz]
  clear hz e1
  generalize (w.alloc (.cells ⟨valC k n f s⟩ 27)).alloc (.cells zEc.toArray 30) = W at *
  obtain ⟨p, hp⟩ : ∃ p, w.heap.size = p := ⟨_, rfl⟩
  rw [hp] at HA HC
  rw [hp]
  have HP := Lib.hid hp
  clear hp
  go_wp2_with (first
    | ((with_reducible refine wl_sload 27 _ rfl ?hwa p 0 [.int .i64 k, .int .i64 n, .float .f64 f, .string s, .slice none 0 0, .slice none 0 0] _ rfl HA.out.range Tryz.underlying27 rfl ?hia ?_); (case hwa => first | exact wanted_none rfl | exact wanted_if rfl rfl rfl rfl); (case hia => kernel_rfl))
    | ((with_reducible refine wl_wstore 30 _ _ rfl rfl ?hwd (p + 1) zEc (conC k n f s) HC.out ?hs5 ?hs6 ?hs7 ?hs8 ?hs9 ?_); (case hwd => first | exact wanted_none rfl | exact wanted_if rfl rfl rfl rfl); (case hs5 => rfl); (case hs6 => rfl); (case hs7 => rfl); (case hs8 => kernel_rfl); (case hs9 => exact con_one k n f s); intro Z hz hb; have HZ := Lib.hid hz; have HZB := Lib.hid hb; clear hz hb))
  (try simp only [Exit.inBlock, Exit.then])
  refine bodyPost_ret (results_exp rfl _ _ (p + 1) (conC k n f s) (con_len k n f s) rfl HZ.out) rfl ?_
  have hp := HP.out
  exact ⟨rfl, HW.out.trans (HZB.out.below HW.out.size (by omega) (by omega))⟩
end Go.Proofs.YtppmkehdhpgdcaaGreat
end
