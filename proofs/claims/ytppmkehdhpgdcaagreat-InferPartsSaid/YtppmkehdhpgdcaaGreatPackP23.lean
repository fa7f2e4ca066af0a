/- Parts of a proof: SmallV, ParL, Levels. -/
import Derived.Test.YtppmkehdhpgdcaaGreatPackP20
import Derived.Test.YtppmkehdhpgdcaaGreatPackP22
section
namespace Go.Proofs.YtppmkehdhpgdcaaGreat
open Go.RowKit
set_option linter.unusedVariables false
def SomeUpto (w : World) (e : Ending) (w' : World) : Prop := ∃ n : Int, 0 ≤ n ∧ n ≤ 500 ∧ e = .returned (.int .i64 n) ∧ Below w.heap.size w w'
set_option maxHeartbeats 1000000 in
theorem vdepth : ∀ (x : VT) (far : Nat) (cs : List Value) (w : World), far ≤ 40 → ValAt w w.heap.size cs x → Calls Tryz.prog 52 #[.agg ⟨cs⟩, .int .i64 far] w (SomeInt w) := by
  intro x
  induction x using VT.ind with
  | h k n f s ns its ih =>
    intro far cs w hfar hv
    obtain ⟨vn, vi, rfl, _, _, _, _, _, hil, hi⟩ := hv.inv
    obtain ⟨_, A, c, rfl, hA⟩ := hi
    have HA := Lib.hid hA
    have IH := Lib.hid ih
    unfold maxLen at hil
    clear hA hv ih
    go_enter Tryz.func52, Tryz.ntmps52
    go_upto_region 1 with (fail)
    have hb0 := box_below w (.cells ⟨[.int .i64 k, .int .i64 n, .float .f64 f, .string s, vn, .slice A its.length c]⟩ 27)
    have hz0 := box_size w (.cells ⟨[.int .i64 k, .int .i64 n, .float .f64 f, .string s, vn, .slice A its.length c]⟩ 27)
    have c5 := cell_box w ⟨[.int .i64 k, .int .i64 n, .float .f64 f, .string s, vn, .slice A its.length c]⟩ 27 5
    generalize w.alloc (.cells ⟨[.int .i64 k, .int .i64 n, .float .f64 f, .string s, vn, .slice A its.length c]⟩ 27) = W at *
    have HB := Lib.hid hb0
    have C5 := Lib.hid c5
    have HSZ := Lib.hid hz0
    clear hb0 c5 hz0
    go_wp2
    go_loopg [5, 6] its.length (fun g m i wr => ∃ (j : Nat) (x : Int), j + g = its.length ∧ i = .int .i64 j ∧ m = .int .i64 x ∧ Below W.heap.size W wr)
    case atStart => exact ⟨0, 0, by omega, rfl, rfl, Below.refl _ _⟩
    case round =>
      obtain ⟨j, x, hj, rfl, rfl, hb⟩ := hrel
      have HB1 := Lib.hid hb
      have d5 := (hb.cell (p := ⟨w.heap.size, 5, none⟩) HSZ.out).trans C5.out
      clear hb
      simp only [List.getElem?_toArray, List.getElem?_cons_succ, List.getElem?_cons_zero] at d5
      cases gk with
      | zero =>
        have hge : ¬ ((j : Int) < (its.length : Int)) := by omega
        go_wp2
        go_ret
        exact ⟨_, rfl, HB.out.trans (HB1.out.mono HB.out.size)⟩
      | succ g =>
        have hlt : (j : Int) < (its.length : Int) := by omega
        by_cases h0 : far = 0
        · subst h0
          go_wp2
          go_ret
          exact ⟨_, rfl, HB.out.trans (HB1.out.mono HB.out.size)⟩
        · have hpos : (0 : Int) < (far : Int) := by omega
          have hz2 : w.heap.size ≤ wr.heap.size := Nat.le_trans HB.out.size HB1.out.size
          obtain ⟨y, hy⟩ : ∃ y, its[j]? = some y := ⟨_, List.getElem?_eq_getElem (by omega)⟩
          obtain ⟨b, o, rfl, hbb, hc⟩ := HA.out (by omega)
          obtain ⟨cs, hcl, hr, hR⟩ := hc j y hy
          have hB2 := HB.out.trans (HB1.out.mono HB.out.size)
          have HR := Lib.hid (rangeAt_below hr hB2 hbb)
          have HC := Lib.hid (IH.out y (List.mem_of_getElem? hy) (far - 1) cs wr (by omega) ((hR.under hB2).more hB2.size))
          have HCL := Lib.hid hcl
          have hf1 : ((far - 1 : Nat) : Int) = (far : Int) - 1 := by omega
          clear hc hr hR hB2 hy hcl h0
          rw [hf1] at HC
          clear hf1
          go_wp2_with (first | (with_reducible refine wl_sload 27 _ rfl ?hw b (o + j * 6) cs _ rfl HR.out Tryz.underlying27 rfl ?hi ?_; (case hw => first | exact wanted_none rfl | exact wanted_if rfl rfl rfl rfl); (case hi => rw [HCL.out]; kernel_rfl)) | (go_at_call 52; refine HC.out.mono ?_; rintro e w' ⟨z, rfl, hb⟩; have HB2 := Lib.hid hb; clear hb))
          all_goals
            go_roundg g
            case measure => omega
            case rel => exact ⟨j + 1, _, by omega, by go_num, rfl, HB1.out.trans (HB2.out.mono HB1.out.size)⟩
set_option maxHeartbeats 1000000 in
theorem vcount : ∀ (x : VT) (m : Int) (cs : List Value) (w : World), 0 ≤ m → m < 500 → ValAt w w.heap.size cs x → Calls Tryz.prog 77 #[.agg ⟨cs⟩, .int .i64 m] w (SomeUpto w) := by
  intro x
  induction x using VT.ind with
  | h k n f s ns its ih =>
    intro m cs w hm0 hm1 hv
    obtain ⟨vn, vi, rfl, _, _, _, _, _, hil, hi⟩ := hv.inv
    obtain ⟨_, A, c, rfl, hA⟩ := hi
    have HA := Lib.hid hA
    have IH := Lib.hid ih
    unfold maxLen at hil
    clear hA hv ih
    go_enter Tryz.func77, Tryz.ntmps77
    go_upto_region 1 with (fail)
    have hb0 := box_below w (.cells ⟨[.int .i64 k, .int .i64 n, .float .f64 f, .string s, vn, .slice A its.length c]⟩ 27)
    have hz0 := box_size w (.cells ⟨[.int .i64 k, .int .i64 n, .float .f64 f, .string s, vn, .slice A its.length c]⟩ 27)
    have c5 := cell_box w ⟨[.int .i64 k, .int .i64 n, .float .f64 f, .string s, vn, .slice A its.length c]⟩ 27 5
    generalize w.alloc (.cells ⟨[.int .i64 k, .int .i64 n, .float .f64 f, .string s, vn, .slice A its.length c]⟩ 27) = W at *
    have HB := Lib.hid hb0
    have C5 := Lib.hid c5
    have HSZ := Lib.hid hz0
    clear hb0 c5 hz0
    go_wp2
    go_loopg [1, 5] its.length (fun g u i wr => ∃ (j : Nat) (x : Int), j + g = its.length ∧ i = .int .i64 j ∧ u = .int .i64 x ∧ 0 ≤ x ∧ x ≤ 500 ∧ Below W.heap.size W wr)
    case atStart => exact ⟨0, m + 1, by omega, rfl, rfl, by omega, by omega, Below.refl _ _⟩
    case round =>
      obtain ⟨j, x, hj, rfl, rfl, hx0, hx1, hb⟩ := hrel
      have HB1 := Lib.hid hb
      have d5 := (hb.cell (p := ⟨w.heap.size, 5, none⟩) HSZ.out).trans C5.out
      clear hb
      simp only [List.getElem?_toArray, List.getElem?_cons_succ, List.getElem?_cons_zero] at d5
      cases gk with
      | zero =>
        have hge : ¬ ((j : Int) < (its.length : Int)) := by omega
        go_wp2
        all_goals
          go_ret
          exact ⟨_, by omega, by omega, rfl, HB.out.trans (HB1.out.mono HB.out.size)⟩
      | succ g =>
        have hlt : (j : Int) < (its.length : Int) := by omega
        by_cases h0 : x < 500
        · have hz2 : w.heap.size ≤ wr.heap.size := Nat.le_trans HB.out.size HB1.out.size
          obtain ⟨y, hy⟩ : ∃ y, its[j]? = some y := ⟨_, List.getElem?_eq_getElem (by omega)⟩
          obtain ⟨b, o, rfl, hbb, hc⟩ := HA.out (by omega)
          obtain ⟨cs, hcl, hr, hR⟩ := hc j y hy
          have hB2 := HB.out.trans (HB1.out.mono HB.out.size)
          have HR := Lib.hid (rangeAt_below hr hB2 hbb)
          have HC := Lib.hid (IH.out y (List.mem_of_getElem? hy) x cs wr hx0 h0 ((hR.under hB2).more hB2.size))
          have HCL := Lib.hid hcl
          clear hc hr hR hB2 hy hcl
          go_wp2_with (first | (with_reducible refine wl_sload 27 _ rfl ?hw b (o + j * 6) cs _ rfl HR.out Tryz.underlying27 rfl ?hi ?_; (case hw => first | exact wanted_none rfl | exact wanted_if rfl rfl rfl rfl); (case hi => rw [HCL.out]; kernel_rfl)) | (go_at_call 77; refine HC.out.mono ?_; rintro e w' ⟨z, hz0, hz1, rfl, hb⟩; have HB2 := Lib.hid hb; clear hb))
          go_roundg g
          case measure => omega
          case rel => exact ⟨j + 1, _, by omega, by go_num, rfl, hz0, hz1, HB1.out.trans (HB2.out.mono HB1.out.size)⟩
        · go_wp2
          all_goals
            go_ret
            exact ⟨_, by omega, by omega, rfl, HB.out.trans (HB1.out.mono HB.out.size)⟩
theorem vlen {w : World} {B : Nat} {cs : List Value} {x : VT} (h : ValAt w B cs x) : cs.length = 6 := by
  cases h; rfl
set_option maxHeartbeats 1000000 in
theorem vparts (x : VT) (cs : List Value) (w : World) (hv : ValAt w w.heap.size cs x) : Calls Tryz.prog 53 #[.agg ⟨cs⟩] w (SomeUpto w) := by
  have HCL := Lib.hid (vlen hv)
  have HV := Lib.hid hv
  clear hv
  go_enter Tryz.func53, Tryz.ntmps53
  go_upto_region 1 with (fail)
  have HB := Lib.hid (box_below w (.cells ⟨cs⟩ 27))
  have HR := Lib.hid (range_box w cs 27)
  generalize w.alloc (.cells ⟨cs⟩ 27) = W at *
  have HC := Lib.hid (vcount x 0 cs W (by omega) (by omega) ((HV.out.under HB.out).more HB.out.size))
  go_wp2_with (first | (with_reducible refine wl_sload 27 _ rfl ?hw w.heap.size 0 cs _ rfl HR.out Tryz.underlying27 rfl ?hi ?_; (case hw => first | exact wanted_none rfl | exact wanted_if rfl rfl rfl rfl); (case hi => rw [HCL.out]; kernel_rfl)) | (go_at_call 77; refine HC.out.mono ?_; rintro e w' ⟨z, hz0, hz1, rfl, hb⟩; have HB2 := Lib.hid hb; clear hb))
  go_ret
  exact ⟨z, hz0, hz1, rfl, HB.out.trans (HB2.out.mono HB.out.size)⟩
set_option maxHeartbeats 1000000 in
theorem vsmall (x : VT) (cs : List Value) (w : World) (hv : ValAt w w.heap.size cs x) : Calls Tryz.prog 26 #[.agg ⟨cs⟩] w (SomeBool w) := by
  have HCL := Lib.hid (vlen hv)
  have HV := Lib.hid hv
  clear hv
  go_enter Tryz.func26, Tryz.ntmps26
  go_upto_region 1 with (fail)
  have HB := Lib.hid (box_below w (.cells ⟨cs⟩ 27))
  have HR := Lib.hid (range_box w cs 27)
  have HSZ := Lib.hid (box_size w (.cells ⟨cs⟩ 27))
  generalize w.alloc (.cells ⟨cs⟩ 27) = W at *
  have HC := Lib.hid (vdepth x 40 cs W (by omega) ((HV.out.under HB.out).more HB.out.size))
  go_wp2_with (first | (with_reducible refine wl_sload 27 _ rfl ?hw w.heap.size 0 cs _ rfl HR.out Tryz.underlying27 rfl ?hi ?_; (case hw => first | exact wanted_none rfl | exact wanted_if rfl rfl rfl rfl); (case hi => rw [HCL.out]; kernel_rfl)) | (go_at_call 52; fail))
  refine HC.out.mono ?_
  rintro e w2 ⟨z, rfl, hb⟩
  have HB2 := Lib.hid (HB.out.trans (hb.mono HB.out.size))
  have HR2 := Lib.hid (rangeAt_below HR.out hb HSZ.out)
  have HC2 := Lib.hid (vparts x cs w2 ((HV.out.under HB2.out).more HB2.out.size))
  clear hb HC
  by_cases hz : z ≤ 30
  · go_wp2_with (first | (with_reducible refine wl_sload 27 _ rfl ?hw w.heap.size 0 cs _ rfl HR2.out Tryz.underlying27 rfl ?hi ?_; (case hw => first | exact wanted_none rfl | exact wanted_if rfl rfl rfl rfl); (case hi => rw [HCL.out]; kernel_rfl)) | (go_at_call 53; refine HC2.out.mono ?_; rintro e w' ⟨y, hy0, hy1, rfl, hb⟩; have HB3 := Lib.hid hb; clear hb))
    all_goals
      go_ret
      exact ⟨_, rfl, HB2.out.trans (HB3.out.mono HB2.out.size)⟩
  · go_wp2
    all_goals
      go_ret
      exact ⟨_, rfl, HB2.out⟩
end Go.Proofs.YtppmkehdhpgdcaaGreat
end
section
namespace Go.Proofs.YtppmkehdhpgdcaaGreat
open Go Go.RowKit
set_option linter.unusedVariables false
set_option linter.unusedSimpArgs false
def KeptP (p : Nat → Prop) (w : World) (cs : List Value) (t : ET) : Prop := ExpAt (only w p) w.heap.size cs t
theorem KeptP.exp {p : Nat → Prop} {w : World} {cs : List Value} {t : ET} (h : KeptP p w cs t) : ExpAt w w.heap.size cs t := ExpAt.cells h fun a v hv => (only_cell.1 hv).2
theorem KeptP.to {p q : Nat → Prop} {w w' : World} {cs : List Value} {t : ET} (h : KeptP p w cs t) (hb : ∀ b, p b → b < w.heap.size → q b ∧ w'.heap[b]? = w.heap[b]?) (hs : w.heap.size ≤ w'.heap.size) : KeptP q w' cs t :=
  (ExpAt.cells h (only_to hb)).more hs
theorem KeptP.one {p : Nat → Prop} {w : World} {cs : List Value} {t : ET} (h : KeptP p w cs t) : ∀ v ∈ cs, v.oneCell' = true := ExpAt.one h
theorem KeptP.len {p : Nat → Prop} {w : World} {cs : List Value} {t : ET} (h : KeptP p w cs t) : cs.length = 10 := by
  cases t with
  | mk k s v ns its =>
    obtain ⟨c0, c1, c2, c3, c4, c5, vn, vi, rfl, _⟩ := ExpAt.inv h
    rfl
theorem wf_int (n : Int) (h : (Lit.int .i64 n).wf = true) : wfI n := h
theorem val_leaf (w : World) (B : Nat) (k n : Int) (f : Nat) (s : ByteArray) (hk : wfI k) (hn : wfI n) (hf : (Lit.float .f64 f).wf = true) (hs : s.size ≤ maxLen) : ValAt w B (valC k n f s) (.mk k n f s [] []) :=
  ValAt.of hk hn hf hs (SlAt.nil w B 1 _) (Nat.zero_le _) (SlAt.nil w B 6 _)
theorem con_kept (p : Nat → Prop) (w : World) (k n : Int) (f : Nat) (s : ByteArray) (hk : wfI k) (hn : wfI n) (hf : (Lit.float .f64 f).wf = true) (hs : s.size ≤ maxLen) : KeptP p w (conC k n f s) (conE k n f s) :=
  ExpAt.of (wf_int 1 (by decide +kernel)) (Nat.zero_le _) (val_leaf _ _ k n f s hk hn hf hs) (SlAt.nil _ _ 1 _) (Nat.zero_le _) (SlAt.nil _ _ 10 _)
theorem var_kept (p : Nat → Prop) (w : World) (s : ByteArray) (hs : s.size ≤ maxLen) : KeptP p w (varC s) (varE s) :=
  ExpAt.of (wf_int 2 (by decide +kernel)) hs (val_leaf _ _ 0 0 0 ⟨#[]⟩ (wf_int 0 (by decide +kernel)) (wf_int 0 (by decide +kernel)) (by decide +kernel) (Nat.zero_le _)) (SlAt.nil _ _ 1 _) (Nat.zero_le _) (SlAt.nil _ _ 10 _)
theorem two_kept {p : Nat → Prop} {w : World} {k : Int} {g : Nat} {ca cb : List Value} {x y : ET} (hk : wfI k) (hg : Whole 30 w g (ca ++ cb)) (hp : p g) (ha : KeptP p w ca x) (hb : KeptP p w cb y) : KeptP p w (twoC k g) (twoE k x y) := by
  have la := ha.len
  have lb := hb.len
  refine ExpAt.of hk (Nat.zero_le _) (val_leaf _ _ 0 0 0 ⟨#[]⟩ (wf_int 0 (by decide +kernel)) (wf_int 0 (by decide +kernel)) (by decide +kernel) (Nat.zero_le _)) (SlAt.nil _ _ 1 _) (by show 2 ≤ _; unfold maxLen; decide) ?_
  refine ⟨by show 2 ≤ _; decide, _, _, rfl, fun _ => ⟨g, 0, rfl, hg.lt, fun i z hz => ?_⟩⟩
  have hr : ∀ (o : Nat) (cs : List Value), (∀ j v, cs[j]? = some v → (ca ++ cb)[o + j]? = some v) → (only w p).rangeAt g o cs := by
    intro o cs h j v hv
    exact only_cell.2 ⟨hp, hg.cells (o + j) (h j v hv)⟩
  match i, hz with
  | 0, hz =>
    obtain rfl : x = z := by simpa using hz
    exact ⟨ca, la, hr _ _ fun j v hv => by rw [show 0 + 0 * 10 + j = j by omega, List.getElem?_append_left (List.getElem?_eq_some_iff.1 hv).1]; exact hv, ha⟩
  | 1, hz =>
    obtain rfl : y = z := by simpa using hz
    exact ⟨cb, lb, hr _ _ fun j v hv => by rw [show 0 + 1 * 10 + j = ca.length + j by omega, List.getElem?_append_right (by omega), show ca.length + j - ca.length = j by omega]; exact hv, hb⟩
  | i + 2, hz => simp at hz
section
variable (pb tb c : Nat) (E : Int) (toks : List Tok)
def PCon (f : FuncId) (i j h : Nat) (t : ET) : Prop := ∀ (w : World) (d : Int), PSt pb tb c E toks w i d → 0 ≤ d → d + h ≤ 100 →
  Calls Tryz.prog f #[.pointer (some ⟨pb, 0, none⟩)] w fun e w' => ∃ cs, e = .returned (.agg ⟨cs⟩) ∧ KeptP (fun b => w.heap.size ≤ b) w' cs t ∧ PSt pb tb c E toks w' j d ∧ But w w' pb pb
def tokOk (t : Tok) : Prop := wfI t.n ∧ (Lit.float .f64 t.f).wf = true ∧ t.s.size ≤ maxLen
variable {pb tb c E toks}
theorem pc_int {i : Nat} (t : Tok) (ht : toks[i]? = some t) (hk : t.kind = 2) (ho : tokOk t) : PCon pb tb c E toks 164 i (i + 1) 0 (conE 2 t.n 0 ⟨#[]⟩) := fun w d h _ _ =>
  (prim_int t ht hk h).mono fun e w' ⟨he, h1, h2⟩ => ⟨_, he, con_kept _ _ 2 t.n 0 ⟨#[]⟩ (wf_int 2 (by decide +kernel)) ho.1 (by decide +kernel) (Nat.zero_le _), h1, h2⟩
theorem pc_name {i : Nat} (t : Tok) (ht : toks[i]? = some t) (hk : t.kind = 5) (hp : plainB t.s = true) (ho : tokOk t) : PCon pb tb c E toks 164 i (i + 1) 0 (varE t.s) := fun w d h _ _ =>
  (prim_name t ht hk hp h).mono fun e w' ⟨he, h1, h2⟩ => ⟨_, he, var_kept _ _ t.s ho.2.2, h1, h2⟩
inductive PL (f : FuncId) (signs : List (ByteArray × Int)) (h : Nat) (pb tb c : Nat) (E : Int) (toks : List Tok) : ET → Nat → ET → Nat → Prop
  | done (x : ET) (i : Nat) : (∀ s ∈ signs, isB toks i s.1 = false) → PL f signs h pb tb c E toks x i x i
  | step (x : ET) (i : Nat) (y : ET) (j : Nat) (z : ET) (k : Nat) (s : ByteArray × Int) : s ∈ signs → isB toks i s.1 = true → PCon pb tb c E toks f (i + 1) j h y → i < j → PL f signs h pb tb c E toks (twoE s.2 x y) j z k → PL f signs h pb tb c E toks x i z k
theorem isB_other {i : Nat} {s s' : ByteArray} (h : isB toks i s = true) (hne : (s.toList == s'.toList) = false) : isB toks i s' = false := by
  unfold isB at *
  cases ht : toks[i]? with
  | none => rfl
  | some t =>
    rw [ht] at h
    simp only [Bool.and_eq_true, decide_eq_true_eq, beq_iff_eq] at h
    show (decide (t.kind = 6) && (t.s.toList == s'.toList)) = false
    rw [h.2, hne, Bool.and_false]
end
end Go.Proofs.YtppmkehdhpgdcaaGreat
end
section
namespace Go.Proofs.YtppmkehdhpgdcaaGreat
open Go Go.RowKit
set_option linter.unusedVariables false
set_option linter.unusedSimpArgs false
section
variable {P : Program} {ops : Array Oper} {rest : List Oper} {o : Oper} {a : Act} {w : World} {Q : Exit → Act → World → Prop}
theorem wl_wbox (T : TypeId) (x y : Operand) (ho : o.op = .store T x y) (hn : o.dst = none) (hw : Region.wanted o (yielded ops a.tmps) = true) (w0 : World) (z : Array Value) (cs : List Value) (hwld : w = w0.alloc (.cells z T)) (hz : z.size = cs.length)
    (hx : a.eval x = .pointer (some ⟨w0.heap.size, 0, none⟩)) (hy : a.eval y = .agg cs.toArray) (hi : (P.info? T).map (·.size) = some cs.length) (h1 : ∀ v ∈ cs, v.oneCell' = true)
    (h : ∀ Z, Whole T Z w0.heap.size cs → Below w0.heap.size w0 Z → w0.heap.size < Z.heap.size → wpList P ops Q rest a Z) : wpList P ops Q (o :: rest) a w := by
  subst hwld
  refine wl_wstore T x y ho hn hw w0.heap.size z.toList cs (by simpa using Whole.new w0 z.toList T) (by simpa using hz) hx hy hi h1 fun Z hZ hb => h Z hZ ((box_below w0 _).trans (hb.below (by simp) (Nat.le_refl _) (Nat.le_refl _))) hZ.lt
end
section
variable {pb tb c : Nat} {E : Int} {toks : List Tok}
set_option maxHeartbeats 8000000 in
set_option maxRecDepth 100000 in
theorem pc_sum {i j k h : Nat} {x z : ET} (hsub : PCon pb tb c E toks 160 i j h x) (hl : PL 160 [(⟨#[43]⟩, 5), (⟨#[45]⟩, 6)] h pb tb c E toks x j z k) : PCon pb tb c E toks 159 i k h z := by
  intro w d h h0 hd
  have HSUB := Lib.hid hsub
  have HPL := Lib.hid hl
  clear hsub hl
  go_enter Tryz.func159, Tryz.ntmps159
  go_upto_region 1 with (fail)
  have HR0 := Lib.hid (Whole.new w zEc 30)
  have HB0 := Lib.hid (box_below w (.cells zEc.toArray 30))
  have hz : (#[Value.int IntKind.i64 0, Value.string { data := #[] }, Value.int IntKind.i64 0, Value.int IntKind.i64 0, Value.float FloatKind.f64 0, Value.string { data := #[] }, Value.slice none 0 0, Value.slice none 0 0, Value.slice none 0 0, Value.slice none 0 0] : Array Value) = zEc.toArray := rfl
  rw [hz]
  clear hz
  have HRW : Hid (w.heap.size < (w.alloc (.cells zEc.toArray 30)).heap.size) := Lib.hid (by simp)
  generalize w.alloc (.cells zEc.toArray 30) = W at *
  obtain ⟨p, hp⟩ : ∃ p, w.heap.size = p := ⟨_, rfl⟩
  rw [hp] at HR0 HRW
  rw [hp]
  have HP := Lib.hid hp
  have HS0 := Lib.hid (h.keep HB0.out)
  have HPN : Hid (p ≠ pb ∧ p ≠ tb) := Lib.hid ⟨by have := h.lt; omega, by have := h.lt; omega⟩
  have H := Lib.hid h
  have HD := Lib.hid (And.intro h0 hd)
  clear hp h h0 hd
  go_upto_region 2 with (first
    | (go_at_call 160; refine (HSUB.out W d HS0.out HD.out.1 HD.out.2).mono ?_; rintro e w1 ⟨cs0, rfl, hk, h1, h2⟩; have hl := hk.len; have HL0 := Lib.hid hl; have HK0 := Lib.hid hk; have HS1 := Lib.hid h1; have HB1 := Lib.hid h2; clear hl hk h1 h2)
    | ((with_reducible refine wl_wbox 30 _ _ rfl rfl ?hwe w1 ?zne cs0 ?hz1 ?hz2 ?hz3 ?hz4 ?hz5 ?hz6 ?_); (case hwe => first | exact wanted_none rfl | exact wanted_if rfl rfl rfl rfl); (case hz1 => rfl); (case hz2 => rw [HL0.out]; rfl); (case hz3 => rfl); (case hz4 => rfl); (case hz5 => rw [HL0.out]; kernel_rfl); (case hz6 => exact HK0.out.one); intro W2 hz hb hlt; have HX2 := Lib.hid hz; have HB2 := Lib.hid hb; have HLT2 := Lib.hid hlt; clear hz hb hlt))
  obtain ⟨X, hX⟩ : ∃ X, w1.heap.size = X := ⟨_, rfl⟩
  rw [hX] at HX2 HB2 HLT2
  rw [hX]
  have hXX := hX
  have HXG : Hid (p < X ∧ X ≠ pb ∧ X ≠ tb) := Lib.hid ⟨by have := HRW.out; have := HB1.out.size; omega, by have := HS1.out.lt; omega, by have := HS1.out.lt; omega⟩
  have hB12 : Below w1.heap.size w1 W2 := by rw [hX]; exact HB2.out
  have HR2 := Lib.hid ((HR0.out.keep (HB1.out.block p HRW.out HPN.out.1 HPN.out.1)).keep (hB12.block p (by rw [hX]; exact HXG.out.1)))
  have HS2 := Lib.hid (HS1.out.keep hB12)
  have HK2 : Hid (KeptP (fun b => p < b ∧ b ≠ X) W2 cs0 x) := Lib.hid (HK0.out.to (fun b h1 h2 => ⟨⟨by have := HRW.out; omega, by omega⟩, hB12.block b h2⟩) hB12.size)
  have HBW2 : Hid (But w W2 pb pb) := Lib.hid ((But.of_below HB0.out pb pb).trans (HB1.out.trans (But.of_below hB12 pb pb)))
  clear hX hXX hB12 HB1 HB2 HLT2 HK0 HS1 HS0 HR0
  go_wp2
  go_loopg [] (toks.length - j) (fun q u => ∃ (x : ET) (i : Nat) (cs : List Value), PL 160 [(⟨#[43]⟩, 5), (⟨#[45]⟩, 6)] h pb tb c E toks x i z k ∧ q = toks.length - i ∧ Whole 30 u X cs ∧ Whole 30 u p zEc ∧ KeptP (fun b => p < b ∧ b ≠ X) u cs x ∧ PSt pb tb c E toks u i d ∧ But w u pb pb)
  case atStart => exact ⟨x, j, cs0, HPL.out, rfl, HX2.out, HR2.out, HK2.out, HS2.out, HBW2.out⟩
  case round =>
    clear HX2 HR2 HK2 HS2 HBW2 HL0 HPL
    obtain ⟨x, i, cs, hpl, hq, hx, hr, hk, hs, hb⟩ := hrel
    have HX := Lib.hid hx
    have HR := Lib.hid hr
    have HK := Lib.hid hk
    have HS := Lib.hid hs
    have HB := Lib.hid hb
    have HGQ := Lib.hid hq
    clear hx hr hk hs hb hq
    cases hpl with
    | done _ _ hno =>
      have HNO := Lib.hid hno
      clear hno
      go_upto_region 4 with (go_at_call 96; refine (take_no HS.out (HNO.out (⟨#[43]⟩, 5) (by simp))).mono ?_; rintro e v0 ⟨rfl, h1, h2⟩; have HT0 := Lib.hid h1; have HTB0 := Lib.hid h2; clear h1 h2)
      go_upto_region 6 with (go_at_call 96; refine (take_no HT0.out (HNO.out (⟨#[45]⟩, 6) (by simp))).mono ?_; rintro e v1 ⟨rfl, h1, h2⟩; have HT1 := Lib.hid h1; have HTB1 := Lib.hid h2; clear h1 h2)
      have HTB := Lib.hid (HTB0.out.trans HTB1.out)
      have HXv := Lib.hid (HX.out.keep (HTB.out.block X HX.out.lt HXG.out.2.1 HXG.out.2.1))
      have HRv := Lib.hid (HR.out.keep (HTB.out.block p HR.out.lt HPN.out.1 HPN.out.1))
      have HKv : Hid (KeptP (fun b => p < b ∧ b ≠ X) v1 cs z) := Lib.hid (HK.out.to (fun b h1 h2 => ⟨h1, HTB.out.block b h2 (by have := h1.1; have := HPN.out; have := HP.out; have := H.out.lt; omega) (by have := h1.1; have := HPN.out; have := HP.out; have := H.out.lt; omega)⟩) HTB.out.size)
      have HBv := Lib.hid (HB.out.trans HTB.out)
      clear HX HR HK
      have HX := HXv
      have HK := HKv
      have HXR := Lib.hid (HX.out.range)
      have HLX := Lib.hid (HK.out.len)
      go_wp2_with (first
        | ((with_reducible refine wl_sload 30 _ rfl ?hwld X 0 cs _ rfl HXR.out Tryz.underlying30 rfl ?hild ?_); (case hwld => first | exact wanted_none rfl | exact wanted_if rfl rfl rfl rfl); (case hild => rw [HLX.out]; kernel_rfl))
        | ((with_reducible refine wl_wstore 30 _ _ rfl rfl ?hwfd p zEc cs HRv.out ?hs1d ?hs2d ?hs3d ?hs4d ?hs5d ?_); (case hwfd => first | exact wanted_none rfl | exact wanted_if rfl rfl rfl rfl); (case hs1d => rw [HLX.out]; rfl); (case hs2d => rfl); (case hs3d => rfl); (case hs4d => rw [HLX.out]; kernel_rfl); (case hs5d => exact HK.out.one); intro Z hz hb; have HZ := Lib.hid hz; have HZB := Lib.hid hb; clear hz hb))
      (try simp only [Exit.inBlock, Exit.then])
      refine bodyPost_ret (results_exp rfl _ _ p cs HLX.out rfl HZ.out) rfl ?_
      have hp := HP.out
      refine ⟨cs, rfl, ?_, HT1.out.under p HPN.out.1 HPN.out.2 HZB.out, but_last HBv.out HZB.out (by omega)⟩
      exact KeptP.to (q := fun b => w.heap.size ≤ b) HK.out (fun b h1 h2 => ⟨by have := h1.1; show w.heap.size ≤ b; omega, HZB.out.block b h2 (by have := h1.1; omega) (by have := h1.1; omega)⟩) HZB.out.size
    | step _ _ y j z _ sg hmem his hsub hlt hrest =>
      have HSUB2 := Lib.hid hsub
      have HREST := Lib.hid hrest
      have HLT := Lib.hid hlt
      have HIS := Lib.hid his
      clear hsub hrest hlt his
      simp only [List.mem_cons, List.not_mem_nil, or_false] at hmem
      rcases hmem with rfl | rfl
      · go_upto_region 3 with (go_at_call 96; refine (take_yes HS.out HIS.out).mono ?_; rintro e v0 ⟨rfl, h1, h2⟩; have HT0 := Lib.hid h1; have HTB0 := Lib.hid h2; clear h1 h2)
        have HTB := Lib.hid HTB0.out
        have HXv := Lib.hid (HX.out.keep (HTB.out.block X HX.out.lt HXG.out.2.1 HXG.out.2.1))
        have HRv := Lib.hid (HR.out.keep (HTB.out.block p HR.out.lt HPN.out.1 HPN.out.1))
        have HKv : Hid (KeptP (fun b => p < b ∧ b ≠ X) v0 cs x) := Lib.hid (HK.out.to (fun b h1 h2 => ⟨h1, HTB.out.block b h2 (by have := h1.1; have := HPN.out; have := HP.out; have := H.out.lt; omega) (by have := h1.1; have := HPN.out; have := HP.out; have := H.out.lt; omega)⟩) HTB.out.size)
        have HBv := Lib.hid (HB.out.trans HTB.out)
        have hs : Whole 30 v0.drew X cs := HXv.out
        refine wp_region_ord_tail 4 [(0, true), (1, true), (2, false), (3, false)]
          (fun z => Whole 30 z X cs) (by kernel_rfl) (by kernel_rfl) rfl (by intro c a d v w h; cases d <;> exact h) ?_
        refine ord_load (some 8) (.agg ⟨cs⟩) _ rfl rfl (by first | exact wanted_none rfl | exact wanted_if rfl rfl rfl rfl) hs (fun z hz => exec_sload 30 rfl X 0 cs _ rfl hz.range Tryz.underlying30 rfl (by rw [HK.out.len]; kernel_rfl)) ?_
        go_frame
        refine ord_move (some 9) (.pointer (some ⟨pb, 0, none⟩)) _ _ rfl rfl rfl (by first | exact wanted_none rfl | exact wanted_if rfl rfl rfl rfl) hs rfl ?_
        go_frame
        refine ord_to (some 10) 160 Tryz.func160 (by kernel_rfl) (by kernel_rfl) [.pointer (some ⟨pb, 0, none⟩)] _ _ _ rfl rfl rfl (by first | exact wanted_none rfl | exact wanted_if rfl rfl rfl rfl) rfl ?_
        refine (HSUB2.out v0.drew d (HT0.out.keep (Below.refl _ v0).drew) HD.out.1 HD.out.2).mono ?_
        rintro e w5 ⟨cb, rfl, hkb, h1, h2⟩
        have hlb := hkb.len
        have hb5 : But v0 w5 pb pb := (But.of_below (Below.refl _ v0).drew pb pb).trans h2
        have hs5 : Whole 30 w5 X cs := HXv.out.keep (hb5.block X HXv.out.lt HXG.out.2.1 HXG.out.2.1)
        refine ⟨_, rfl, hs5, ?_⟩
        go_frame
        have hka : KeptP (fun b => p < b ∧ b ≠ X) w5 cs x := HKv.out.to (fun b h1 h2 => ⟨h1, hb5.block b h2 (by have := h1.1; have := HPN.out; have := HP.out; have := H.out.lt; omega) (by have := h1.1; have := HPN.out; have := HP.out; have := H.out.lt; omega)⟩) hb5.size
        have hkb2 : KeptP (fun b => p < b ∧ b ≠ X) w5 cb y := hkb.to (fun b h1 h2 => ⟨⟨by have h3 : v0.heap.size ≤ b := h1; have := HRv.out.lt; omega, by have h3 : v0.heap.size ≤ b := h1; have := HXv.out.lt; omega⟩, rfl⟩) (Nat.le_refl _)
        refine ord_to (some 11) 132 Tryz.func132 (by kernel_rfl) (by kernel_rfl) [.int .i64 5, .agg ⟨cs⟩, .agg ⟨cb⟩] _ _ _ rfl rfl rfl (by first | exact wanted_none rfl | exact wanted_if rfl rfl rfl rfl) rfl ?_
        refine (two_raw 5 cs cb hka.len hlb hka.one hkb2.one w5).mono ?_
        rintro e w6 ⟨g, rfl, hg, hwg, hb6⟩
        have hs6 : Whole 30 w6 X cs := hs5.keep (hb6.block X hs5.lt)
        refine ⟨_, rfl, hs6, ?_⟩
        go_frame
        refine ord_tail ?_
        simp only [List.drop_succ_cons, List.drop_zero]
        have hpg : p < g ∧ g ≠ X := ⟨by have := HRv.out.lt; have := hb5.size; omega, by have := hs5.lt; omega⟩
        have hkt : KeptP (fun b => p < b ∧ b ≠ X) w6 (twoC 5 g) (twoE 5 x y) := two_kept (wf_int 5 (by decide +kernel)) hwg hpg (hka.to (fun b h1 h2 => ⟨h1, hb6.block b h2⟩) hb6.size) (hkb2.to (fun b h1 h2 => ⟨h1, hb6.block b h2⟩) hb6.size)
        have HKT := Lib.hid hkt
        have HX6 := Lib.hid hs6
        have HR6 := Lib.hid ((HRv.out.keep (hb5.block p HRv.out.lt HPN.out.1 HPN.out.1)).keep (hb6.block p (by have := HRv.out.lt; have := hb5.size; omega)))
        have HS6 := Lib.hid (h1.keep hb6)
        have HB6 := Lib.hid (HBv.out.trans (hb5.trans (But.of_below hb6 pb pb)))
        have HLX := Lib.hid hka.len
        clear hs hs5 hs6 hb5 hka hkb hkb2 hlb hwg hb6 hkt hg hpg h1 h2
        go_wp2_with ((with_reducible refine wl_wstore 30 _ _ rfl rfl ?hwf0s X cs (twoC 5 g) HX6.out ?hs10s ?hs20s ?hs30s ?hs40s ?hs50s ?_); (case hwf0s => first | exact wanted_none rfl | exact wanted_if rfl rfl rfl rfl); (case hs10s => rw [HLX.out]; rfl); (case hs20s => rfl); (case hs30s => rfl); (case hs40s => rw [HKT.out.len]; kernel_rfl); (case hs50s => exact HKT.out.one); intro Z hz hb; have HZ := Lib.hid hz; have HZB := Lib.hid hb; clear hz hb)
        go_roundg (toks.length - j)
        case measure => have := HLT.out; have h2 := isB_lt HIS.out; have := HGQ.out; omega
        case rel =>
          refine ⟨_, j, _, HREST.out, rfl, HZ.out, HR6.out.keep (HZB.out.block p HR6.out.lt (by have := HXG.out.1; omega) (by have := HXG.out.1; omega)), HKT.out.to (fun b h1 h2 => ⟨h1, HZB.out.block b h2 h1.2 h1.2⟩) HZB.out.size, HS6.out.under X HXG.out.2.1 HXG.out.2.2 HZB.out, but_last HB6.out HZB.out (by have := HXG.out.1; have := HP.out; omega)⟩
      · have hno0 : isB toks i ⟨#[43]⟩ = false := isB_other HIS.out (by decide +kernel)
        have HNO0 := Lib.hid hno0
        clear hno0
        go_upto_region 4 with (go_at_call 96; refine (take_no HS.out HNO0.out).mono ?_; rintro e v0 ⟨rfl, h1, h2⟩; have HT0 := Lib.hid h1; have HTB0 := Lib.hid h2; clear h1 h2)
        go_upto_region 5 with (go_at_call 96; refine (take_yes HT0.out HIS.out).mono ?_; rintro e v1 ⟨rfl, h1, h2⟩; have HT1 := Lib.hid h1; have HTB1 := Lib.hid h2; clear h1 h2)
        have HTB := Lib.hid (HTB0.out.trans HTB1.out)
        have HXv := Lib.hid (HX.out.keep (HTB.out.block X HX.out.lt HXG.out.2.1 HXG.out.2.1))
        have HRv := Lib.hid (HR.out.keep (HTB.out.block p HR.out.lt HPN.out.1 HPN.out.1))
        have HKv : Hid (KeptP (fun b => p < b ∧ b ≠ X) v1 cs x) := Lib.hid (HK.out.to (fun b h1 h2 => ⟨h1, HTB.out.block b h2 (by have := h1.1; have := HPN.out; have := HP.out; have := H.out.lt; omega) (by have := h1.1; have := HPN.out; have := HP.out; have := H.out.lt; omega)⟩) HTB.out.size)
        have HBv := Lib.hid (HB.out.trans HTB.out)
        have hs : Whole 30 v1.drew X cs := HXv.out
        refine wp_region_ord_tail 4 [(0, true), (1, true), (2, false), (3, false)]
          (fun z => Whole 30 z X cs) (by kernel_rfl) (by kernel_rfl) rfl (by intro c a d v w h; cases d <;> exact h) ?_
        refine ord_load (some 14) (.agg ⟨cs⟩) _ rfl rfl (by first | exact wanted_none rfl | exact wanted_if rfl rfl rfl rfl) hs (fun z hz => exec_sload 30 rfl X 0 cs _ rfl hz.range Tryz.underlying30 rfl (by rw [HK.out.len]; kernel_rfl)) ?_
        go_frame
        refine ord_move (some 15) (.pointer (some ⟨pb, 0, none⟩)) _ _ rfl rfl rfl (by first | exact wanted_none rfl | exact wanted_if rfl rfl rfl rfl) hs rfl ?_
        go_frame
        refine ord_to (some 16) 160 Tryz.func160 (by kernel_rfl) (by kernel_rfl) [.pointer (some ⟨pb, 0, none⟩)] _ _ _ rfl rfl rfl (by first | exact wanted_none rfl | exact wanted_if rfl rfl rfl rfl) rfl ?_
        refine (HSUB2.out v1.drew d (HT1.out.keep (Below.refl _ v1).drew) HD.out.1 HD.out.2).mono ?_
        rintro e w5 ⟨cb, rfl, hkb, h1, h2⟩
        have hlb := hkb.len
        have hb5 : But v1 w5 pb pb := (But.of_below (Below.refl _ v1).drew pb pb).trans h2
        have hs5 : Whole 30 w5 X cs := HXv.out.keep (hb5.block X HXv.out.lt HXG.out.2.1 HXG.out.2.1)
        refine ⟨_, rfl, hs5, ?_⟩
        go_frame
        have hka : KeptP (fun b => p < b ∧ b ≠ X) w5 cs x := HKv.out.to (fun b h1 h2 => ⟨h1, hb5.block b h2 (by have := h1.1; have := HPN.out; have := HP.out; have := H.out.lt; omega) (by have := h1.1; have := HPN.out; have := HP.out; have := H.out.lt; omega)⟩) hb5.size
        have hkb2 : KeptP (fun b => p < b ∧ b ≠ X) w5 cb y := hkb.to (fun b h1 h2 => ⟨⟨by have h3 : v1.heap.size ≤ b := h1; have := HRv.out.lt; omega, by have h3 : v1.heap.size ≤ b := h1; have := HXv.out.lt; omega⟩, rfl⟩) (Nat.le_refl _)
        refine ord_to (some 17) 132 Tryz.func132 (by kernel_rfl) (by kernel_rfl) [.int .i64 6, .agg ⟨cs⟩, .agg ⟨cb⟩] _ _ _ rfl rfl rfl (by first | exact wanted_none rfl | exact wanted_if rfl rfl rfl rfl) rfl ?_
        refine (two_raw 6 cs cb hka.len hlb hka.one hkb2.one w5).mono ?_
        rintro e w6 ⟨g, rfl, hg, hwg, hb6⟩
        have hs6 : Whole 30 w6 X cs := hs5.keep (hb6.block X hs5.lt)
        refine ⟨_, rfl, hs6, ?_⟩
        go_frame
        refine ord_tail ?_
        simp only [List.drop_succ_cons, List.drop_zero]
        have hpg : p < g ∧ g ≠ X := ⟨by have := HRv.out.lt; have := hb5.size; omega, by have := hs5.lt; omega⟩
        have hkt : KeptP (fun b => p < b ∧ b ≠ X) w6 (twoC 6 g) (twoE 6 x y) := two_kept (wf_int 6 (by decide +kernel)) hwg hpg (hka.to (fun b h1 h2 => ⟨h1, hb6.block b h2⟩) hb6.size) (hkb2.to (fun b h1 h2 => ⟨h1, hb6.block b h2⟩) hb6.size)
        have HKT := Lib.hid hkt
        have HX6 := Lib.hid hs6
        have HR6 := Lib.hid ((HRv.out.keep (hb5.block p HRv.out.lt HPN.out.1 HPN.out.1)).keep (hb6.block p (by have := HRv.out.lt; have := hb5.size; omega)))
        have HS6 := Lib.hid (h1.keep hb6)
        have HB6 := Lib.hid (HBv.out.trans (hb5.trans (But.of_below hb6 pb pb)))
        have HLX := Lib.hid hka.len
        clear hs hs5 hs6 hb5 hka hkb hkb2 hlb hwg hb6 hkt hg hpg h1 h2
        go_wp2_with ((with_reducible refine wl_wstore 30 _ _ rfl rfl ?hwf1s X cs (twoC 6 g) HX6.out ?hs11s ?hs21s ?hs31s ?hs41s ?hs51s ?_); (case hwf1s => first | exact wanted_none rfl | exact wanted_if rfl rfl rfl rfl); (case hs11s => rw [HLX.out]; rfl); (case hs21s => rfl); (case hs31s => rfl); (case hs41s => rw [HKT.out.len]; kernel_rfl); (case hs51s => exact HKT.out.one); intro Z hz hb; have HZ := Lib.hid hz; have HZB := Lib.hid hb; clear hz hb)
        go_roundg (toks.length - j)
        case measure => have := HLT.out; have h2 := isB_lt HIS.out; have := HGQ.out; omega
        case rel =>
          refine ⟨_, j, _, HREST.out, rfl, HZ.out, HR6.out.keep (HZB.out.block p HR6.out.lt (by have := HXG.out.1; omega) (by have := HXG.out.1; omega)), HKT.out.to (fun b h1 h2 => ⟨h1, HZB.out.block b h2 h1.2 h1.2⟩) HZB.out.size, HS6.out.under X HXG.out.2.1 HXG.out.2.2 HZB.out, but_last HB6.out HZB.out (by have := HXG.out.1; have := HP.out; omega)⟩
set_option maxHeartbeats 8000000 in
set_option maxRecDepth 100000 in
theorem pc_prod {i j k h : Nat} {x z : ET} (hsub : PCon pb tb c E toks 161 i j h x) (hl : PL 161 [(⟨#[42]⟩, 7), (⟨#[47]⟩, 8), (⟨#[37]⟩, 9)] h pb tb c E toks x j z k) : PCon pb tb c E toks 160 i k h z := by
  intro w d h h0 hd
  have HSUB := Lib.hid hsub
  have HPL := Lib.hid hl
  clear hsub hl
  go_enter Tryz.func160, Tryz.ntmps160
  go_upto_region 1 with (fail)
  have HR0 := Lib.hid (Whole.new w zEc 30)
  have HB0 := Lib.hid (box_below w (.cells zEc.toArray 30))
  have hz : (#[Value.int IntKind.i64 0, Value.string { data := #[] }, Value.int IntKind.i64 0, Value.int IntKind.i64 0, Value.float FloatKind.f64 0, Value.string { data := #[] }, Value.slice none 0 0, Value.slice none 0 0, Value.slice none 0 0, Value.slice none 0 0] : Array Value) = zEc.toArray := rfl
  rw [hz]
  clear hz
  have HRW : Hid (w.heap.size < (w.alloc (.cells zEc.toArray 30)).heap.size) := Lib.hid (by simp)
  generalize w.alloc (.cells zEc.toArray 30) = W at *
  obtain ⟨p, hp⟩ : ∃ p, w.heap.size = p := ⟨_, rfl⟩
  rw [hp] at HR0 HRW
  rw [hp]
  have HP := Lib.hid hp
  have HS0 := Lib.hid (h.keep HB0.out)
  have HPN : Hid (p ≠ pb ∧ p ≠ tb) := Lib.hid ⟨by have := h.lt; omega, by have := h.lt; omega⟩
  have H := Lib.hid h
  have HD := Lib.hid (And.intro h0 hd)
  clear hp h h0 hd
  go_upto_region 2 with (first
    | (go_at_call 161; refine (HSUB.out W d HS0.out HD.out.1 HD.out.2).mono ?_; rintro e w1 ⟨cs0, rfl, hk, h1, h2⟩; have hl := hk.len; have HL0 := Lib.hid hl; have HK0 := Lib.hid hk; have HS1 := Lib.hid h1; have HB1 := Lib.hid h2; clear hl hk h1 h2)
    | ((with_reducible refine wl_wbox 30 _ _ rfl rfl ?hwe w1 ?zne cs0 ?hz1 ?hz2 ?hz3 ?hz4 ?hz5 ?hz6 ?_); (case hwe => first | exact wanted_none rfl | exact wanted_if rfl rfl rfl rfl); (case hz1 => rfl); (case hz2 => rw [HL0.out]; rfl); (case hz3 => rfl); (case hz4 => rfl); (case hz5 => rw [HL0.out]; kernel_rfl); (case hz6 => exact HK0.out.one); intro W2 hz hb hlt; have HX2 := Lib.hid hz; have HB2 := Lib.hid hb; have HLT2 := Lib.hid hlt; clear hz hb hlt))
  obtain ⟨X, hX⟩ : ∃ X, w1.heap.size = X := ⟨_, rfl⟩
  rw [hX] at HX2 HB2 HLT2
  rw [hX]
  have hXX := hX
  have HXG : Hid (p < X ∧ X ≠ pb ∧ X ≠ tb) := Lib.hid ⟨by have := HRW.out; have := HB1.out.size; omega, by have := HS1.out.lt; omega, by have := HS1.out.lt; omega⟩
  have hB12 : Below w1.heap.size w1 W2 := by rw [hX]; exact HB2.out
  have HR2 := Lib.hid ((HR0.out.keep (HB1.out.block p HRW.out HPN.out.1 HPN.out.1)).keep (hB12.block p (by rw [hX]; exact HXG.out.1)))
  have HS2 := Lib.hid (HS1.out.keep hB12)
  have HK2 : Hid (KeptP (fun b => p < b ∧ b ≠ X) W2 cs0 x) := Lib.hid (HK0.out.to (fun b h1 h2 => ⟨⟨by have := HRW.out; omega, by omega⟩, hB12.block b h2⟩) hB12.size)
  have HBW2 : Hid (But w W2 pb pb) := Lib.hid ((But.of_below HB0.out pb pb).trans (HB1.out.trans (But.of_below hB12 pb pb)))
  clear hX hXX hB12 HB1 HB2 HLT2 HK0 HS1 HS0 HR0
  go_wp2
  go_loopg [] (toks.length - j) (fun q u => ∃ (x : ET) (i : Nat) (cs : List Value), PL 161 [(⟨#[42]⟩, 7), (⟨#[47]⟩, 8), (⟨#[37]⟩, 9)] h pb tb c E toks x i z k ∧ q = toks.length - i ∧ Whole 30 u X cs ∧ Whole 30 u p zEc ∧ KeptP (fun b => p < b ∧ b ≠ X) u cs x ∧ PSt pb tb c E toks u i d ∧ But w u pb pb)
  case atStart => exact ⟨x, j, cs0, HPL.out, rfl, HX2.out, HR2.out, HK2.out, HS2.out, HBW2.out⟩
  case round =>
    clear HX2 HR2 HK2 HS2 HBW2 HL0 HPL
    obtain ⟨x, i, cs, hpl, hq, hx, hr, hk, hs, hb⟩ := hrel
    have HX := Lib.hid hx
    have HR := Lib.hid hr
    have HK := Lib.hid hk
    have HS := Lib.hid hs
    have HB := Lib.hid hb
    have HGQ := Lib.hid hq
    clear hx hr hk hs hb hq
    cases hpl with
    | done _ _ hno =>
      have HNO := Lib.hid hno
      clear hno
      go_upto_region 4 with (go_at_call 96; refine (take_no HS.out (HNO.out (⟨#[42]⟩, 7) (by simp))).mono ?_; rintro e v0 ⟨rfl, h1, h2⟩; have HT0 := Lib.hid h1; have HTB0 := Lib.hid h2; clear h1 h2)
      go_upto_region 6 with (go_at_call 96; refine (take_no HT0.out (HNO.out (⟨#[47]⟩, 8) (by simp))).mono ?_; rintro e v1 ⟨rfl, h1, h2⟩; have HT1 := Lib.hid h1; have HTB1 := Lib.hid h2; clear h1 h2)
      go_upto_region 8 with (go_at_call 96; refine (take_no HT1.out (HNO.out (⟨#[37]⟩, 9) (by simp))).mono ?_; rintro e v2 ⟨rfl, h1, h2⟩; have HT2 := Lib.hid h1; have HTB2 := Lib.hid h2; clear h1 h2)
      have HTB := Lib.hid (HTB0.out.trans (HTB1.out.trans HTB2.out))
      have HXv := Lib.hid (HX.out.keep (HTB.out.block X HX.out.lt HXG.out.2.1 HXG.out.2.1))
      have HRv := Lib.hid (HR.out.keep (HTB.out.block p HR.out.lt HPN.out.1 HPN.out.1))
      have HKv : Hid (KeptP (fun b => p < b ∧ b ≠ X) v2 cs z) := Lib.hid (HK.out.to (fun b h1 h2 => ⟨h1, HTB.out.block b h2 (by have := h1.1; have := HPN.out; have := HP.out; have := H.out.lt; omega) (by have := h1.1; have := HPN.out; have := HP.out; have := H.out.lt; omega)⟩) HTB.out.size)
      have HBv := Lib.hid (HB.out.trans HTB.out)
      clear HX HR HK
      have HX := HXv
      have HK := HKv
      have HXR := Lib.hid (HX.out.range)
      have HLX := Lib.hid (HK.out.len)
      go_wp2_with (first
        | ((with_reducible refine wl_sload 30 _ rfl ?hwld X 0 cs _ rfl HXR.out Tryz.underlying30 rfl ?hild ?_); (case hwld => first | exact wanted_none rfl | exact wanted_if rfl rfl rfl rfl); (case hild => rw [HLX.out]; kernel_rfl))
        | ((with_reducible refine wl_wstore 30 _ _ rfl rfl ?hwfd p zEc cs HRv.out ?hs1d ?hs2d ?hs3d ?hs4d ?hs5d ?_); (case hwfd => first | exact wanted_none rfl | exact wanted_if rfl rfl rfl rfl); (case hs1d => rw [HLX.out]; rfl); (case hs2d => rfl); (case hs3d => rfl); (case hs4d => rw [HLX.out]; kernel_rfl); (case hs5d => exact HK.out.one); intro Z hz hb; have HZ := Lib.hid hz; have HZB := Lib.hid hb; clear hz hb))
      (try simp only [Exit.inBlock, Exit.then])
      refine bodyPost_ret (results_exp rfl _ _ p cs HLX.out rfl HZ.out) rfl ?_
      have hp := HP.out
      refine ⟨cs, rfl, ?_, HT2.out.under p HPN.out.1 HPN.out.2 HZB.out, but_last HBv.out HZB.out (by omega)⟩
      exact KeptP.to (q := fun b => w.heap.size ≤ b) HK.out (fun b h1 h2 => ⟨by have := h1.1; show w.heap.size ≤ b; omega, HZB.out.block b h2 (by have := h1.1; omega) (by have := h1.1; omega)⟩) HZB.out.size
    | step _ _ y j z _ sg hmem his hsub hlt hrest =>
      have HSUB2 := Lib.hid hsub
      have HREST := Lib.hid hrest
      have HLT := Lib.hid hlt
      have HIS := Lib.hid his
      clear hsub hrest hlt his
      simp only [List.mem_cons, List.not_mem_nil, or_false] at hmem
      rcases hmem with rfl | rfl | rfl
      · go_upto_region 3 with (go_at_call 96; refine (take_yes HS.out HIS.out).mono ?_; rintro e v0 ⟨rfl, h1, h2⟩; have HT0 := Lib.hid h1; have HTB0 := Lib.hid h2; clear h1 h2)
        have HTB := Lib.hid HTB0.out
        have HXv := Lib.hid (HX.out.keep (HTB.out.block X HX.out.lt HXG.out.2.1 HXG.out.2.1))
        have HRv := Lib.hid (HR.out.keep (HTB.out.block p HR.out.lt HPN.out.1 HPN.out.1))
        have HKv : Hid (KeptP (fun b => p < b ∧ b ≠ X) v0 cs x) := Lib.hid (HK.out.to (fun b h1 h2 => ⟨h1, HTB.out.block b h2 (by have := h1.1; have := HPN.out; have := HP.out; have := H.out.lt; omega) (by have := h1.1; have := HPN.out; have := HP.out; have := H.out.lt; omega)⟩) HTB.out.size)
        have HBv := Lib.hid (HB.out.trans HTB.out)
        have hs : Whole 30 v0.drew X cs := HXv.out
        refine wp_region_ord_tail 4 [(0, true), (1, true), (2, false), (3, false)]
          (fun z => Whole 30 z X cs) (by kernel_rfl) (by kernel_rfl) rfl (by intro c a d v w h; cases d <;> exact h) ?_
        refine ord_load (some 8) (.agg ⟨cs⟩) _ rfl rfl (by first | exact wanted_none rfl | exact wanted_if rfl rfl rfl rfl) hs (fun z hz => exec_sload 30 rfl X 0 cs _ rfl hz.range Tryz.underlying30 rfl (by rw [HK.out.len]; kernel_rfl)) ?_
        go_frame
        refine ord_move (some 9) (.pointer (some ⟨pb, 0, none⟩)) _ _ rfl rfl rfl (by first | exact wanted_none rfl | exact wanted_if rfl rfl rfl rfl) hs rfl ?_
        go_frame
        refine ord_to (some 10) 161 Tryz.func161 (by kernel_rfl) (by kernel_rfl) [.pointer (some ⟨pb, 0, none⟩)] _ _ _ rfl rfl rfl (by first | exact wanted_none rfl | exact wanted_if rfl rfl rfl rfl) rfl ?_
        refine (HSUB2.out v0.drew d (HT0.out.keep (Below.refl _ v0).drew) HD.out.1 HD.out.2).mono ?_
        rintro e w5 ⟨cb, rfl, hkb, h1, h2⟩
        have hlb := hkb.len
        have hb5 : But v0 w5 pb pb := (But.of_below (Below.refl _ v0).drew pb pb).trans h2
        have hs5 : Whole 30 w5 X cs := HXv.out.keep (hb5.block X HXv.out.lt HXG.out.2.1 HXG.out.2.1)
        refine ⟨_, rfl, hs5, ?_⟩
        go_frame
        have hka : KeptP (fun b => p < b ∧ b ≠ X) w5 cs x := HKv.out.to (fun b h1 h2 => ⟨h1, hb5.block b h2 (by have := h1.1; have := HPN.out; have := HP.out; have := H.out.lt; omega) (by have := h1.1; have := HPN.out; have := HP.out; have := H.out.lt; omega)⟩) hb5.size
        have hkb2 : KeptP (fun b => p < b ∧ b ≠ X) w5 cb y := hkb.to (fun b h1 h2 => ⟨⟨by have h3 : v0.heap.size ≤ b := h1; have := HRv.out.lt; omega, by have h3 : v0.heap.size ≤ b := h1; have := HXv.out.lt; omega⟩, rfl⟩) (Nat.le_refl _)
        refine ord_to (some 11) 132 Tryz.func132 (by kernel_rfl) (by kernel_rfl) [.int .i64 7, .agg ⟨cs⟩, .agg ⟨cb⟩] _ _ _ rfl rfl rfl (by first | exact wanted_none rfl | exact wanted_if rfl rfl rfl rfl) rfl ?_
        refine (two_raw 7 cs cb hka.len hlb hka.one hkb2.one w5).mono ?_
        rintro e w6 ⟨g, rfl, hg, hwg, hb6⟩
        have hs6 : Whole 30 w6 X cs := hs5.keep (hb6.block X hs5.lt)
        refine ⟨_, rfl, hs6, ?_⟩
        go_frame
        refine ord_tail ?_
        simp only [List.drop_succ_cons, List.drop_zero]
        have hpg : p < g ∧ g ≠ X := ⟨by have := HRv.out.lt; have := hb5.size; omega, by have := hs5.lt; omega⟩
        have hkt : KeptP (fun b => p < b ∧ b ≠ X) w6 (twoC 7 g) (twoE 7 x y) := two_kept (wf_int 7 (by decide +kernel)) hwg hpg (hka.to (fun b h1 h2 => ⟨h1, hb6.block b h2⟩) hb6.size) (hkb2.to (fun b h1 h2 => ⟨h1, hb6.block b h2⟩) hb6.size)
        have HKT := Lib.hid hkt
        have HX6 := Lib.hid hs6
        have HR6 := Lib.hid ((HRv.out.keep (hb5.block p HRv.out.lt HPN.out.1 HPN.out.1)).keep (hb6.block p (by have := HRv.out.lt; have := hb5.size; omega)))
        have HS6 := Lib.hid (h1.keep hb6)
        have HB6 := Lib.hid (HBv.out.trans (hb5.trans (But.of_below hb6 pb pb)))
        have HLX := Lib.hid hka.len
        clear hs hs5 hs6 hb5 hka hkb hkb2 hlb hwg hb6 hkt hg hpg h1 h2
        go_wp2_with ((with_reducible refine wl_wstore 30 _ _ rfl rfl ?hwf0s X cs (twoC 7 g) HX6.out ?hs10s ?hs20s ?hs30s ?hs40s ?hs50s ?_); (case hwf0s => first | exact wanted_none rfl | exact wanted_if rfl rfl rfl rfl); (case hs10s => rw [HLX.out]; rfl); (case hs20s => rfl); (case hs30s => rfl); (case hs40s => rw [HKT.out.len]; kernel_rfl); (case hs50s => exact HKT.out.one); intro Z hz hb; have HZ := Lib.hid hz; have HZB := Lib.hid hb; clear hz hb)
        go_roundg (toks.length - j)
        case measure => have := HLT.out; have h2 := isB_lt HIS.out; have := HGQ.out; omega
        case rel =>
          refine ⟨_, j, _, HREST.out, rfl, HZ.out, HR6.out.keep (HZB.out.block p HR6.out.lt (by have := HXG.out.1; omega) (by have := HXG.out.1; omega)), HKT.out.to (fun b h1 h2 => ⟨h1, HZB.out.block b h2 h1.2 h1.2⟩) HZB.out.size, HS6.out.under X HXG.out.2.1 HXG.out.2.2 HZB.out, but_last HB6.out HZB.out (by have := HXG.out.1; have := HP.out; omega)⟩
      · have hno0 : isB toks i ⟨#[42]⟩ = false := isB_other HIS.out (by decide +kernel)
        have HNO0 := Lib.hid hno0
        clear hno0
        go_upto_region 4 with (go_at_call 96; refine (take_no HS.out HNO0.out).mono ?_; rintro e v0 ⟨rfl, h1, h2⟩; have HT0 := Lib.hid h1; have HTB0 := Lib.hid h2; clear h1 h2)
        go_upto_region 5 with (go_at_call 96; refine (take_yes HT0.out HIS.out).mono ?_; rintro e v1 ⟨rfl, h1, h2⟩; have HT1 := Lib.hid h1; have HTB1 := Lib.hid h2; clear h1 h2)
        have HTB := Lib.hid (HTB0.out.trans HTB1.out)
        have HXv := Lib.hid (HX.out.keep (HTB.out.block X HX.out.lt HXG.out.2.1 HXG.out.2.1))
        have HRv := Lib.hid (HR.out.keep (HTB.out.block p HR.out.lt HPN.out.1 HPN.out.1))
        have HKv : Hid (KeptP (fun b => p < b ∧ b ≠ X) v1 cs x) := Lib.hid (HK.out.to (fun b h1 h2 => ⟨h1, HTB.out.block b h2 (by have := h1.1; have := HPN.out; have := HP.out; have := H.out.lt; omega) (by have := h1.1; have := HPN.out; have := HP.out; have := H.out.lt; omega)⟩) HTB.out.size)
        have HBv := Lib.hid (HB.out.trans HTB.out)
        have hs : Whole 30 v1.drew X cs := HXv.out
        refine wp_region_ord_tail 4 [(0, true), (1, true), (2, false), (3, false)]
          (fun z => Whole 30 z X cs) (by kernel_rfl) (by kernel_rfl) rfl (by intro c a d v w h; cases d <;> exact h) ?_
        refine ord_load (some 14) (.agg ⟨cs⟩) _ rfl rfl (by first | exact wanted_none rfl | exact wanted_if rfl rfl rfl rfl) hs (fun z hz => exec_sload 30 rfl X 0 cs _ rfl hz.range Tryz.underlying30 rfl (by rw [HK.out.len]; kernel_rfl)) ?_
        go_frame
        refine ord_move (some 15) (.pointer (some ⟨pb, 0, none⟩)) _ _ rfl rfl rfl (by first | exact wanted_none rfl | exact wanted_if rfl rfl rfl rfl) hs rfl ?_
        go_frame
        refine ord_to (some 16) 161 Tryz.func161 (by kernel_rfl) (by kernel_rfl) [.pointer (some ⟨pb, 0, none⟩)] _ _ _ rfl rfl rfl (by first | exact wanted_none rfl | exact wanted_if rfl rfl rfl rfl) rfl ?_
        refine (HSUB2.out v1.drew d (HT1.out.keep (Below.refl _ v1).drew) HD.out.1 HD.out.2).mono ?_
        rintro e w5 ⟨cb, rfl, hkb, h1, h2⟩
        have hlb := hkb.len
        have hb5 : But v1 w5 pb pb := (But.of_below (Below.refl _ v1).drew pb pb).trans h2
        have hs5 : Whole 30 w5 X cs := HXv.out.keep (hb5.block X HXv.out.lt HXG.out.2.1 HXG.out.2.1)
        refine ⟨_, rfl, hs5, ?_⟩
        go_frame
        have hka : KeptP (fun b => p < b ∧ b ≠ X) w5 cs x := HKv.out.to (fun b h1 h2 => ⟨h1, hb5.block b h2 (by have := h1.1; have := HPN.out; have := HP.out; have := H.out.lt; omega) (by have := h1.1; have := HPN.out; have := HP.out; have := H.out.lt; omega)⟩) hb5.size
        have hkb2 : KeptP (fun b => p < b ∧ b ≠ X) w5 cb y := hkb.to (fun b h1 h2 => ⟨⟨by have h3 : v1.heap.size ≤ b := h1; have := HRv.out.lt; omega, by have h3 : v1.heap.size ≤ b := h1; have := HXv.out.lt; omega⟩, rfl⟩) (Nat.le_refl _)
        refine ord_to (some 17) 132 Tryz.func132 (by kernel_rfl) (by kernel_rfl) [.int .i64 8, .agg ⟨cs⟩, .agg ⟨cb⟩] _ _ _ rfl rfl rfl (by first | exact wanted_none rfl | exact wanted_if rfl rfl rfl rfl) rfl ?_
        refine (two_raw 8 cs cb hka.len hlb hka.one hkb2.one w5).mono ?_
        rintro e w6 ⟨g, rfl, hg, hwg, hb6⟩
        have hs6 : Whole 30 w6 X cs := hs5.keep (hb6.block X hs5.lt)
        refine ⟨_, rfl, hs6, ?_⟩
        go_frame
        refine ord_tail ?_
        simp only [List.drop_succ_cons, List.drop_zero]
        have hpg : p < g ∧ g ≠ X := ⟨by have := HRv.out.lt; have := hb5.size; omega, by have := hs5.lt; omega⟩
        have hkt : KeptP (fun b => p < b ∧ b ≠ X) w6 (twoC 8 g) (twoE 8 x y) := two_kept (wf_int 8 (by decide +kernel)) hwg hpg (hka.to (fun b h1 h2 => ⟨h1, hb6.block b h2⟩) hb6.size) (hkb2.to (fun b h1 h2 => ⟨h1, hb6.block b h2⟩) hb6.size)
        have HKT := Lib.hid hkt
        have HX6 := Lib.hid hs6
        have HR6 := Lib.hid ((HRv.out.keep (hb5.block p HRv.out.lt HPN.out.1 HPN.out.1)).keep (hb6.block p (by have := HRv.out.lt; have := hb5.size; omega)))
        have HS6 := Lib.hid (h1.keep hb6)
        have HB6 := Lib.hid (HBv.out.trans (hb5.trans (But.of_below hb6 pb pb)))
        have HLX := Lib.hid hka.len
        clear hs hs5 hs6 hb5 hka hkb hkb2 hlb hwg hb6 hkt hg hpg h1 h2
        go_wp2_with ((with_reducible refine wl_wstore 30 _ _ rfl rfl ?hwf1s X cs (twoC 8 g) HX6.out ?hs11s ?hs21s ?hs31s ?hs41s ?hs51s ?_); (case hwf1s => first | exact wanted_none rfl | exact wanted_if rfl rfl rfl rfl); (case hs11s => rw [HLX.out]; rfl); (case hs21s => rfl); (case hs31s => rfl); (case hs41s => rw [HKT.out.len]; kernel_rfl); (case hs51s => exact HKT.out.one); intro Z hz hb; have HZ := Lib.hid hz; have HZB := Lib.hid hb; clear hz hb)
        go_roundg (toks.length - j)
        case measure => have := HLT.out; have h2 := isB_lt HIS.out; have := HGQ.out; omega
        case rel =>
          refine ⟨_, j, _, HREST.out, rfl, HZ.out, HR6.out.keep (HZB.out.block p HR6.out.lt (by have := HXG.out.1; omega) (by have := HXG.out.1; omega)), HKT.out.to (fun b h1 h2 => ⟨h1, HZB.out.block b h2 h1.2 h1.2⟩) HZB.out.size, HS6.out.under X HXG.out.2.1 HXG.out.2.2 HZB.out, but_last HB6.out HZB.out (by have := HXG.out.1; have := HP.out; omega)⟩
      · have hno0 : isB toks i ⟨#[42]⟩ = false := isB_other HIS.out (by decide +kernel)
        have HNO0 := Lib.hid hno0
        clear hno0
        go_upto_region 4 with (go_at_call 96; refine (take_no HS.out HNO0.out).mono ?_; rintro e v0 ⟨rfl, h1, h2⟩; have HT0 := Lib.hid h1; have HTB0 := Lib.hid h2; clear h1 h2)
        have hno1 : isB toks i ⟨#[47]⟩ = false := isB_other HIS.out (by decide +kernel)
        have HNO1 := Lib.hid hno1
        clear hno1
        go_upto_region 6 with (go_at_call 96; refine (take_no HT0.out HNO1.out).mono ?_; rintro e v1 ⟨rfl, h1, h2⟩; have HT1 := Lib.hid h1; have HTB1 := Lib.hid h2; clear h1 h2)
        go_upto_region 7 with (go_at_call 96; refine (take_yes HT1.out HIS.out).mono ?_; rintro e v2 ⟨rfl, h1, h2⟩; have HT2 := Lib.hid h1; have HTB2 := Lib.hid h2; clear h1 h2)
        have HTB := Lib.hid (HTB0.out.trans (HTB1.out.trans HTB2.out))
        have HXv := Lib.hid (HX.out.keep (HTB.out.block X HX.out.lt HXG.out.2.1 HXG.out.2.1))
        have HRv := Lib.hid (HR.out.keep (HTB.out.block p HR.out.lt HPN.out.1 HPN.out.1))
        have HKv : Hid (KeptP (fun b => p < b ∧ b ≠ X) v2 cs x) := Lib.hid (HK.out.to (fun b h1 h2 => ⟨h1, HTB.out.block b h2 (by have := h1.1; have := HPN.out; have := HP.out; have := H.out.lt; omega) (by have := h1.1; have := HPN.out; have := HP.out; have := H.out.lt; omega)⟩) HTB.out.size)
        have HBv := Lib.hid (HB.out.trans HTB.out)
        have hs : Whole 30 v2.drew X cs := HXv.out
        refine wp_region_ord_tail 4 [(0, true), (1, true), (2, false), (3, false)]
          (fun z => Whole 30 z X cs) (by kernel_rfl) (by kernel_rfl) rfl (by intro c a d v w h; cases d <;> exact h) ?_
        refine ord_load (some 20) (.agg ⟨cs⟩) _ rfl rfl (by first | exact wanted_none rfl | exact wanted_if rfl rfl rfl rfl) hs (fun z hz => exec_sload 30 rfl X 0 cs _ rfl hz.range Tryz.underlying30 rfl (by rw [HK.out.len]; kernel_rfl)) ?_
        go_frame
        refine ord_move (some 21) (.pointer (some ⟨pb, 0, none⟩)) _ _ rfl rfl rfl (by first | exact wanted_none rfl | exact wanted_if rfl rfl rfl rfl) hs rfl ?_
        go_frame
        refine ord_to (some 22) 161 Tryz.func161 (by kernel_rfl) (by kernel_rfl) [.pointer (some ⟨pb, 0, none⟩)] _ _ _ rfl rfl rfl (by first | exact wanted_none rfl | exact wanted_if rfl rfl rfl rfl) rfl ?_
        refine (HSUB2.out v2.drew d (HT2.out.keep (Below.refl _ v2).drew) HD.out.1 HD.out.2).mono ?_
        rintro e w5 ⟨cb, rfl, hkb, h1, h2⟩
        have hlb := hkb.len
        have hb5 : But v2 w5 pb pb := (But.of_below (Below.refl _ v2).drew pb pb).trans h2
        have hs5 : Whole 30 w5 X cs := HXv.out.keep (hb5.block X HXv.out.lt HXG.out.2.1 HXG.out.2.1)
        refine ⟨_, rfl, hs5, ?_⟩
        go_frame
        have hka : KeptP (fun b => p < b ∧ b ≠ X) w5 cs x := HKv.out.to (fun b h1 h2 => ⟨h1, hb5.block b h2 (by have := h1.1; have := HPN.out; have := HP.out; have := H.out.lt; omega) (by have := h1.1; have := HPN.out; have := HP.out; have := H.out.lt; omega)⟩) hb5.size
        have hkb2 : KeptP (fun b => p < b ∧ b ≠ X) w5 cb y := hkb.to (fun b h1 h2 => ⟨⟨by have h3 : v2.heap.size ≤ b := h1; have := HRv.out.lt; omega, by have h3 : v2.heap.size ≤ b := h1; have := HXv.out.lt; omega⟩, rfl⟩) (Nat.le_refl _)
        refine ord_to (some 23) 132 Tryz.func132 (by kernel_rfl) (by kernel_rfl) [.int .i64 9, .agg ⟨cs⟩, .agg ⟨cb⟩] _ _ _ rfl rfl rfl (by first | exact wanted_none rfl | exact wanted_if rfl rfl rfl rfl) rfl ?_
        refine (two_raw 9 cs cb hka.len hlb hka.one hkb2.one w5).mono ?_
        rintro e w6 ⟨g, rfl, hg, hwg, hb6⟩
        have hs6 : Whole 30 w6 X cs := hs5.keep (hb6.block X hs5.lt)
        refine ⟨_, rfl, hs6, ?_⟩
        go_frame
        refine ord_tail ?_
        simp only [List.drop_succ_cons, List.drop_zero]
        have hpg : p < g ∧ g ≠ X := ⟨by have := HRv.out.lt; have := hb5.size; omega, by have := hs5.lt; omega⟩
        have hkt : KeptP (fun b => p < b ∧ b ≠ X) w6 (twoC 9 g) (twoE 9 x y) := two_kept (wf_int 9 (by decide +kernel)) hwg hpg (hka.to (fun b h1 h2 => ⟨h1, hb6.block b h2⟩) hb6.size) (hkb2.to (fun b h1 h2 => ⟨h1, hb6.block b h2⟩) hb6.size)
        have HKT := Lib.hid hkt
        have HX6 := Lib.hid hs6
        have HR6 := Lib.hid ((HRv.out.keep (hb5.block p HRv.out.lt HPN.out.1 HPN.out.1)).keep (hb6.block p (by have := HRv.out.lt; have := hb5.size; omega)))
        have HS6 := Lib.hid (h1.keep hb6)
        have HB6 := Lib.hid (HBv.out.trans (hb5.trans (But.of_below hb6 pb pb)))
        have HLX := Lib.hid hka.len
        clear hs hs5 hs6 hb5 hka hkb hkb2 hlb hwg hb6 hkt hg hpg h1 h2
        go_wp2_with ((with_reducible refine wl_wstore 30 _ _ rfl rfl ?hwf2s X cs (twoC 9 g) HX6.out ?hs12s ?hs22s ?hs32s ?hs42s ?hs52s ?_); (case hwf2s => first | exact wanted_none rfl | exact wanted_if rfl rfl rfl rfl); (case hs12s => rw [HLX.out]; rfl); (case hs22s => rfl); (case hs32s => rfl); (case hs42s => rw [HKT.out.len]; kernel_rfl); (case hs52s => exact HKT.out.one); intro Z hz hb; have HZ := Lib.hid hz; have HZB := Lib.hid hb; clear hz hb)
        go_roundg (toks.length - j)
        case measure => have := HLT.out; have h2 := isB_lt HIS.out; have := HGQ.out; omega
        case rel =>
          refine ⟨_, j, _, HREST.out, rfl, HZ.out, HR6.out.keep (HZB.out.block p HR6.out.lt (by have := HXG.out.1; omega) (by have := HXG.out.1; omega)), HKT.out.to (fun b h1 h2 => ⟨h1, HZB.out.block b h2 h1.2 h1.2⟩) HZB.out.size, HS6.out.under X HXG.out.2.1 HXG.out.2.2 HZB.out, but_last HB6.out HZB.out (by have := HXG.out.1; have := HP.out; omega)⟩
set_option maxHeartbeats 8000000 in
set_option maxRecDepth 100000 in
theorem pc_and {i j k h : Nat} {x z : ET} (hsub : PCon pb tb c E toks 150 i j h x) (hl : PL 150 [(⟨#[38, 38]⟩, 13)] h pb tb c E toks x j z k) : PCon pb tb c E toks 131 i k h z := by
  intro w d h h0 hd
  have HSUB := Lib.hid hsub
  have HPL := Lib.hid hl
  clear hsub hl
  go_enter Tryz.func131, Tryz.ntmps131
  go_upto_region 1 with (fail)
  have HR0 := Lib.hid (Whole.new w zEc 30)
  have HB0 := Lib.hid (box_below w (.cells zEc.toArray 30))
  have hz : (#[Value.int IntKind.i64 0, Value.string { data := #[] }, Value.int IntKind.i64 0, Value.int IntKind.i64 0, Value.float FloatKind.f64 0, Value.string { data := #[] }, Value.slice none 0 0, Value.slice none 0 0, Value.slice none 0 0, Value.slice none 0 0] : Array Value) = zEc.toArray := rfl
  rw [hz]
  clear hz
  have HRW : Hid (w.heap.size < (w.alloc (.cells zEc.toArray 30)).heap.size) := Lib.hid (by simp)
  generalize w.alloc (.cells zEc.toArray 30) = W at *
  obtain ⟨p, hp⟩ : ∃ p, w.heap.size = p := ⟨_, rfl⟩
  rw [hp] at HR0 HRW
  rw [hp]
  have HP := Lib.hid hp
  have HS0 := Lib.hid (h.keep HB0.out)
  have HPN : Hid (p ≠ pb ∧ p ≠ tb) := Lib.hid ⟨by have := h.lt; omega, by have := h.lt; omega⟩
  have H := Lib.hid h
  have HD := Lib.hid (And.intro h0 hd)
  clear hp h h0 hd
  go_upto_region 2 with (first
    | (go_at_call 150; refine (HSUB.out W d HS0.out HD.out.1 HD.out.2).mono ?_; rintro e w1 ⟨cs0, rfl, hk, h1, h2⟩; have hl := hk.len; have HL0 := Lib.hid hl; have HK0 := Lib.hid hk; have HS1 := Lib.hid h1; have HB1 := Lib.hid h2; clear hl hk h1 h2)
    | ((with_reducible refine wl_wbox 30 _ _ rfl rfl ?hwe w1 ?zne cs0 ?hz1 ?hz2 ?hz3 ?hz4 ?hz5 ?hz6 ?_); (case hwe => first | exact wanted_none rfl | exact wanted_if rfl rfl rfl rfl); (case hz1 => rfl); (case hz2 => rw [HL0.out]; rfl); (case hz3 => rfl); (case hz4 => rfl); (case hz5 => rw [HL0.out]; kernel_rfl); (case hz6 => exact HK0.out.one); intro W2 hz hb hlt; have HX2 := Lib.hid hz; have HB2 := Lib.hid hb; have HLT2 := Lib.hid hlt; clear hz hb hlt))
  obtain ⟨X, hX⟩ : ∃ X, w1.heap.size = X := ⟨_, rfl⟩
  rw [hX] at HX2 HB2 HLT2
  rw [hX]
  have hXX := hX
  have HXG : Hid (p < X ∧ X ≠ pb ∧ X ≠ tb) := Lib.hid ⟨by have := HRW.out; have := HB1.out.size; omega, by have := HS1.out.lt; omega, by have := HS1.out.lt; omega⟩
  have hB12 : Below w1.heap.size w1 W2 := by rw [hX]; exact HB2.out
  have HR2 := Lib.hid ((HR0.out.keep (HB1.out.block p HRW.out HPN.out.1 HPN.out.1)).keep (hB12.block p (by rw [hX]; exact HXG.out.1)))
  have HS2 := Lib.hid (HS1.out.keep hB12)
  have HK2 : Hid (KeptP (fun b => p < b ∧ b ≠ X) W2 cs0 x) := Lib.hid (HK0.out.to (fun b h1 h2 => ⟨⟨by have := HRW.out; omega, by omega⟩, hB12.block b h2⟩) hB12.size)
  have HBW2 : Hid (But w W2 pb pb) := Lib.hid ((But.of_below HB0.out pb pb).trans (HB1.out.trans (But.of_below hB12 pb pb)))
  clear hX hXX hB12 HB1 HB2 HLT2 HK0 HS1 HS0 HR0
  go_wp2
  go_loopg [] (toks.length - j) (fun q u => ∃ (x : ET) (i : Nat) (cs : List Value), PL 150 [(⟨#[38, 38]⟩, 13)] h pb tb c E toks x i z k ∧ q = toks.length - i ∧ Whole 30 u X cs ∧ Whole 30 u p zEc ∧ KeptP (fun b => p < b ∧ b ≠ X) u cs x ∧ PSt pb tb c E toks u i d ∧ But w u pb pb)
  case atStart => exact ⟨x, j, cs0, HPL.out, rfl, HX2.out, HR2.out, HK2.out, HS2.out, HBW2.out⟩
  case round =>
    clear HX2 HR2 HK2 HS2 HBW2 HL0 HPL
    obtain ⟨x, i, cs, hpl, hq, hx, hr, hk, hs, hb⟩ := hrel
    have HX := Lib.hid hx
    have HR := Lib.hid hr
    have HK := Lib.hid hk
    have HS := Lib.hid hs
    have HB := Lib.hid hb
    have HGQ := Lib.hid hq
    clear hx hr hk hs hb hq
    cases hpl with
    | done _ _ hno =>
      have HNO := Lib.hid hno
      clear hno
      go_upto_region 4 with (go_at_call 96; refine (take_no HS.out (HNO.out (⟨#[38, 38]⟩, 13) (by simp))).mono ?_; rintro e v0 ⟨rfl, h1, h2⟩; have HT0 := Lib.hid h1; have HTB0 := Lib.hid h2; clear h1 h2)
      have HTB := Lib.hid HTB0.out
      have HXv := Lib.hid (HX.out.keep (HTB.out.block X HX.out.lt HXG.out.2.1 HXG.out.2.1))
      have HRv := Lib.hid (HR.out.keep (HTB.out.block p HR.out.lt HPN.out.1 HPN.out.1))
      have HKv : Hid (KeptP (fun b => p < b ∧ b ≠ X) v0 cs z) := Lib.hid (HK.out.to (fun b h1 h2 => ⟨h1, HTB.out.block b h2 (by have := h1.1; have := HPN.out; have := HP.out; have := H.out.lt; omega) (by have := h1.1; have := HPN.out; have := HP.out; have := H.out.lt; omega)⟩) HTB.out.size)
      have HBv := Lib.hid (HB.out.trans HTB.out)
      clear HX HR HK
      have HX := HXv
      have HK := HKv
      have HXR := Lib.hid (HX.out.range)
      have HLX := Lib.hid (HK.out.len)
      go_wp2_with (first
        | ((with_reducible refine wl_sload 30 _ rfl ?hwld X 0 cs _ rfl HXR.out Tryz.underlying30 rfl ?hild ?_); (case hwld => first | exact wanted_none rfl | exact wanted_if rfl rfl rfl rfl); (case hild => rw [HLX.out]; kernel_rfl))
        | ((with_reducible refine wl_wstore 30 _ _ rfl rfl ?hwfd p zEc cs HRv.out ?hs1d ?hs2d ?hs3d ?hs4d ?hs5d ?_); (case hwfd => first | exact wanted_none rfl | exact wanted_if rfl rfl rfl rfl); (case hs1d => rw [HLX.out]; rfl); (case hs2d => rfl); (case hs3d => rfl); (case hs4d => rw [HLX.out]; kernel_rfl); (case hs5d => exact HK.out.one); intro Z hz hb; have HZ := Lib.hid hz; have HZB := Lib.hid hb; clear hz hb))
      (try simp only [Exit.inBlock, Exit.then])
      refine bodyPost_ret (results_exp rfl _ _ p cs HLX.out rfl HZ.out) rfl ?_
      have hp := HP.out
      refine ⟨cs, rfl, ?_, HT0.out.under p HPN.out.1 HPN.out.2 HZB.out, but_last HBv.out HZB.out (by omega)⟩
      exact KeptP.to (q := fun b => w.heap.size ≤ b) HK.out (fun b h1 h2 => ⟨by have := h1.1; show w.heap.size ≤ b; omega, HZB.out.block b h2 (by have := h1.1; omega) (by have := h1.1; omega)⟩) HZB.out.size
    | step _ _ y j z _ sg hmem his hsub hlt hrest =>
      have HSUB2 := Lib.hid hsub
      have HREST := Lib.hid hrest
      have HLT := Lib.hid hlt
      have HIS := Lib.hid his
      clear hsub hrest hlt his
      simp only [List.mem_cons, List.not_mem_nil, or_false] at hmem
      rcases hmem with rfl
      · go_upto_region 3 with (go_at_call 96; refine (take_yes HS.out HIS.out).mono ?_; rintro e v0 ⟨rfl, h1, h2⟩; have HT0 := Lib.hid h1; have HTB0 := Lib.hid h2; clear h1 h2)
        have HTB := Lib.hid HTB0.out
        have HXv := Lib.hid (HX.out.keep (HTB.out.block X HX.out.lt HXG.out.2.1 HXG.out.2.1))
        have HRv := Lib.hid (HR.out.keep (HTB.out.block p HR.out.lt HPN.out.1 HPN.out.1))
        have HKv : Hid (KeptP (fun b => p < b ∧ b ≠ X) v0 cs x) := Lib.hid (HK.out.to (fun b h1 h2 => ⟨h1, HTB.out.block b h2 (by have := h1.1; have := HPN.out; have := HP.out; have := H.out.lt; omega) (by have := h1.1; have := HPN.out; have := HP.out; have := H.out.lt; omega)⟩) HTB.out.size)
        have HBv := Lib.hid (HB.out.trans HTB.out)
        have hs : Whole 30 v0.drew X cs := HXv.out
        refine wp_region_ord_tail 4 [(0, true), (1, true), (2, false), (3, false)]
          (fun z => Whole 30 z X cs) (by kernel_rfl) (by kernel_rfl) rfl (by intro c a d v w h; cases d <;> exact h) ?_
        refine ord_load (some 8) (.agg ⟨cs⟩) _ rfl rfl (by first | exact wanted_none rfl | exact wanted_if rfl rfl rfl rfl) hs (fun z hz => exec_sload 30 rfl X 0 cs _ rfl hz.range Tryz.underlying30 rfl (by rw [HK.out.len]; kernel_rfl)) ?_
        go_frame
        refine ord_move (some 9) (.pointer (some ⟨pb, 0, none⟩)) _ _ rfl rfl rfl (by first | exact wanted_none rfl | exact wanted_if rfl rfl rfl rfl) hs rfl ?_
        go_frame
        refine ord_to (some 10) 150 Tryz.func150 (by kernel_rfl) (by kernel_rfl) [.pointer (some ⟨pb, 0, none⟩)] _ _ _ rfl rfl rfl (by first | exact wanted_none rfl | exact wanted_if rfl rfl rfl rfl) rfl ?_
        refine (HSUB2.out v0.drew d (HT0.out.keep (Below.refl _ v0).drew) HD.out.1 HD.out.2).mono ?_
        rintro e w5 ⟨cb, rfl, hkb, h1, h2⟩
        have hlb := hkb.len
        have hb5 : But v0 w5 pb pb := (But.of_below (Below.refl _ v0).drew pb pb).trans h2
        have hs5 : Whole 30 w5 X cs := HXv.out.keep (hb5.block X HXv.out.lt HXG.out.2.1 HXG.out.2.1)
        refine ⟨_, rfl, hs5, ?_⟩
        go_frame
        have hka : KeptP (fun b => p < b ∧ b ≠ X) w5 cs x := HKv.out.to (fun b h1 h2 => ⟨h1, hb5.block b h2 (by have := h1.1; have := HPN.out; have := HP.out; have := H.out.lt; omega) (by have := h1.1; have := HPN.out; have := HP.out; have := H.out.lt; omega)⟩) hb5.size
        have hkb2 : KeptP (fun b => p < b ∧ b ≠ X) w5 cb y := hkb.to (fun b h1 h2 => ⟨⟨by have h3 : v0.heap.size ≤ b := h1; have := HRv.out.lt; omega, by have h3 : v0.heap.size ≤ b := h1; have := HXv.out.lt; omega⟩, rfl⟩) (Nat.le_refl _)
        refine ord_to (some 11) 132 Tryz.func132 (by kernel_rfl) (by kernel_rfl) [.int .i64 13, .agg ⟨cs⟩, .agg ⟨cb⟩] _ _ _ rfl rfl rfl (by first | exact wanted_none rfl | exact wanted_if rfl rfl rfl rfl) rfl ?_
        refine (two_raw 13 cs cb hka.len hlb hka.one hkb2.one w5).mono ?_
        rintro e w6 ⟨g, rfl, hg, hwg, hb6⟩
        have hs6 : Whole 30 w6 X cs := hs5.keep (hb6.block X hs5.lt)
        refine ⟨_, rfl, hs6, ?_⟩
        go_frame
        refine ord_tail ?_
        simp only [List.drop_succ_cons, List.drop_zero]
        have hpg : p < g ∧ g ≠ X := ⟨by have := HRv.out.lt; have := hb5.size; omega, by have := hs5.lt; omega⟩
        have hkt : KeptP (fun b => p < b ∧ b ≠ X) w6 (twoC 13 g) (twoE 13 x y) := two_kept (wf_int 13 (by decide +kernel)) hwg hpg (hka.to (fun b h1 h2 => ⟨h1, hb6.block b h2⟩) hb6.size) (hkb2.to (fun b h1 h2 => ⟨h1, hb6.block b h2⟩) hb6.size)
        have HKT := Lib.hid hkt
        have HX6 := Lib.hid hs6
        have HR6 := Lib.hid ((HRv.out.keep (hb5.block p HRv.out.lt HPN.out.1 HPN.out.1)).keep (hb6.block p (by have := HRv.out.lt; have := hb5.size; omega)))
        have HS6 := Lib.hid (h1.keep hb6)
        have HB6 := Lib.hid (HBv.out.trans (hb5.trans (But.of_below hb6 pb pb)))
        have HLX := Lib.hid hka.len
        clear hs hs5 hs6 hb5 hka hkb hkb2 hlb hwg hb6 hkt hg hpg h1 h2
        go_wp2_with ((with_reducible refine wl_wstore 30 _ _ rfl rfl ?hwf0s X cs (twoC 13 g) HX6.out ?hs10s ?hs20s ?hs30s ?hs40s ?hs50s ?_); (case hwf0s => first | exact wanted_none rfl | exact wanted_if rfl rfl rfl rfl); (case hs10s => rw [HLX.out]; rfl); (case hs20s => rfl); (case hs30s => rfl); (case hs40s => rw [HKT.out.len]; kernel_rfl); (case hs50s => exact HKT.out.one); intro Z hz hb; have HZ := Lib.hid hz; have HZB := Lib.hid hb; clear hz hb)
        go_roundg (toks.length - j)
        case measure => have := HLT.out; have h2 := isB_lt HIS.out; have := HGQ.out; omega
        case rel =>
          refine ⟨_, j, _, HREST.out, rfl, HZ.out, HR6.out.keep (HZB.out.block p HR6.out.lt (by have := HXG.out.1; omega) (by have := HXG.out.1; omega)), HKT.out.to (fun b h1 h2 => ⟨h1, HZB.out.block b h2 h1.2 h1.2⟩) HZB.out.size, HS6.out.under X HXG.out.2.1 HXG.out.2.2 HZB.out, but_last HB6.out HZB.out (by have := HXG.out.1; have := HP.out; omega)⟩
set_option maxHeartbeats 8000000 in
set_option maxRecDepth 100000 in
theorem pc_or {i j k h : Nat} {x z : ET} (hsub : PCon pb tb c E toks 131 i j h x) (hl : PL 131 [(⟨#[124, 124]⟩, 14)] h pb tb c E toks x j z k) : PCon pb tb c E toks 95 i k h z := by
  intro w d h h0 hd
  have HSUB := Lib.hid hsub
  have HPL := Lib.hid hl
  clear hsub hl
  go_enter Tryz.func95, Tryz.ntmps95
  go_upto_region 1 with (fail)
  have HR0 := Lib.hid (Whole.new w zEc 30)
  have HB0 := Lib.hid (box_below w (.cells zEc.toArray 30))
  have hz : (#[Value.int IntKind.i64 0, Value.string { data := #[] }, Value.int IntKind.i64 0, Value.int IntKind.i64 0, Value.float FloatKind.f64 0, Value.string { data := #[] }, Value.slice none 0 0, Value.slice none 0 0, Value.slice none 0 0, Value.slice none 0 0] : Array Value) = zEc.toArray := rfl
  rw [hz]
  clear hz
  have HRW : Hid (w.heap.size < (w.alloc (.cells zEc.toArray 30)).heap.size) := Lib.hid (by simp)
  generalize w.alloc (.cells zEc.toArray 30) = W at *
  obtain ⟨p, hp⟩ : ∃ p, w.heap.size = p := ⟨_, rfl⟩
  rw [hp] at HR0 HRW
  rw [hp]
  have HP := Lib.hid hp
  have HS0 := Lib.hid (h.keep HB0.out)
  have HPN : Hid (p ≠ pb ∧ p ≠ tb) := Lib.hid ⟨by have := h.lt; omega, by have := h.lt; omega⟩
  have H := Lib.hid h
  have HD := Lib.hid (And.intro h0 hd)
  clear hp h h0 hd
  go_upto_region 2 with (first
    | (go_at_call 131; refine (HSUB.out W d HS0.out HD.out.1 HD.out.2).mono ?_; rintro e w1 ⟨cs0, rfl, hk, h1, h2⟩; have hl := hk.len; have HL0 := Lib.hid hl; have HK0 := Lib.hid hk; have HS1 := Lib.hid h1; have HB1 := Lib.hid h2; clear hl hk h1 h2)
    | ((with_reducible refine wl_wbox 30 _ _ rfl rfl ?hwe w1 ?zne cs0 ?hz1 ?hz2 ?hz3 ?hz4 ?hz5 ?hz6 ?_); (case hwe => first | exact wanted_none rfl | exact wanted_if rfl rfl rfl rfl); (case hz1 => rfl); (case hz2 => rw [HL0.out]; rfl); (case hz3 => rfl); (case hz4 => rfl); (case hz5 => rw [HL0.out]; kernel_rfl); (case hz6 => exact HK0.out.one); intro W2 hz hb hlt; have HX2 := Lib.hid hz; have HB2 := Lib.hid hb; have HLT2 := Lib.hid hlt; clear hz hb hlt))
  obtain ⟨X, hX⟩ : ∃ X, w1.heap.size = X := ⟨_, rfl⟩
  rw [hX] at HX2 HB2 HLT2
  rw [hX]
  have hXX := hX
  have HXG : Hid (p < X ∧ X ≠ pb ∧ X ≠ tb) := Lib.hid ⟨by have := HRW.out; have := HB1.out.size; omega, by have := HS1.out.lt; omega, by have := HS1.out.lt; omega⟩
  have hB12 : Below w1.heap.size w1 W2 := by rw [hX]; exact HB2.out
  have HR2 := Lib.hid ((HR0.out.keep (HB1.out.block p HRW.out HPN.out.1 HPN.out.1)).keep (hB12.block p (by rw [hX]; exact HXG.out.1)))
  have HS2 := Lib.hid (HS1.out.keep hB12)
  have HK2 : Hid (KeptP (fun b => p < b ∧ b ≠ X) W2 cs0 x) := Lib.hid (HK0.out.to (fun b h1 h2 => ⟨⟨by have := HRW.out; omega, by omega⟩, hB12.block b h2⟩) hB12.size)
  have HBW2 : Hid (But w W2 pb pb) := Lib.hid ((But.of_below HB0.out pb pb).trans (HB1.out.trans (But.of_below hB12 pb pb)))
  clear hX hXX hB12 HB1 HB2 HLT2 HK0 HS1 HS0 HR0
  go_wp2
  go_loopg [] (toks.length - j) (fun q u => ∃ (x : ET) (i : Nat) (cs : List Value), PL 131 [(⟨#[124, 124]⟩, 14)] h pb tb c E toks x i z k ∧ q = toks.length - i ∧ Whole 30 u X cs ∧ Whole 30 u p zEc ∧ KeptP (fun b => p < b ∧ b ≠ X) u cs x ∧ PSt pb tb c E toks u i d ∧ But w u pb pb)
  case atStart => exact ⟨x, j, cs0, HPL.out, rfl, HX2.out, HR2.out, HK2.out, HS2.out, HBW2.out⟩
  case round =>
    clear HX2 HR2 HK2 HS2 HBW2 HL0 HPL
    obtain ⟨x, i, cs, hpl, hq, hx, hr, hk, hs, hb⟩ := hrel
    have HX := Lib.hid hx
    have HR := Lib.hid hr
    have HK := Lib.hid hk
    have HS := Lib.hid hs
    have HB := Lib.hid hb
    have HGQ := Lib.hid hq
    clear hx hr hk hs hb hq
    cases hpl with
    | done _ _ hno =>
      have HNO := Lib.hid hno
      clear hno
      go_upto_region 4 with (go_at_call 96; refine (take_no HS.out (HNO.out (⟨#[124, 124]⟩, 14) (by simp))).mono ?_; rintro e v0 ⟨rfl, h1, h2⟩; have HT0 := Lib.hid h1; have HTB0 := Lib.hid h2; clear h1 h2)
      have HTB := Lib.hid HTB0.out
      have HXv := Lib.hid (HX.out.keep (HTB.out.block X HX.out.lt HXG.out.2.1 HXG.out.2.1))
      have HRv := Lib.hid (HR.out.keep (HTB.out.block p HR.out.lt HPN.out.1 HPN.out.1))
      have HKv : Hid (KeptP (fun b => p < b ∧ b ≠ X) v0 cs z) := Lib.hid (HK.out.to (fun b h1 h2 => ⟨h1, HTB.out.block b h2 (by have := h1.1; have := HPN.out; have := HP.out; have := H.out.lt; omega) (by have := h1.1; have := HPN.out; have := HP.out; have := H.out.lt; omega)⟩) HTB.out.size)
      have HBv := Lib.hid (HB.out.trans HTB.out)
      clear HX HR HK
      have HX := HXv
      have HK := HKv
      have HXR := Lib.hid (HX.out.range)
      have HLX := Lib.hid (HK.out.len)
      go_wp2_with (first
        | ((with_reducible refine wl_sload 30 _ rfl ?hwld X 0 cs _ rfl HXR.out Tryz.underlying30 rfl ?hild ?_); (case hwld => first | exact wanted_none rfl | exact wanted_if rfl rfl rfl rfl); (case hild => rw [HLX.out]; kernel_rfl))
        | ((with_reducible refine wl_wstore 30 _ _ rfl rfl ?hwfd p zEc cs HRv.out ?hs1d ?hs2d ?hs3d ?hs4d ?hs5d ?_); (case hwfd => first | exact wanted_none rfl | exact wanted_if rfl rfl rfl rfl); (case hs1d => rw [HLX.out]; rfl); (case hs2d => rfl); (case hs3d => rfl); (case hs4d => rw [HLX.out]; kernel_rfl); (case hs5d => exact HK.out.one); intro Z hz hb; have HZ := Lib.hid hz; have HZB := Lib.hid hb; clear hz hb))
      (try simp only [Exit.inBlock, Exit.then])
      refine bodyPost_ret (results_exp rfl _ _ p cs HLX.out rfl HZ.out) rfl ?_
      have hp := HP.out
      refine ⟨cs, rfl, ?_, HT0.out.under p HPN.out.1 HPN.out.2 HZB.out, but_last HBv.out HZB.out (by omega)⟩
      exact KeptP.to (q := fun b => w.heap.size ≤ b) HK.out (fun b h1 h2 => ⟨by have := h1.1; show w.heap.size ≤ b; omega, HZB.out.block b h2 (by have := h1.1; omega) (by have := h1.1; omega)⟩) HZB.out.size
    | step _ _ y j z _ sg hmem his hsub hlt hrest =>
      have HSUB2 := Lib.hid hsub
      have HREST := Lib.hid hrest
      have HLT := Lib.hid hlt
      have HIS := Lib.hid his
      clear hsub hrest hlt his
      simp only [List.mem_cons, List.not_mem_nil, or_false] at hmem
      rcases hmem with rfl
      · go_upto_region 3 with (go_at_call 96; refine (take_yes HS.out HIS.out).mono ?_; rintro e v0 ⟨rfl, h1, h2⟩; have HT0 := Lib.hid h1; have HTB0 := Lib.hid h2; clear h1 h2)
        have HTB := Lib.hid HTB0.out
        have HXv := Lib.hid (HX.out.keep (HTB.out.block X HX.out.lt HXG.out.2.1 HXG.out.2.1))
        have HRv := Lib.hid (HR.out.keep (HTB.out.block p HR.out.lt HPN.out.1 HPN.out.1))
        have HKv : Hid (KeptP (fun b => p < b ∧ b ≠ X) v0 cs x) := Lib.hid (HK.out.to (fun b h1 h2 => ⟨h1, HTB.out.block b h2 (by have := h1.1; have := HPN.out; have := HP.out; have := H.out.lt; omega) (by have := h1.1; have := HPN.out; have := HP.out; have := H.out.lt; omega)⟩) HTB.out.size)
        have HBv := Lib.hid (HB.out.trans HTB.out)
        have hs : Whole 30 v0.drew X cs := HXv.out
        refine wp_region_ord_tail 4 [(0, true), (1, true), (2, false), (3, false)]
          (fun z => Whole 30 z X cs) (by kernel_rfl) (by kernel_rfl) rfl (by intro c a d v w h; cases d <;> exact h) ?_
        refine ord_load (some 8) (.agg ⟨cs⟩) _ rfl rfl (by first | exact wanted_none rfl | exact wanted_if rfl rfl rfl rfl) hs (fun z hz => exec_sload 30 rfl X 0 cs _ rfl hz.range Tryz.underlying30 rfl (by rw [HK.out.len]; kernel_rfl)) ?_
        go_frame
        refine ord_move (some 9) (.pointer (some ⟨pb, 0, none⟩)) _ _ rfl rfl rfl (by first | exact wanted_none rfl | exact wanted_if rfl rfl rfl rfl) hs rfl ?_
        go_frame
        refine ord_to (some 10) 131 Tryz.func131 (by kernel_rfl) (by kernel_rfl) [.pointer (some ⟨pb, 0, none⟩)] _ _ _ rfl rfl rfl (by first | exact wanted_none rfl | exact wanted_if rfl rfl rfl rfl) rfl ?_
        refine (HSUB2.out v0.drew d (HT0.out.keep (Below.refl _ v0).drew) HD.out.1 HD.out.2).mono ?_
        rintro e w5 ⟨cb, rfl, hkb, h1, h2⟩
        have hlb := hkb.len
        have hb5 : But v0 w5 pb pb := (But.of_below (Below.refl _ v0).drew pb pb).trans h2
        have hs5 : Whole 30 w5 X cs := HXv.out.keep (hb5.block X HXv.out.lt HXG.out.2.1 HXG.out.2.1)
        refine ⟨_, rfl, hs5, ?_⟩
        go_frame
        have hka : KeptP (fun b => p < b ∧ b ≠ X) w5 cs x := HKv.out.to (fun b h1 h2 => ⟨h1, hb5.block b h2 (by have := h1.1; have := HPN.out; have := HP.out; have := H.out.lt; omega) (by have := h1.1; have := HPN.out; have := HP.out; have := H.out.lt; omega)⟩) hb5.size
        have hkb2 : KeptP (fun b => p < b ∧ b ≠ X) w5 cb y := hkb.to (fun b h1 h2 => ⟨⟨by have h3 : v0.heap.size ≤ b := h1; have := HRv.out.lt; omega, by have h3 : v0.heap.size ≤ b := h1; have := HXv.out.lt; omega⟩, rfl⟩) (Nat.le_refl _)
        refine ord_to (some 11) 132 Tryz.func132 (by kernel_rfl) (by kernel_rfl) [.int .i64 14, .agg ⟨cs⟩, .agg ⟨cb⟩] _ _ _ rfl rfl rfl (by first | exact wanted_none rfl | exact wanted_if rfl rfl rfl rfl) rfl ?_
        refine (two_raw 14 cs cb hka.len hlb hka.one hkb2.one w5).mono ?_
        rintro e w6 ⟨g, rfl, hg, hwg, hb6⟩
        have hs6 : Whole 30 w6 X cs := hs5.keep (hb6.block X hs5.lt)
        refine ⟨_, rfl, hs6, ?_⟩
        go_frame
        refine ord_tail ?_
        simp only [List.drop_succ_cons, List.drop_zero]
        have hpg : p < g ∧ g ≠ X := ⟨by have := HRv.out.lt; have := hb5.size; omega, by have := hs5.lt; omega⟩
        have hkt : KeptP (fun b => p < b ∧ b ≠ X) w6 (twoC 14 g) (twoE 14 x y) := two_kept (wf_int 14 (by decide +kernel)) hwg hpg (hka.to (fun b h1 h2 => ⟨h1, hb6.block b h2⟩) hb6.size) (hkb2.to (fun b h1 h2 => ⟨h1, hb6.block b h2⟩) hb6.size)
        have HKT := Lib.hid hkt
        have HX6 := Lib.hid hs6
        have HR6 := Lib.hid ((HRv.out.keep (hb5.block p HRv.out.lt HPN.out.1 HPN.out.1)).keep (hb6.block p (by have := HRv.out.lt; have := hb5.size; omega)))
        have HS6 := Lib.hid (h1.keep hb6)
        have HB6 := Lib.hid (HBv.out.trans (hb5.trans (But.of_below hb6 pb pb)))
        have HLX := Lib.hid hka.len
        clear hs hs5 hs6 hb5 hka hkb hkb2 hlb hwg hb6 hkt hg hpg h1 h2
        go_wp2_with ((with_reducible refine wl_wstore 30 _ _ rfl rfl ?hwf0s X cs (twoC 14 g) HX6.out ?hs10s ?hs20s ?hs30s ?hs40s ?hs50s ?_); (case hwf0s => first | exact wanted_none rfl | exact wanted_if rfl rfl rfl rfl); (case hs10s => rw [HLX.out]; rfl); (case hs20s => rfl); (case hs30s => rfl); (case hs40s => rw [HKT.out.len]; kernel_rfl); (case hs50s => exact HKT.out.one); intro Z hz hb; have HZ := Lib.hid hz; have HZB := Lib.hid hb; clear hz hb)
        go_roundg (toks.length - j)
        case measure => have := HLT.out; have h2 := isB_lt HIS.out; have := HGQ.out; omega
        case rel =>
          refine ⟨_, j, _, HREST.out, rfl, HZ.out, HR6.out.keep (HZB.out.block p HR6.out.lt (by have := HXG.out.1; omega) (by have := HXG.out.1; omega)), HKT.out.to (fun b h1 h2 => ⟨h1, HZB.out.block b h2 h1.2 h1.2⟩) HZB.out.size, HS6.out.under X HXG.out.2.1 HXG.out.2.2 HZB.out, but_last HB6.out HZB.out (by have := HXG.out.1; have := HP.out; omega)⟩
end
end Go.Proofs.YtppmkehdhpgdcaaGreat
end
