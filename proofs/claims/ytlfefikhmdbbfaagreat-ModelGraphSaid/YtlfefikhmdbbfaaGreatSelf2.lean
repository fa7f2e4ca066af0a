/- The document's order of a value and itself; its sameness of an expression and itself. -/
import Derived.Test.YtlfefikhmdbbfaaGreatSelf
namespace Go.Proofs.YtlfefikhmdbbfaaGreat
open Go Go.RowKit
set_option linter.unusedVariables false
set_option linter.unusedSimpArgs false

theorem ValAt.nextS {w w' : World} {cs : List Value} {t : VT} (h : ValAt w w.heap.size cs t) (hb : Below w.heap.size w w') : ValAt w' w'.heap.size cs t := (h.under hb).more hb.size
theorem ExpAt.nextS {w w' : World} {cs : List Value} {t : ET} (h : ExpAt w w.heap.size cs t) (hb : Below w.heap.size w w') : ExpAt w' w'.heap.size cs t := (h.under hb).more hb.size
theorem val_lenS {w : World} {B : Nat} {cs : List Value} {t : VT} (h : ValAt w B cs t) : cs.length = 6 := by
  cases t with
  | mk k n f s ns its =>
    obtain ⟨vn, vi, rfl, _, _, _, _, h1, _, h2⟩ := h.inv
    rfl
theorem exp_lenS {w : World} {B : Nat} {cs : List Value} {t : ET} (h : ExpAt w B cs t) : cs.length = 10 := by
  cases t with
  | mk k s t ns its =>
    obtain ⟨c0, c1, c2, c3, c4, c5, vn, vi, rfl, _⟩ := h.inv
    rfl
theorem rows_atS {α : Type} {k : Nat} {R : List Value → α → Prop} {w : World} {v : Value} {l : List α} (h : SlAt w w.heap.size k R v l) : ∃ A c, v = .slice A l.length c ∧ l.length ≤ 9223372036854775807 ∧
    (0 < l.length → ∃ b o, A = some ⟨b, o, none⟩ ∧ b < w.heap.size ∧ ∀ (i : Nat) x, l[i]? = some x → ∃ cs : List Value, w.rangeAt b (o + i * k) cs ∧ R cs x) := by
  obtain ⟨h0, A, c, h1, h2⟩ := h
  refine ⟨A, c, h1, h0, fun hp => ?_⟩
  obtain ⟨b, o, h3, h4, h5⟩ := h2 hp
  refine ⟨b, o, h3, h4, fun i x hx => ?_⟩
  obtain ⟨cs, _, h7, h8⟩ := h5 i x hx
  exact ⟨cs, h7, h8⟩
set_option maxHeartbeats 8000000 in
set_option maxRecDepth 100000 in
theorem rorder_self : ∀ (x : VT) (cs : List Value) (w : World), ValAt w w.heap.size cs x →
    Calls Tryz.prog 60 #[.agg ⟨cs⟩, .agg ⟨cs⟩] w fun en w' => en = .returned (.int .i64 0) ∧ Below w.heap.size w w' := by
  intro x
  induction x using VT.ind with
  | h k n f s ns its ih =>
    intro cs w hv
    have IH := Lib.hid ih
    obtain ⟨vn, vi, rfl, _, _, hf, _, hn, _, hi⟩ := hv.inv
    obtain ⟨A, c, rfl, hil, hA⟩ := rows_atS hi
    have HF : Hid (f < 2 ^ 64) := Lib.hid (by unfold Lit.wf at hf; simpa using hf)
    have HN := Lib.hid hn
    have HA := Lib.hid hA
    clear ih hv hn hi hA hf
    by_cases k1 : k = 1
    · subst k1
      go_enter Tryz.func60, Tryz.ntmps60
      go_upto_region 1 with (fail)
      have HA0 := Lib.hid (range_box w [.int .i64 1, .int .i64 n, .float .f64 f, .string s, vn, .slice A its.length c] 38)
      have HB1 := Lib.hid (box_below w (.cells ⟨[.int .i64 1, .int .i64 n, .float .f64 f, .string s, vn, .slice A its.length c]⟩ 38))
      have HS1 := Lib.hid (box_size w (.cells ⟨[.int .i64 1, .int .i64 n, .float .f64 f, .string s, vn, .slice A its.length c]⟩ 38))
      have HSE : Hid ((w.alloc (.cells ⟨[.int .i64 1, .int .i64 n, .float .f64 f, .string s, vn, .slice A its.length c]⟩ 38)).heap.size = w.heap.size + 1) := Lib.hid (by simp)
      generalize w.alloc (.cells ⟨[.int .i64 1, .int .i64 n, .float .f64 f, .string s, vn, .slice A its.length c]⟩ 38) = W1 at *
      have HB := Lib.hid (range_box W1 [.int .i64 1, .int .i64 n, .float .f64 f, .string s, vn, .slice A its.length c] 38)
      have HB2 := Lib.hid (box_below W1 (.cells ⟨[.int .i64 1, .int .i64 n, .float .f64 f, .string s, vn, .slice A its.length c]⟩ 38))
      have HS2 := Lib.hid (box_size W1 (.cells ⟨[.int .i64 1, .int .i64 n, .float .f64 f, .string s, vn, .slice A its.length c]⟩ 38))
      generalize W1.alloc (.cells ⟨[.int .i64 1, .int .i64 n, .float .f64 f, .string s, vn, .slice A its.length c]⟩ 38) = W at *
      have HAW := Lib.hid (rangeAt_below HA0.out HB2.out HS1.out)
      have HBW := Lib.hid (HB1.out.trans (HB2.out.mono HB1.out.size))
      have HLT := Lib.hid (Nat.lt_of_lt_of_le HS1.out HB2.out.size)
      rw [HSE.out] at HB HS2
      obtain ⟨pb, hpb⟩ : ∃ pb, w.heap.size + 1 = pb := ⟨_, rfl⟩
      rw [hpb] at HB HS2
      rw [hpb]
      clear HA0 HB1 HS1 HSE HB2 hpb
      have d0 : W.cell? ⟨w.heap.size, 0, none⟩ = some (.int .i64 1) := by have := HAW.out 0 _ rfl; simpa using this
      have d1 : W.cell? ⟨w.heap.size, 1, none⟩ = some (.int .i64 n) := by have := HAW.out 1 _ rfl; simpa using this
      have d2 : W.cell? ⟨w.heap.size, 2, none⟩ = some (.float .f64 f) := by have := HAW.out 2 _ rfl; simpa using this
      have d3 : W.cell? ⟨w.heap.size, 3, none⟩ = some (.string s) := by have := HAW.out 3 _ rfl; simpa using this
      have d4 : W.cell? ⟨w.heap.size, 4, none⟩ = some (vn) := by have := HAW.out 4 _ rfl; simpa using this
      have e0 : W.cell? ⟨pb, 0, none⟩ = some (.int .i64 1) := by have := HB.out 0 _ rfl; simpa using this
      have e1 : W.cell? ⟨pb, 1, none⟩ = some (.int .i64 n) := by have := HB.out 1 _ rfl; simpa using this
      have e2 : W.cell? ⟨pb, 2, none⟩ = some (.float .f64 f) := by have := HB.out 2 _ rfl; simpa using this
      have e3 : W.cell? ⟨pb, 3, none⟩ = some (.string s) := by have := HB.out 3 _ rfl; simpa using this
      have e4 : W.cell? ⟨pb, 4, none⟩ = some (vn) := by have := HB.out 4 _ rfl; simpa using this
      go_wp2_with (go_at_call 72; refine (sign_self _ _).mono ?_; rintro en z ⟨rfl, hzw⟩; obtain rfl := hzw.symm; clear hzw)
      go_ret
      exact ⟨rfl, HBW.out⟩
    by_cases k2 : k = 2
    · subst k2
      go_enter Tryz.func60, Tryz.ntmps60
      go_upto_region 1 with (fail)
      have HA0 := Lib.hid (range_box w [.int .i64 2, .int .i64 n, .float .f64 f, .string s, vn, .slice A its.length c] 38)
      have HB1 := Lib.hid (box_below w (.cells ⟨[.int .i64 2, .int .i64 n, .float .f64 f, .string s, vn, .slice A its.length c]⟩ 38))
      have HS1 := Lib.hid (box_size w (.cells ⟨[.int .i64 2, .int .i64 n, .float .f64 f, .string s, vn, .slice A its.length c]⟩ 38))
      have HSE : Hid ((w.alloc (.cells ⟨[.int .i64 2, .int .i64 n, .float .f64 f, .string s, vn, .slice A its.length c]⟩ 38)).heap.size = w.heap.size + 1) := Lib.hid (by simp)
      generalize w.alloc (.cells ⟨[.int .i64 2, .int .i64 n, .float .f64 f, .string s, vn, .slice A its.length c]⟩ 38) = W1 at *
      have HB := Lib.hid (range_box W1 [.int .i64 2, .int .i64 n, .float .f64 f, .string s, vn, .slice A its.length c] 38)
      have HB2 := Lib.hid (box_below W1 (.cells ⟨[.int .i64 2, .int .i64 n, .float .f64 f, .string s, vn, .slice A its.length c]⟩ 38))
      have HS2 := Lib.hid (box_size W1 (.cells ⟨[.int .i64 2, .int .i64 n, .float .f64 f, .string s, vn, .slice A its.length c]⟩ 38))
      generalize W1.alloc (.cells ⟨[.int .i64 2, .int .i64 n, .float .f64 f, .string s, vn, .slice A its.length c]⟩ 38) = W at *
      have HAW := Lib.hid (rangeAt_below HA0.out HB2.out HS1.out)
      have HBW := Lib.hid (HB1.out.trans (HB2.out.mono HB1.out.size))
      have HLT := Lib.hid (Nat.lt_of_lt_of_le HS1.out HB2.out.size)
      rw [HSE.out] at HB HS2
      obtain ⟨pb, hpb⟩ : ∃ pb, w.heap.size + 1 = pb := ⟨_, rfl⟩
      rw [hpb] at HB HS2
      rw [hpb]
      clear HA0 HB1 HS1 HSE HB2 hpb
      have d0 : W.cell? ⟨w.heap.size, 0, none⟩ = some (.int .i64 2) := by have := HAW.out 0 _ rfl; simpa using this
      have d1 : W.cell? ⟨w.heap.size, 1, none⟩ = some (.int .i64 n) := by have := HAW.out 1 _ rfl; simpa using this
      have d2 : W.cell? ⟨w.heap.size, 2, none⟩ = some (.float .f64 f) := by have := HAW.out 2 _ rfl; simpa using this
      have d3 : W.cell? ⟨w.heap.size, 3, none⟩ = some (.string s) := by have := HAW.out 3 _ rfl; simpa using this
      have d4 : W.cell? ⟨w.heap.size, 4, none⟩ = some (vn) := by have := HAW.out 4 _ rfl; simpa using this
      have e0 : W.cell? ⟨pb, 0, none⟩ = some (.int .i64 2) := by have := HB.out 0 _ rfl; simpa using this
      have e1 : W.cell? ⟨pb, 1, none⟩ = some (.int .i64 n) := by have := HB.out 1 _ rfl; simpa using this
      have e2 : W.cell? ⟨pb, 2, none⟩ = some (.float .f64 f) := by have := HB.out 2 _ rfl; simpa using this
      have e3 : W.cell? ⟨pb, 3, none⟩ = some (.string s) := by have := HB.out 3 _ rfl; simpa using this
      have e4 : W.cell? ⟨pb, 4, none⟩ = some (vn) := by have := HB.out 4 _ rfl; simpa using this
      go_wp2_with (go_at_call 72; refine (sign_self _ _).mono ?_; rintro en z ⟨rfl, hzw⟩; obtain rfl := hzw.symm; clear hzw)
      go_ret
      exact ⟨rfl, HBW.out⟩
    by_cases k3 : k = 3
    · subst k3
      go_enter Tryz.func60, Tryz.ntmps60
      go_upto_region 1 with (fail)
      have HA0 := Lib.hid (range_box w [.int .i64 3, .int .i64 n, .float .f64 f, .string s, vn, .slice A its.length c] 38)
      have HB1 := Lib.hid (box_below w (.cells ⟨[.int .i64 3, .int .i64 n, .float .f64 f, .string s, vn, .slice A its.length c]⟩ 38))
      have HS1 := Lib.hid (box_size w (.cells ⟨[.int .i64 3, .int .i64 n, .float .f64 f, .string s, vn, .slice A its.length c]⟩ 38))
      have HSE : Hid ((w.alloc (.cells ⟨[.int .i64 3, .int .i64 n, .float .f64 f, .string s, vn, .slice A its.length c]⟩ 38)).heap.size = w.heap.size + 1) := Lib.hid (by simp)
      generalize w.alloc (.cells ⟨[.int .i64 3, .int .i64 n, .float .f64 f, .string s, vn, .slice A its.length c]⟩ 38) = W1 at *
      have HB := Lib.hid (range_box W1 [.int .i64 3, .int .i64 n, .float .f64 f, .string s, vn, .slice A its.length c] 38)
      have HB2 := Lib.hid (box_below W1 (.cells ⟨[.int .i64 3, .int .i64 n, .float .f64 f, .string s, vn, .slice A its.length c]⟩ 38))
      have HS2 := Lib.hid (box_size W1 (.cells ⟨[.int .i64 3, .int .i64 n, .float .f64 f, .string s, vn, .slice A its.length c]⟩ 38))
      generalize W1.alloc (.cells ⟨[.int .i64 3, .int .i64 n, .float .f64 f, .string s, vn, .slice A its.length c]⟩ 38) = W at *
      have HAW := Lib.hid (rangeAt_below HA0.out HB2.out HS1.out)
      have HBW := Lib.hid (HB1.out.trans (HB2.out.mono HB1.out.size))
      have HLT := Lib.hid (Nat.lt_of_lt_of_le HS1.out HB2.out.size)
      rw [HSE.out] at HB HS2
      obtain ⟨pb, hpb⟩ : ∃ pb, w.heap.size + 1 = pb := ⟨_, rfl⟩
      rw [hpb] at HB HS2
      rw [hpb]
      clear HA0 HB1 HS1 HSE HB2 hpb
      have d0 : W.cell? ⟨w.heap.size, 0, none⟩ = some (.int .i64 3) := by have := HAW.out 0 _ rfl; simpa using this
      have d1 : W.cell? ⟨w.heap.size, 1, none⟩ = some (.int .i64 n) := by have := HAW.out 1 _ rfl; simpa using this
      have d2 : W.cell? ⟨w.heap.size, 2, none⟩ = some (.float .f64 f) := by have := HAW.out 2 _ rfl; simpa using this
      have d3 : W.cell? ⟨w.heap.size, 3, none⟩ = some (.string s) := by have := HAW.out 3 _ rfl; simpa using this
      have d4 : W.cell? ⟨w.heap.size, 4, none⟩ = some (vn) := by have := HAW.out 4 _ rfl; simpa using this
      have e0 : W.cell? ⟨pb, 0, none⟩ = some (.int .i64 3) := by have := HB.out 0 _ rfl; simpa using this
      have e1 : W.cell? ⟨pb, 1, none⟩ = some (.int .i64 n) := by have := HB.out 1 _ rfl; simpa using this
      have e2 : W.cell? ⟨pb, 2, none⟩ = some (.float .f64 f) := by have := HB.out 2 _ rfl; simpa using this
      have e3 : W.cell? ⟨pb, 3, none⟩ = some (.string s) := by have := HB.out 3 _ rfl; simpa using this
      have e4 : W.cell? ⟨pb, 4, none⟩ = some (vn) := by have := HB.out 4 _ rfl; simpa using this
      go_wp2_with (go_at_call 73; refine (ford_self _ HF.out _).mono ?_; rintro en z ⟨rfl, hzw⟩; obtain rfl := hzw.symm; clear hzw)
      go_ret
      exact ⟨rfl, HBW.out⟩
    by_cases k4 : k = 4
    · subst k4
      go_enter Tryz.func60, Tryz.ntmps60
      go_upto_region 1 with (fail)
      have HA0 := Lib.hid (range_box w [.int .i64 4, .int .i64 n, .float .f64 f, .string s, vn, .slice A its.length c] 38)
      have HB1 := Lib.hid (box_below w (.cells ⟨[.int .i64 4, .int .i64 n, .float .f64 f, .string s, vn, .slice A its.length c]⟩ 38))
      have HS1 := Lib.hid (box_size w (.cells ⟨[.int .i64 4, .int .i64 n, .float .f64 f, .string s, vn, .slice A its.length c]⟩ 38))
      have HSE : Hid ((w.alloc (.cells ⟨[.int .i64 4, .int .i64 n, .float .f64 f, .string s, vn, .slice A its.length c]⟩ 38)).heap.size = w.heap.size + 1) := Lib.hid (by simp)
      generalize w.alloc (.cells ⟨[.int .i64 4, .int .i64 n, .float .f64 f, .string s, vn, .slice A its.length c]⟩ 38) = W1 at *
      have HB := Lib.hid (range_box W1 [.int .i64 4, .int .i64 n, .float .f64 f, .string s, vn, .slice A its.length c] 38)
      have HB2 := Lib.hid (box_below W1 (.cells ⟨[.int .i64 4, .int .i64 n, .float .f64 f, .string s, vn, .slice A its.length c]⟩ 38))
      have HS2 := Lib.hid (box_size W1 (.cells ⟨[.int .i64 4, .int .i64 n, .float .f64 f, .string s, vn, .slice A its.length c]⟩ 38))
      generalize W1.alloc (.cells ⟨[.int .i64 4, .int .i64 n, .float .f64 f, .string s, vn, .slice A its.length c]⟩ 38) = W at *
      have HAW := Lib.hid (rangeAt_below HA0.out HB2.out HS1.out)
      have HBW := Lib.hid (HB1.out.trans (HB2.out.mono HB1.out.size))
      have HLT := Lib.hid (Nat.lt_of_lt_of_le HS1.out HB2.out.size)
      rw [HSE.out] at HB HS2
      obtain ⟨pb, hpb⟩ : ∃ pb, w.heap.size + 1 = pb := ⟨_, rfl⟩
      rw [hpb] at HB HS2
      rw [hpb]
      clear HA0 HB1 HS1 HSE HB2 hpb
      have d0 : W.cell? ⟨w.heap.size, 0, none⟩ = some (.int .i64 4) := by have := HAW.out 0 _ rfl; simpa using this
      have d1 : W.cell? ⟨w.heap.size, 1, none⟩ = some (.int .i64 n) := by have := HAW.out 1 _ rfl; simpa using this
      have d2 : W.cell? ⟨w.heap.size, 2, none⟩ = some (.float .f64 f) := by have := HAW.out 2 _ rfl; simpa using this
      have d3 : W.cell? ⟨w.heap.size, 3, none⟩ = some (.string s) := by have := HAW.out 3 _ rfl; simpa using this
      have d4 : W.cell? ⟨w.heap.size, 4, none⟩ = some (vn) := by have := HAW.out 4 _ rfl; simpa using this
      have e0 : W.cell? ⟨pb, 0, none⟩ = some (.int .i64 4) := by have := HB.out 0 _ rfl; simpa using this
      have e1 : W.cell? ⟨pb, 1, none⟩ = some (.int .i64 n) := by have := HB.out 1 _ rfl; simpa using this
      have e2 : W.cell? ⟨pb, 2, none⟩ = some (.float .f64 f) := by have := HB.out 2 _ rfl; simpa using this
      have e3 : W.cell? ⟨pb, 3, none⟩ = some (.string s) := by have := HB.out 3 _ rfl; simpa using this
      have e4 : W.cell? ⟨pb, 4, none⟩ = some (vn) := by have := HB.out 4 _ rfl; simpa using this
      go_wp2_with (go_at_call 74; refine (text_self _ _).mono ?_; rintro en z ⟨rfl, hzw⟩; obtain rfl := hzw.symm; clear hzw)
      go_ret
      exact ⟨rfl, HBW.out⟩
    by_cases k5 : k = 5
    · subst k5
      go_enter Tryz.func60, Tryz.ntmps60
      go_upto_region 1 with (fail)
      have HA0 := Lib.hid (range_box w [.int .i64 5, .int .i64 n, .float .f64 f, .string s, vn, .slice A its.length c] 38)
      have HB1 := Lib.hid (box_below w (.cells ⟨[.int .i64 5, .int .i64 n, .float .f64 f, .string s, vn, .slice A its.length c]⟩ 38))
      have HS1 := Lib.hid (box_size w (.cells ⟨[.int .i64 5, .int .i64 n, .float .f64 f, .string s, vn, .slice A its.length c]⟩ 38))
      have HSE : Hid ((w.alloc (.cells ⟨[.int .i64 5, .int .i64 n, .float .f64 f, .string s, vn, .slice A its.length c]⟩ 38)).heap.size = w.heap.size + 1) := Lib.hid (by simp)
      generalize w.alloc (.cells ⟨[.int .i64 5, .int .i64 n, .float .f64 f, .string s, vn, .slice A its.length c]⟩ 38) = W1 at *
      have HB := Lib.hid (range_box W1 [.int .i64 5, .int .i64 n, .float .f64 f, .string s, vn, .slice A its.length c] 38)
      have HB2 := Lib.hid (box_below W1 (.cells ⟨[.int .i64 5, .int .i64 n, .float .f64 f, .string s, vn, .slice A its.length c]⟩ 38))
      have HS2 := Lib.hid (box_size W1 (.cells ⟨[.int .i64 5, .int .i64 n, .float .f64 f, .string s, vn, .slice A its.length c]⟩ 38))
      generalize W1.alloc (.cells ⟨[.int .i64 5, .int .i64 n, .float .f64 f, .string s, vn, .slice A its.length c]⟩ 38) = W at *
      have HAW := Lib.hid (rangeAt_below HA0.out HB2.out HS1.out)
      have HBW := Lib.hid (HB1.out.trans (HB2.out.mono HB1.out.size))
      have HLT := Lib.hid (Nat.lt_of_lt_of_le HS1.out HB2.out.size)
      rw [HSE.out] at HB HS2
      obtain ⟨pb, hpb⟩ : ∃ pb, w.heap.size + 1 = pb := ⟨_, rfl⟩
      rw [hpb] at HB HS2
      rw [hpb]
      clear HA0 HB1 HS1 HSE HB2 hpb
      have d0 : W.cell? ⟨w.heap.size, 0, none⟩ = some (.int .i64 5) := by have := HAW.out 0 _ rfl; simpa using this
      have d1 : W.cell? ⟨w.heap.size, 1, none⟩ = some (.int .i64 n) := by have := HAW.out 1 _ rfl; simpa using this
      have d2 : W.cell? ⟨w.heap.size, 2, none⟩ = some (.float .f64 f) := by have := HAW.out 2 _ rfl; simpa using this
      have d3 : W.cell? ⟨w.heap.size, 3, none⟩ = some (.string s) := by have := HAW.out 3 _ rfl; simpa using this
      have d4 : W.cell? ⟨w.heap.size, 4, none⟩ = some (vn) := by have := HAW.out 4 _ rfl; simpa using this
      have e0 : W.cell? ⟨pb, 0, none⟩ = some (.int .i64 5) := by have := HB.out 0 _ rfl; simpa using this
      have e1 : W.cell? ⟨pb, 1, none⟩ = some (.int .i64 n) := by have := HB.out 1 _ rfl; simpa using this
      have e2 : W.cell? ⟨pb, 2, none⟩ = some (.float .f64 f) := by have := HB.out 2 _ rfl; simpa using this
      have e3 : W.cell? ⟨pb, 3, none⟩ = some (.string s) := by have := HB.out 3 _ rfl; simpa using this
      have e4 : W.cell? ⟨pb, 4, none⟩ = some (vn) := by have := HB.out 4 _ rfl; simpa using this
      have D5 : Hid (W.cell? ⟨w.heap.size, 5, none⟩ = some (.slice A its.length c)) := Lib.hid (by have := HAW.out 5 _ rfl; simpa using this)
      have E5 : Hid (W.cell? ⟨pb, 5, none⟩ = some (.slice A its.length c)) := Lib.hid (by have := HB.out 5 _ rfl; simpa using this)
      go_wp2
      clear d0 d1 d2 d3 d4 e0 e1 e2 e3 e4
      go_loopg [5, 6] its.length (fun g x i u => ∃ j : Nat, j + g = its.length ∧ x = .int .i64 0 ∧ i = .int .i64 j ∧ Below W.heap.size W u)
      case atStart => exact ⟨0, by omega, rfl, rfl, Below.refl _ _⟩
      case round =>
        obtain ⟨j, hj, rfl, rfl, hb⟩ := hrel
        have HBK := Lib.hid hb
        have c5 := (hb.cell (p := ⟨w.heap.size, 5, none⟩) HLT.out).trans D5.out
        have g5 := (hb.cell (p := ⟨pb, 5, none⟩) HS2.out).trans E5.out
        clear hb
        cases gk with
        | zero =>
          obtain rfl : j = its.length := by omega
          have hge : ¬ ((its.length : Int) < (its.length : Int)) := by omega
          go_wp2_with (go_at_call 72; refine (sign_self _ _).mono ?_; rintro en z ⟨rfl, hzw⟩; obtain rfl := hzw.symm; clear hzw)
          go_ret
          exact ⟨rfl, HBW.out.trans (HBK.out.mono HBW.out.size)⟩
        | succ g =>
          have hlt : (j : Int) < (its.length : Int) := by omega
          obtain ⟨x, hx⟩ : ∃ x, its[j]? = some x := ⟨_, List.getElem?_eq_getElem (by omega)⟩
          obtain ⟨b, o', rfl, hbl, hc⟩ := HA.out (by omega)
          obtain ⟨ks, hks, hvx⟩ := hc j x hx
          have HKS := Lib.hid (rangeAt_below hks HBW.out hbl)
          have HKB := Lib.hid (Nat.lt_of_lt_of_le hbl HBW.out.size)
          have HKL := Lib.hid (val_lenS hvx)
          have HC := Lib.hid (fun (z : World) (hz : Below W.heap.size W z) => IH.out x (List.mem_of_getElem? hx) ks z (hvx.nextS (HBW.out.trans (hz.mono HBW.out.size))))
          clear hc hks hvx hx
          go_upto_region 21 with (fail)
          clear c5 g5
          refine wp_region_ord [(0, true), (1, true), (2, true), (3, true), (4, true), (5, true), (6, true), (7, true), (8, true), (9, true), (10, false), (11, true)]
            (fun z => Below W.heap.size W z) (by kernel_rfl) (by kernel_rfl) (by kernel_rfl) rfl (by intro c a d v w h; cases d <;> exact h) ?_
          have hs : Below W.heap.size W wr.drew := HBK.out.drew
          refine ord_load (some 91) (.pointer (some ⟨w.heap.size, 5, none⟩)) _ rfl rfl (by first | exact wanted_none rfl | exact wanted_if rfl rfl rfl rfl) hs (fun z hz => by go_simp) ?_
          go_frame
          refine ord_load (some 92) (.slice (some ⟨b, o', none⟩) its.length c) _ rfl rfl (by first | exact wanted_none rfl | exact wanted_if rfl rfl rfl rfl) hs (fun z hz => by have dd := (hz.cell (p := ⟨w.heap.size, 5, none⟩) HLT.out).trans D5.out; go_simp) ?_
          go_frame
          refine ord_move (some 93) (.int .i64 j) _ _ rfl rfl rfl (by first | exact wanted_none rfl | exact wanted_if rfl rfl rfl rfl) hs rfl ?_
          go_frame
          refine ord_load (some 94) (.pointer (some ⟨b, o' + j * 6, none⟩)) _ rfl rfl (by first | exact wanted_none rfl | exact wanted_if rfl rfl rfl rfl) hs (fun z hz => by go_simp) ?_
          go_frame
          refine ord_load (some 95) (.agg ⟨ks⟩) _ rfl rfl (by first | exact wanted_none rfl | exact wanted_if rfl rfl rfl rfl) hs (fun z hz => exec_sload 38 rfl b (o' + j * 6) ks _ rfl (rangeAt_below HKS.out hz HKB.out) Tryz.underlying38 rfl (by rw [HKL.out]; kernel_rfl)) ?_
          go_frame
          refine ord_load (some 96) (.pointer (some ⟨pb, 5, none⟩)) _ rfl rfl (by first | exact wanted_none rfl | exact wanted_if rfl rfl rfl rfl) hs (fun z hz => by go_simp) ?_
          go_frame
          refine ord_load (some 97) (.slice (some ⟨b, o', none⟩) its.length c) _ rfl rfl (by first | exact wanted_none rfl | exact wanted_if rfl rfl rfl rfl) hs (fun z hz => by have dd := (hz.cell (p := ⟨pb, 5, none⟩) HS2.out).trans E5.out; go_simp) ?_
          go_frame
          refine ord_move (some 98) (.int .i64 j) _ _ rfl rfl rfl (by first | exact wanted_none rfl | exact wanted_if rfl rfl rfl rfl) hs rfl ?_
          go_frame
          refine ord_load (some 99) (.pointer (some ⟨b, o' + j * 6, none⟩)) _ rfl rfl (by first | exact wanted_none rfl | exact wanted_if rfl rfl rfl rfl) hs (fun z hz => by go_simp) ?_
          go_frame
          refine ord_load (some 100) (.agg ⟨ks⟩) _ rfl rfl (by first | exact wanted_none rfl | exact wanted_if rfl rfl rfl rfl) hs (fun z hz => exec_sload 38 rfl b (o' + j * 6) ks _ rfl (rangeAt_below HKS.out hz HKB.out) Tryz.underlying38 rfl (by rw [HKL.out]; kernel_rfl)) ?_
          go_frame
          refine ord_to (some 101) 60 Tryz.func60 (by kernel_rfl) (by kernel_rfl) [.agg ⟨ks⟩, .agg ⟨ks⟩] _ _ _ rfl rfl rfl (by first | exact wanted_none rfl | exact wanted_if rfl rfl rfl rfl) rfl ?_
          refine (HC.out _ hs).mono ?_
          rintro en z1 ⟨rfl, hb1⟩
          have hs2 : Below W.heap.size W z1 := hs.trans (hb1.mono hs.size)
          refine ⟨.int .i64 0, rfl, hs2, ?_⟩
          clear hb1
          go_frame
          refine ord_assign (some 5) (.int .i64 0) _ _ rfl rfl rfl (by first | exact wanted_none rfl | exact wanted_if rfl rfl rfl rfl) hs2 rfl ?_
          go_frame
          refine ord_end ?_
          have HB3 := Lib.hid hs2
          clear hs hs2
          go_wp2
          go_roundg g
          case measure => omega
          case rel => exact ⟨j + 1, by omega, rfl, by go_num, HB3.out⟩
    by_cases k6 : k = 6
    · subst k6
      go_enter Tryz.func60, Tryz.ntmps60
      go_upto_region 1 with (fail)
      have HA0 := Lib.hid (range_box w [.int .i64 6, .int .i64 n, .float .f64 f, .string s, vn, .slice A its.length c] 38)
      have HB1 := Lib.hid (box_below w (.cells ⟨[.int .i64 6, .int .i64 n, .float .f64 f, .string s, vn, .slice A its.length c]⟩ 38))
      have HS1 := Lib.hid (box_size w (.cells ⟨[.int .i64 6, .int .i64 n, .float .f64 f, .string s, vn, .slice A its.length c]⟩ 38))
      have HSE : Hid ((w.alloc (.cells ⟨[.int .i64 6, .int .i64 n, .float .f64 f, .string s, vn, .slice A its.length c]⟩ 38)).heap.size = w.heap.size + 1) := Lib.hid (by simp)
      generalize w.alloc (.cells ⟨[.int .i64 6, .int .i64 n, .float .f64 f, .string s, vn, .slice A its.length c]⟩ 38) = W1 at *
      have HB := Lib.hid (range_box W1 [.int .i64 6, .int .i64 n, .float .f64 f, .string s, vn, .slice A its.length c] 38)
      have HB2 := Lib.hid (box_below W1 (.cells ⟨[.int .i64 6, .int .i64 n, .float .f64 f, .string s, vn, .slice A its.length c]⟩ 38))
      have HS2 := Lib.hid (box_size W1 (.cells ⟨[.int .i64 6, .int .i64 n, .float .f64 f, .string s, vn, .slice A its.length c]⟩ 38))
      generalize W1.alloc (.cells ⟨[.int .i64 6, .int .i64 n, .float .f64 f, .string s, vn, .slice A its.length c]⟩ 38) = W at *
      have HAW := Lib.hid (rangeAt_below HA0.out HB2.out HS1.out)
      have HBW := Lib.hid (HB1.out.trans (HB2.out.mono HB1.out.size))
      have HLT := Lib.hid (Nat.lt_of_lt_of_le HS1.out HB2.out.size)
      rw [HSE.out] at HB HS2
      obtain ⟨pb, hpb⟩ : ∃ pb, w.heap.size + 1 = pb := ⟨_, rfl⟩
      rw [hpb] at HB HS2
      rw [hpb]
      clear HA0 HB1 HS1 HSE HB2 hpb
      have d0 : W.cell? ⟨w.heap.size, 0, none⟩ = some (.int .i64 6) := by have := HAW.out 0 _ rfl; simpa using this
      have d1 : W.cell? ⟨w.heap.size, 1, none⟩ = some (.int .i64 n) := by have := HAW.out 1 _ rfl; simpa using this
      have d2 : W.cell? ⟨w.heap.size, 2, none⟩ = some (.float .f64 f) := by have := HAW.out 2 _ rfl; simpa using this
      have d3 : W.cell? ⟨w.heap.size, 3, none⟩ = some (.string s) := by have := HAW.out 3 _ rfl; simpa using this
      have d4 : W.cell? ⟨w.heap.size, 4, none⟩ = some (vn) := by have := HAW.out 4 _ rfl; simpa using this
      have e0 : W.cell? ⟨pb, 0, none⟩ = some (.int .i64 6) := by have := HB.out 0 _ rfl; simpa using this
      have e1 : W.cell? ⟨pb, 1, none⟩ = some (.int .i64 n) := by have := HB.out 1 _ rfl; simpa using this
      have e2 : W.cell? ⟨pb, 2, none⟩ = some (.float .f64 f) := by have := HB.out 2 _ rfl; simpa using this
      have e3 : W.cell? ⟨pb, 3, none⟩ = some (.string s) := by have := HB.out 3 _ rfl; simpa using this
      have e4 : W.cell? ⟨pb, 4, none⟩ = some (vn) := by have := HB.out 4 _ rfl; simpa using this
      have D5 : Hid (W.cell? ⟨w.heap.size, 5, none⟩ = some (.slice A its.length c)) := Lib.hid (by have := HAW.out 5 _ rfl; simpa using this)
      have E5 : Hid (W.cell? ⟨pb, 5, none⟩ = some (.slice A its.length c)) := Lib.hid (by have := HB.out 5 _ rfl; simpa using this)
      have HRW := Lib.hid (rows_self vn ns W ((HN.out.below HBW.out fun _ _ _ h => h).more HBW.out.size))
      go_wp2_with (go_at_call 75; refine HRW.out.mono ?_; rintro en z ⟨rfl, hzm⟩; have HB4 : Hid (Below W.heap.size W z) := Lib.hid (by obtain ⟨m, rfl⟩ := hzm; exact below_drewN (Below.refl _ _) _); clear hzm)
      clear d0 d1 d2 d3 d4 e0 e1 e2 e3 e4
      go_loopg [5, 6] its.length (fun g x i u => ∃ j : Nat, j + g = its.length ∧ x = .int .i64 0 ∧ i = .int .i64 j ∧ Below W.heap.size W u)
      case atStart => exact ⟨0, by omega, rfl, rfl, HB4.out⟩
      case round =>
        obtain ⟨j, hj, rfl, rfl, hb⟩ := hrel
        have HBK := Lib.hid hb
        have c5 := (hb.cell (p := ⟨w.heap.size, 5, none⟩) HLT.out).trans D5.out
        have g5 := (hb.cell (p := ⟨pb, 5, none⟩) HS2.out).trans E5.out
        clear hb
        cases gk with
        | zero =>
          obtain rfl : j = its.length := by omega
          have hge : ¬ ((its.length : Int) < (its.length : Int)) := by omega
          go_wp2_with (go_at_call 72; refine (sign_self _ _).mono ?_; rintro en z ⟨rfl, hzw⟩; obtain rfl := hzw.symm; clear hzw)
          go_ret
          exact ⟨rfl, HBW.out.trans (HBK.out.mono HBW.out.size)⟩
        | succ g =>
          have hlt : (j : Int) < (its.length : Int) := by omega
          obtain ⟨x, hx⟩ : ∃ x, its[j]? = some x := ⟨_, List.getElem?_eq_getElem (by omega)⟩
          obtain ⟨b, o', rfl, hbl, hc⟩ := HA.out (by omega)
          obtain ⟨ks, hks, hvx⟩ := hc j x hx
          have HKS := Lib.hid (rangeAt_below hks HBW.out hbl)
          have HKB := Lib.hid (Nat.lt_of_lt_of_le hbl HBW.out.size)
          have HKL := Lib.hid (val_lenS hvx)
          have HC := Lib.hid (fun (z : World) (hz : Below W.heap.size W z) => IH.out x (List.mem_of_getElem? hx) ks z (hvx.nextS (HBW.out.trans (hz.mono HBW.out.size))))
          clear hc hks hvx hx
          go_upto_region 21 with (fail)
          clear c5 g5
          refine wp_region_ord [(0, true), (1, true), (2, true), (3, true), (4, true), (5, true), (6, true), (7, true), (8, true), (9, true), (10, false), (11, true)]
            (fun z => Below W.heap.size W z) (by kernel_rfl) (by kernel_rfl) (by kernel_rfl) rfl (by intro c a d v w h; cases d <;> exact h) ?_
          have hs : Below W.heap.size W wr.drew := HBK.out.drew
          refine ord_load (some 91) (.pointer (some ⟨w.heap.size, 5, none⟩)) _ rfl rfl (by first | exact wanted_none rfl | exact wanted_if rfl rfl rfl rfl) hs (fun z hz => by go_simp) ?_
          go_frame
          refine ord_load (some 92) (.slice (some ⟨b, o', none⟩) its.length c) _ rfl rfl (by first | exact wanted_none rfl | exact wanted_if rfl rfl rfl rfl) hs (fun z hz => by have dd := (hz.cell (p := ⟨w.heap.size, 5, none⟩) HLT.out).trans D5.out; go_simp) ?_
          go_frame
          refine ord_move (some 93) (.int .i64 j) _ _ rfl rfl rfl (by first | exact wanted_none rfl | exact wanted_if rfl rfl rfl rfl) hs rfl ?_
          go_frame
          refine ord_load (some 94) (.pointer (some ⟨b, o' + j * 6, none⟩)) _ rfl rfl (by first | exact wanted_none rfl | exact wanted_if rfl rfl rfl rfl) hs (fun z hz => by go_simp) ?_
          go_frame
          refine ord_load (some 95) (.agg ⟨ks⟩) _ rfl rfl (by first | exact wanted_none rfl | exact wanted_if rfl rfl rfl rfl) hs (fun z hz => exec_sload 38 rfl b (o' + j * 6) ks _ rfl (rangeAt_below HKS.out hz HKB.out) Tryz.underlying38 rfl (by rw [HKL.out]; kernel_rfl)) ?_
          go_frame
          refine ord_load (some 96) (.pointer (some ⟨pb, 5, none⟩)) _ rfl rfl (by first | exact wanted_none rfl | exact wanted_if rfl rfl rfl rfl) hs (fun z hz => by go_simp) ?_
          go_frame
          refine ord_load (some 97) (.slice (some ⟨b, o', none⟩) its.length c) _ rfl rfl (by first | exact wanted_none rfl | exact wanted_if rfl rfl rfl rfl) hs (fun z hz => by have dd := (hz.cell (p := ⟨pb, 5, none⟩) HS2.out).trans E5.out; go_simp) ?_
          go_frame
          refine ord_move (some 98) (.int .i64 j) _ _ rfl rfl rfl (by first | exact wanted_none rfl | exact wanted_if rfl rfl rfl rfl) hs rfl ?_
          go_frame
          refine ord_load (some 99) (.pointer (some ⟨b, o' + j * 6, none⟩)) _ rfl rfl (by first | exact wanted_none rfl | exact wanted_if rfl rfl rfl rfl) hs (fun z hz => by go_simp) ?_
          go_frame
          refine ord_load (some 100) (.agg ⟨ks⟩) _ rfl rfl (by first | exact wanted_none rfl | exact wanted_if rfl rfl rfl rfl) hs (fun z hz => exec_sload 38 rfl b (o' + j * 6) ks _ rfl (rangeAt_below HKS.out hz HKB.out) Tryz.underlying38 rfl (by rw [HKL.out]; kernel_rfl)) ?_
          go_frame
          refine ord_to (some 101) 60 Tryz.func60 (by kernel_rfl) (by kernel_rfl) [.agg ⟨ks⟩, .agg ⟨ks⟩] _ _ _ rfl rfl rfl (by first | exact wanted_none rfl | exact wanted_if rfl rfl rfl rfl) rfl ?_
          refine (HC.out _ hs).mono ?_
          rintro en z1 ⟨rfl, hb1⟩
          have hs2 : Below W.heap.size W z1 := hs.trans (hb1.mono hs.size)
          refine ⟨.int .i64 0, rfl, hs2, ?_⟩
          clear hb1
          go_frame
          refine ord_assign (some 5) (.int .i64 0) _ _ rfl rfl rfl (by first | exact wanted_none rfl | exact wanted_if rfl rfl rfl rfl) hs2 rfl ?_
          go_frame
          refine ord_end ?_
          have HB3 := Lib.hid hs2
          clear hs hs2
          go_wp2
          go_roundg g
          case measure => omega
          case rel => exact ⟨j + 1, by omega, rfl, by go_num, HB3.out⟩
    have s1 : (k == 1) = false := by simpa using k1
    have t1 : (k != 1) = true := by simpa using k1
    have s2 : (k == 2) = false := by simpa using k2
    have t2 : (k != 2) = true := by simpa using k2
    have s3 : (k == 3) = false := by simpa using k3
    have t3 : (k != 3) = true := by simpa using k3
    have s4 : (k == 4) = false := by simpa using k4
    have t4 : (k != 4) = true := by simpa using k4
    have s5 : (k == 5) = false := by simpa using k5
    have t5 : (k != 5) = true := by simpa using k5
    have s6 : (k == 6) = false := by simpa using k6
    have t6 : (k != 6) = true := by simpa using k6
    clear k1 k2 k3 k4 k5 k6
    go_enter Tryz.func60, Tryz.ntmps60
    go_upto_region 1 with (fail)
    have HA0 := Lib.hid (range_box w [.int .i64 k, .int .i64 n, .float .f64 f, .string s, vn, .slice A its.length c] 38)
    have HB1 := Lib.hid (box_below w (.cells ⟨[.int .i64 k, .int .i64 n, .float .f64 f, .string s, vn, .slice A its.length c]⟩ 38))
    have HS1 := Lib.hid (box_size w (.cells ⟨[.int .i64 k, .int .i64 n, .float .f64 f, .string s, vn, .slice A its.length c]⟩ 38))
    have HSE : Hid ((w.alloc (.cells ⟨[.int .i64 k, .int .i64 n, .float .f64 f, .string s, vn, .slice A its.length c]⟩ 38)).heap.size = w.heap.size + 1) := Lib.hid (by simp)
    generalize w.alloc (.cells ⟨[.int .i64 k, .int .i64 n, .float .f64 f, .string s, vn, .slice A its.length c]⟩ 38) = W1 at *
    have HB := Lib.hid (range_box W1 [.int .i64 k, .int .i64 n, .float .f64 f, .string s, vn, .slice A its.length c] 38)
    have HB2 := Lib.hid (box_below W1 (.cells ⟨[.int .i64 k, .int .i64 n, .float .f64 f, .string s, vn, .slice A its.length c]⟩ 38))
    have HS2 := Lib.hid (box_size W1 (.cells ⟨[.int .i64 k, .int .i64 n, .float .f64 f, .string s, vn, .slice A its.length c]⟩ 38))
    generalize W1.alloc (.cells ⟨[.int .i64 k, .int .i64 n, .float .f64 f, .string s, vn, .slice A its.length c]⟩ 38) = W at *
    have HAW := Lib.hid (rangeAt_below HA0.out HB2.out HS1.out)
    have HBW := Lib.hid (HB1.out.trans (HB2.out.mono HB1.out.size))
    have HLT := Lib.hid (Nat.lt_of_lt_of_le HS1.out HB2.out.size)
    rw [HSE.out] at HB HS2
    obtain ⟨pb, hpb⟩ : ∃ pb, w.heap.size + 1 = pb := ⟨_, rfl⟩
    rw [hpb] at HB HS2
    rw [hpb]
    clear HA0 HB1 HS1 HSE HB2 hpb
    have d0 : W.cell? ⟨w.heap.size, 0, none⟩ = some (.int .i64 k) := by have := HAW.out 0 _ rfl; simpa using this
    have d1 : W.cell? ⟨w.heap.size, 1, none⟩ = some (.int .i64 n) := by have := HAW.out 1 _ rfl; simpa using this
    have d2 : W.cell? ⟨w.heap.size, 2, none⟩ = some (.float .f64 f) := by have := HAW.out 2 _ rfl; simpa using this
    have d3 : W.cell? ⟨w.heap.size, 3, none⟩ = some (.string s) := by have := HAW.out 3 _ rfl; simpa using this
    have d4 : W.cell? ⟨w.heap.size, 4, none⟩ = some (vn) := by have := HAW.out 4 _ rfl; simpa using this
    have e0 : W.cell? ⟨pb, 0, none⟩ = some (.int .i64 k) := by have := HB.out 0 _ rfl; simpa using this
    have e1 : W.cell? ⟨pb, 1, none⟩ = some (.int .i64 n) := by have := HB.out 1 _ rfl; simpa using this
    have e2 : W.cell? ⟨pb, 2, none⟩ = some (.float .f64 f) := by have := HB.out 2 _ rfl; simpa using this
    have e3 : W.cell? ⟨pb, 3, none⟩ = some (.string s) := by have := HB.out 3 _ rfl; simpa using this
    have e4 : W.cell? ⟨pb, 4, none⟩ = some (vn) := by have := HB.out 4 _ rfl; simpa using this
    have D5 : Hid (W.cell? ⟨w.heap.size, 5, none⟩ = some (.slice A its.length c)) := Lib.hid (by have := HAW.out 5 _ rfl; simpa using this)
    have E5 : Hid (W.cell? ⟨pb, 5, none⟩ = some (.slice A its.length c)) := Lib.hid (by have := HB.out 5 _ rfl; simpa using this)
    have HRW := Lib.hid (rows_self vn ns W ((HN.out.below HBW.out fun _ _ _ h => h).more HBW.out.size))
    go_wp2_with (first | (go_at_call 72; refine (sign_self _ _).mono ?_; rintro en z ⟨rfl, hzw⟩; obtain rfl := hzw.symm; clear hzw) | (go_at_call 74; refine (text_self _ _).mono ?_; rintro en z ⟨rfl, hzw⟩; obtain rfl := hzw.symm; clear hzw) | (go_at_call 75; refine HRW.out.mono ?_; rintro en z ⟨rfl, hzm⟩; have HB4 : Hid (Below W.heap.size W z) := Lib.hid (by obtain ⟨m, rfl⟩ := hzm; exact below_drewN (Below.refl _ _) _); clear hzm))
    clear d0 d1 d2 d3 d4 e0 e1 e2 e3 e4
    go_loopg [5, 6] its.length (fun g x i u => ∃ j : Nat, j + g = its.length ∧ x = .int .i64 0 ∧ i = .int .i64 j ∧ Below W.heap.size W u)
    case atStart => exact ⟨0, by omega, rfl, rfl, HB4.out⟩
    case round =>
      obtain ⟨j, hj, rfl, rfl, hb⟩ := hrel
      have HBK := Lib.hid hb
      have c5 := (hb.cell (p := ⟨w.heap.size, 5, none⟩) HLT.out).trans D5.out
      have g5 := (hb.cell (p := ⟨pb, 5, none⟩) HS2.out).trans E5.out
      clear hb
      cases gk with
      | zero =>
        obtain rfl : j = its.length := by omega
        have hge : ¬ ((its.length : Int) < (its.length : Int)) := by omega
        go_wp2_with (go_at_call 72; refine (sign_self _ _).mono ?_; rintro en z ⟨rfl, hzw⟩; obtain rfl := hzw.symm; clear hzw)
        go_ret
        exact ⟨rfl, HBW.out.trans (HBK.out.mono HBW.out.size)⟩
      | succ g =>
        have hlt : (j : Int) < (its.length : Int) := by omega
        obtain ⟨x, hx⟩ : ∃ x, its[j]? = some x := ⟨_, List.getElem?_eq_getElem (by omega)⟩
        obtain ⟨b, o', rfl, hbl, hc⟩ := HA.out (by omega)
        obtain ⟨ks, hks, hvx⟩ := hc j x hx
        have HKS := Lib.hid (rangeAt_below hks HBW.out hbl)
        have HKB := Lib.hid (Nat.lt_of_lt_of_le hbl HBW.out.size)
        have HKL := Lib.hid (val_lenS hvx)
        have HC := Lib.hid (fun (z : World) (hz : Below W.heap.size W z) => IH.out x (List.mem_of_getElem? hx) ks z (hvx.nextS (HBW.out.trans (hz.mono HBW.out.size))))
        clear hc hks hvx hx
        go_upto_region 21 with (fail)
        clear c5 g5
        refine wp_region_ord [(0, true), (1, true), (2, true), (3, true), (4, true), (5, true), (6, true), (7, true), (8, true), (9, true), (10, false), (11, true)]
          (fun z => Below W.heap.size W z) (by kernel_rfl) (by kernel_rfl) (by kernel_rfl) rfl (by intro c a d v w h; cases d <;> exact h) ?_
        have hs : Below W.heap.size W wr.drew := HBK.out.drew
        refine ord_load (some 91) (.pointer (some ⟨w.heap.size, 5, none⟩)) _ rfl rfl (by first | exact wanted_none rfl | exact wanted_if rfl rfl rfl rfl) hs (fun z hz => by go_simp) ?_
        go_frame
        refine ord_load (some 92) (.slice (some ⟨b, o', none⟩) its.length c) _ rfl rfl (by first | exact wanted_none rfl | exact wanted_if rfl rfl rfl rfl) hs (fun z hz => by have dd := (hz.cell (p := ⟨w.heap.size, 5, none⟩) HLT.out).trans D5.out; go_simp) ?_
        go_frame
        refine ord_move (some 93) (.int .i64 j) _ _ rfl rfl rfl (by first | exact wanted_none rfl | exact wanted_if rfl rfl rfl rfl) hs rfl ?_
        go_frame
        refine ord_load (some 94) (.pointer (some ⟨b, o' + j * 6, none⟩)) _ rfl rfl (by first | exact wanted_none rfl | exact wanted_if rfl rfl rfl rfl) hs (fun z hz => by go_simp) ?_
        go_frame
        refine ord_load (some 95) (.agg ⟨ks⟩) _ rfl rfl (by first | exact wanted_none rfl | exact wanted_if rfl rfl rfl rfl) hs (fun z hz => exec_sload 38 rfl b (o' + j * 6) ks _ rfl (rangeAt_below HKS.out hz HKB.out) Tryz.underlying38 rfl (by rw [HKL.out]; kernel_rfl)) ?_
        go_frame
        refine ord_load (some 96) (.pointer (some ⟨pb, 5, none⟩)) _ rfl rfl (by first | exact wanted_none rfl | exact wanted_if rfl rfl rfl rfl) hs (fun z hz => by go_simp) ?_
        go_frame
        refine ord_load (some 97) (.slice (some ⟨b, o', none⟩) its.length c) _ rfl rfl (by first | exact wanted_none rfl | exact wanted_if rfl rfl rfl rfl) hs (fun z hz => by have dd := (hz.cell (p := ⟨pb, 5, none⟩) HS2.out).trans E5.out; go_simp) ?_
        go_frame
        refine ord_move (some 98) (.int .i64 j) _ _ rfl rfl rfl (by first | exact wanted_none rfl | exact wanted_if rfl rfl rfl rfl) hs rfl ?_
        go_frame
        refine ord_load (some 99) (.pointer (some ⟨b, o' + j * 6, none⟩)) _ rfl rfl (by first | exact wanted_none rfl | exact wanted_if rfl rfl rfl rfl) hs (fun z hz => by go_simp) ?_
        go_frame
        refine ord_load (some 100) (.agg ⟨ks⟩) _ rfl rfl (by first | exact wanted_none rfl | exact wanted_if rfl rfl rfl rfl) hs (fun z hz => exec_sload 38 rfl b (o' + j * 6) ks _ rfl (rangeAt_below HKS.out hz HKB.out) Tryz.underlying38 rfl (by rw [HKL.out]; kernel_rfl)) ?_
        go_frame
        refine ord_to (some 101) 60 Tryz.func60 (by kernel_rfl) (by kernel_rfl) [.agg ⟨ks⟩, .agg ⟨ks⟩] _ _ _ rfl rfl rfl (by first | exact wanted_none rfl | exact wanted_if rfl rfl rfl rfl) rfl ?_
        refine (HC.out _ hs).mono ?_
        rintro en z1 ⟨rfl, hb1⟩
        have hs2 : Below W.heap.size W z1 := hs.trans (hb1.mono hs.size)
        refine ⟨.int .i64 0, rfl, hs2, ?_⟩
        clear hb1
        go_frame
        refine ord_assign (some 5) (.int .i64 0) _ _ rfl rfl rfl (by first | exact wanted_none rfl | exact wanted_if rfl rfl rfl rfl) hs2 rfl ?_
        go_frame
        refine ord_end ?_
        have HB3 := Lib.hid hs2
        clear hs hs2
        go_wp2
        go_roundg g
        case measure => omega
        case rel => exact ⟨j + 1, by omega, rfl, by go_num, HB3.out⟩
set_option maxHeartbeats 1000000 in
theorem rsame_self (x : VT) (cs : List Value) (w : World) (hv : ValAt w w.heap.size cs x) :
    Calls Tryz.prog 34 #[.agg ⟨cs⟩, .agg ⟨cs⟩] w fun en w' => en = .returned (.bool true) ∧ Below w.heap.size w w' := by
  have HL := Lib.hid (val_lenS hv)
  have HV := Lib.hid hv
  clear hv
  go_enter Tryz.func34, Tryz.ntmps34
  go_upto_region 1 with (fail)
  have HA0 := Lib.hid (range_box w cs 38)
  have HB1 := Lib.hid (box_below w (.cells ⟨cs⟩ 38))
  have HS1 := Lib.hid (box_size w (.cells ⟨cs⟩ 38))
  have HSE : Hid ((w.alloc (.cells ⟨cs⟩ 38)).heap.size = w.heap.size + 1) := Lib.hid (by simp)
  generalize w.alloc (.cells ⟨cs⟩ 38) = W1 at *
  have HB := Lib.hid (range_box W1 cs 38)
  have HB2 := Lib.hid (box_below W1 (.cells ⟨cs⟩ 38))
  have HS2 := Lib.hid (box_size W1 (.cells ⟨cs⟩ 38))
  generalize W1.alloc (.cells ⟨cs⟩ 38) = W at *
  have HAW := Lib.hid (rangeAt_below HA0.out HB2.out HS1.out)
  have HBW := Lib.hid (HB1.out.trans (HB2.out.mono HB1.out.size))
  have HLT := Lib.hid (Nat.lt_of_lt_of_le HS1.out HB2.out.size)
  rw [HSE.out] at HB HS2
  obtain ⟨pb, hpb⟩ : ∃ pb, w.heap.size + 1 = pb := ⟨_, rfl⟩
  rw [hpb] at HB HS2
  rw [hpb]
  clear HA0 HB1 HS1 HSE HB2 hpb
  have HC := Lib.hid (rorder_self x cs W (HV.out.nextS HBW.out))
  go_wp2_with (first | ((with_reducible refine wl_sload 38 _ rfl ?hwa w.heap.size 0 cs _ rfl HAW.out Tryz.underlying38 rfl ?hia ?_); (case hwa => (first | exact wanted_none rfl | exact wanted_if rfl rfl rfl rfl)); (case hia => rw [HL.out]; kernel_rfl)) | ((with_reducible refine wl_sload 38 _ rfl ?hwb pb 0 cs _ rfl HB.out Tryz.underlying38 rfl ?hib ?_); (case hwb => (first | exact wanted_none rfl | exact wanted_if rfl rfl rfl rfl)); (case hib => rw [HL.out]; kernel_rfl)) | (go_at_call 60; refine HC.out.mono ?_; rintro en z ⟨rfl, hbz⟩; have HB3 := Lib.hid hbz; clear hbz))
  go_ret
  exact ⟨rfl, HBW.out.trans (HB3.out.mono HBW.out.size)⟩
set_option maxHeartbeats 8000000 in
set_option maxRecDepth 100000 in
theorem esame_self : ∀ (x : ET) (cs : List Value) (w : World), ExpAt w w.heap.size cs x →
    Calls Tryz.prog 14 #[.agg ⟨cs⟩, .agg ⟨cs⟩] w fun en w' => en = .returned (.bool true) ∧ Below w.heap.size w w' := by
  intro x
  induction x using ET.ind with
  | h k s t ns its ih =>
    intro cs w hv
    have IH := Lib.hid ih
    obtain ⟨c0, c1, c2, c3, c4, c5, vn, vi, rfl, _, _, hvt, hn, _, hi⟩ := hv.inv
    obtain ⟨A, c, rfl, hil, hA⟩ := rows_atS hi
    obtain ⟨NA, nc, rfl, hnl, hN⟩ := strs_at hn
    have HVT := Lib.hid hvt
    have HN := Lib.hid hN
    have HA := Lib.hid hA
    have hnl2 : (ns.length : Int) ≤ 9223372036854775807 := by omega
    have hil2 : (its.length : Int) ≤ 9223372036854775807 := by omega
    clear ih hv hn hi hA hN hvt
    go_enter Tryz.func14, Tryz.ntmps14
    go_upto_region 1 with (fail)
    have HA0 := Lib.hid (range_box w [.int .i64 k, .string s, c0, c1, c2, c3, c4, c5, .slice NA ns.length nc, .slice A its.length c] 40)
    have HB1 := Lib.hid (box_below w (.cells ⟨[.int .i64 k, .string s, c0, c1, c2, c3, c4, c5, .slice NA ns.length nc, .slice A its.length c]⟩ 40))
    have HS1 := Lib.hid (box_size w (.cells ⟨[.int .i64 k, .string s, c0, c1, c2, c3, c4, c5, .slice NA ns.length nc, .slice A its.length c]⟩ 40))
    have HSE : Hid ((w.alloc (.cells ⟨[.int .i64 k, .string s, c0, c1, c2, c3, c4, c5, .slice NA ns.length nc, .slice A its.length c]⟩ 40)).heap.size = w.heap.size + 1) := Lib.hid (by simp)
    generalize w.alloc (.cells ⟨[.int .i64 k, .string s, c0, c1, c2, c3, c4, c5, .slice NA ns.length nc, .slice A its.length c]⟩ 40) = W1 at *
    have HB := Lib.hid (range_box W1 [.int .i64 k, .string s, c0, c1, c2, c3, c4, c5, .slice NA ns.length nc, .slice A its.length c] 40)
    have HB2 := Lib.hid (box_below W1 (.cells ⟨[.int .i64 k, .string s, c0, c1, c2, c3, c4, c5, .slice NA ns.length nc, .slice A its.length c]⟩ 40))
    have HS2 := Lib.hid (box_size W1 (.cells ⟨[.int .i64 k, .string s, c0, c1, c2, c3, c4, c5, .slice NA ns.length nc, .slice A its.length c]⟩ 40))
    generalize W1.alloc (.cells ⟨[.int .i64 k, .string s, c0, c1, c2, c3, c4, c5, .slice NA ns.length nc, .slice A its.length c]⟩ 40) = W at *
    have HAW := Lib.hid (rangeAt_below HA0.out HB2.out HS1.out)
    have HBW := Lib.hid (HB1.out.trans (HB2.out.mono HB1.out.size))
    have HLT := Lib.hid (Nat.lt_of_lt_of_le HS1.out HB2.out.size)
    rw [HSE.out] at HB HS2
    obtain ⟨pb, hpb⟩ : ∃ pb, w.heap.size + 1 = pb := ⟨_, rfl⟩
    rw [hpb] at HB HS2
    rw [hpb]
    clear HA0 HB1 HS1 HSE HB2 hpb
    have d0 : W.cell? ⟨w.heap.size, 0, none⟩ = some (.int .i64 k) := by have := HAW.out 0 _ rfl; simpa using this
    have d1 : W.cell? ⟨w.heap.size, 1, none⟩ = some (.string s) := by have := HAW.out 1 _ rfl; simpa using this
    have d8 : W.cell? ⟨w.heap.size, 8, none⟩ = some (.slice NA ns.length nc) := by have := HAW.out 8 _ rfl; simpa using this
    have d9 : W.cell? ⟨w.heap.size, 9, none⟩ = some (.slice A its.length c) := by have := HAW.out 9 _ rfl; simpa using this
    have e0 : W.cell? ⟨pb, 0, none⟩ = some (.int .i64 k) := by have := HB.out 0 _ rfl; simpa using this
    have e1 : W.cell? ⟨pb, 1, none⟩ = some (.string s) := by have := HB.out 1 _ rfl; simpa using this
    have e8 : W.cell? ⟨pb, 8, none⟩ = some (.slice NA ns.length nc) := by have := HB.out 8 _ rfl; simpa using this
    have e9 : W.cell? ⟨pb, 9, none⟩ = some (.slice A its.length c) := by have := HB.out 9 _ rfl; simpa using this
    have D8 := Lib.hid d8
    have D9 := Lib.hid d9
    have E8 := Lib.hid e8
    have E9 := Lib.hid e9
    have HVA : Hid (W.rangeAt w.heap.size 2 [c0, c1, c2, c3, c4, c5]) := Lib.hid (range_sub (p := [.int .i64 k, .string s]) (q := [.slice NA ns.length nc, .slice A its.length c]) HAW.out 2 rfl)
    have HVB : Hid (W.rangeAt pb 2 [c0, c1, c2, c3, c4, c5]) := Lib.hid (range_sub (p := [.int .i64 k, .string s]) (q := [.slice NA ns.length nc, .slice A its.length c]) HB.out 2 rfl)
    have HC := Lib.hid (rsame_self t [c0, c1, c2, c3, c4, c5] W (HVT.out.nextS HBW.out))
    have t3 : (s.toList == s.toList) = true := beq_self_eq_true _
    go_wp2_with (first | ((with_reducible refine wl_sload 38 _ rfl ?hwa w.heap.size 2 [c0, c1, c2, c3, c4, c5] _ rfl HVA.out Tryz.underlying38 rfl ?hia ?_); (case hwa => (first | exact wanted_none rfl | exact wanted_if rfl rfl rfl rfl)); (case hia => kernel_rfl)) | ((with_reducible refine wl_sload 38 _ rfl ?hwb pb 2 [c0, c1, c2, c3, c4, c5] _ rfl HVB.out Tryz.underlying38 rfl ?hib ?_); (case hwb => (first | exact wanted_none rfl | exact wanted_if rfl rfl rfl rfl)); (case hib => kernel_rfl)) | (go_at_call 34; refine HC.out.mono ?_; rintro en z ⟨rfl, hbz⟩; have HB4 := Lib.hid hbz; have d8' := (hbz.cell (p := ⟨w.heap.size, 8, none⟩) HLT.out).trans d8; have d9' := (hbz.cell (p := ⟨w.heap.size, 9, none⟩) HLT.out).trans d9; have e8' := (hbz.cell (p := ⟨pb, 8, none⟩) HS2.out).trans e8; have e9' := (hbz.cell (p := ⟨pb, 9, none⟩) HS2.out).trans e9; clear hbz))
    clear d0 d1 d8 d9 e0 e1 e8 e9 d8' d9' e8' e9' t3 HC
    go_loopg [5] ns.length (fun g i u => ∃ j : Nat, j + g = ns.length ∧ i = .int .i64 j ∧ Below W.heap.size W u)
    case atStart => exact ⟨0, by omega, rfl, HB4.out⟩
    case round =>
      obtain ⟨j, hj, rfl, hb⟩ := hrel
      have HBK := Lib.hid hb
      have c8 := (hb.cell (p := ⟨w.heap.size, 8, none⟩) HLT.out).trans D8.out
      have g8 := (hb.cell (p := ⟨pb, 8, none⟩) HS2.out).trans E8.out
      have c9 := (hb.cell (p := ⟨w.heap.size, 9, none⟩) HLT.out).trans D9.out
      clear hb
      cases gk with
      | succ g =>
        have hlt : (j : Int) < (ns.length : Int) := by omega
        obtain ⟨x, hx⟩ : ∃ x, ns[j]? = some x := ⟨_, List.getElem?_eq_getElem (by omega)⟩
        obtain ⟨b, o', rfl, hbl, hc⟩ := HN.out (by omega)
        have dx := ((HBW.out.trans (HBK.out.mono HBW.out.size)).cell (p := ⟨b, o' + j, none⟩) hbl).trans (hc j x hx)
        have tx : (x.toList == x.toList) = true := beq_self_eq_true _
        clear hc hx hbl c9
        go_upto_region 6 with (fail)
        go_quiet (fail)
        go_wp2
        go_roundg g
        case measure => omega
        case rel => exact ⟨j + 1, by omega, by go_num, below_drewN HBK.out _⟩
      | zero =>
        obtain rfl : j = ns.length := by omega
        have hge : ¬ ((ns.length : Int) < (ns.length : Int)) := by omega
        clear g8
        go_wp2
        clear c8 c9 hge hj
        have HBN := HBK
        clear HBK
        go_loopg [6] its.length (fun g i u => ∃ j : Nat, j + g = its.length ∧ i = .int .i64 j ∧ Below W.heap.size W u)
        case atStart => exact ⟨0, by omega, rfl, HBN.out⟩
        case round =>
          obtain ⟨j, hj, rfl, hb⟩ := hrel
          have HBK := Lib.hid hb
          have c9 := (hb.cell (p := ⟨w.heap.size, 9, none⟩) HLT.out).trans D9.out
          clear hb
          cases gk with
          | zero =>
            obtain rfl : j = its.length := by omega
            have hge : ¬ ((its.length : Int) < (its.length : Int)) := by omega
            go_wp2
            go_ret
            exact ⟨rfl, HBW.out.trans (HBK.out.mono HBW.out.size)⟩
          | succ g =>
            have hlt : (j : Int) < (its.length : Int) := by omega
            obtain ⟨x, hx⟩ : ∃ x, its[j]? = some x := ⟨_, List.getElem?_eq_getElem (by omega)⟩
            obtain ⟨b, o', rfl, hbl, hc⟩ := HA.out (by omega)
            obtain ⟨ks, hks, hvx⟩ := hc j x hx
            have HKS := Lib.hid (rangeAt_below hks HBW.out hbl)
            have HKB := Lib.hid (Nat.lt_of_lt_of_le hbl HBW.out.size)
            have HKL := Lib.hid (exp_lenS hvx)
            have HC := Lib.hid (fun (z : World) (hz : Below W.heap.size W z) => IH.out x (List.mem_of_getElem? hx) ks z (hvx.nextS (HBW.out.trans (hz.mono HBW.out.size))))
            clear hc hks hvx hx
            go_upto_region 11 with (fail)
            clear c9
            refine wp_region_ord [(0, true), (1, true), (2, true), (3, true), (4, true), (5, true), (6, true), (7, true), (8, true), (9, true), (10, false), (11, true)]
              (fun z => Below W.heap.size W z) (by kernel_rfl) (by kernel_rfl) (by kernel_rfl) rfl (by intro c a d v w h; cases d <;> exact h) ?_
            have hs : Below W.heap.size W wr.drew := HBK.out.drew
            refine ord_load (some 70) (.pointer (some ⟨w.heap.size, 9, none⟩)) _ rfl rfl (by first | exact wanted_none rfl | exact wanted_if rfl rfl rfl rfl) hs (fun z hz => by go_simp) ?_
            go_frame
            refine ord_load (some 71) (.slice (some ⟨b, o', none⟩) its.length c) _ rfl rfl (by first | exact wanted_none rfl | exact wanted_if rfl rfl rfl rfl) hs (fun z hz => by have dd := (hz.cell (p := ⟨w.heap.size, 9, none⟩) HLT.out).trans D9.out; go_simp) ?_
            go_frame
            refine ord_move (some 72) (.int .i64 j) _ _ rfl rfl rfl (by first | exact wanted_none rfl | exact wanted_if rfl rfl rfl rfl) hs rfl ?_
            go_frame
            refine ord_load (some 73) (.pointer (some ⟨b, o' + j * 10, none⟩)) _ rfl rfl (by first | exact wanted_none rfl | exact wanted_if rfl rfl rfl rfl) hs (fun z hz => by go_simp) ?_
            go_frame
            refine ord_load (some 74) (.agg ⟨ks⟩) _ rfl rfl (by first | exact wanted_none rfl | exact wanted_if rfl rfl rfl rfl) hs (fun z hz => exec_sload 40 rfl b (o' + j * 10) ks _ rfl (rangeAt_below HKS.out hz HKB.out) Tryz.underlying40 rfl (by rw [HKL.out]; kernel_rfl)) ?_
            go_frame
            refine ord_load (some 75) (.pointer (some ⟨pb, 9, none⟩)) _ rfl rfl (by first | exact wanted_none rfl | exact wanted_if rfl rfl rfl rfl) hs (fun z hz => by go_simp) ?_
            go_frame
            refine ord_load (some 76) (.slice (some ⟨b, o', none⟩) its.length c) _ rfl rfl (by first | exact wanted_none rfl | exact wanted_if rfl rfl rfl rfl) hs (fun z hz => by have dd := (hz.cell (p := ⟨pb, 9, none⟩) HS2.out).trans E9.out; go_simp) ?_
            go_frame
            refine ord_move (some 77) (.int .i64 j) _ _ rfl rfl rfl (by first | exact wanted_none rfl | exact wanted_if rfl rfl rfl rfl) hs rfl ?_
            go_frame
            refine ord_load (some 78) (.pointer (some ⟨b, o' + j * 10, none⟩)) _ rfl rfl (by first | exact wanted_none rfl | exact wanted_if rfl rfl rfl rfl) hs (fun z hz => by go_simp) ?_
            go_frame
            refine ord_load (some 79) (.agg ⟨ks⟩) _ rfl rfl (by first | exact wanted_none rfl | exact wanted_if rfl rfl rfl rfl) hs (fun z hz => exec_sload 40 rfl b (o' + j * 10) ks _ rfl (rangeAt_below HKS.out hz HKB.out) Tryz.underlying40 rfl (by rw [HKL.out]; kernel_rfl)) ?_
            go_frame
            refine ord_to (some 80) 14 Tryz.func14 (by kernel_rfl) (by kernel_rfl) [.agg ⟨ks⟩, .agg ⟨ks⟩] _ _ _ rfl rfl rfl (by first | exact wanted_none rfl | exact wanted_if rfl rfl rfl rfl) rfl ?_
            refine (HC.out _ hs).mono ?_
            rintro en z1 ⟨rfl, hb1⟩
            have hs2 : Below W.heap.size W z1 := hs.trans (hb1.mono hs.size)
            refine ⟨.bool true, rfl, hs2, ?_⟩
            clear hb1
            go_frame
            refine ord_load (some 81) (.bool false) _ rfl rfl (by first | exact wanted_none rfl | exact wanted_if rfl rfl rfl rfl) hs2 (fun z hz => by go_simp) ?_
            go_frame
            refine ord_end ?_
            have HB3 := Lib.hid hs2
            clear hs hs2
            go_wp2
            go_roundg g
            case measure => omega
            case rel => exact ⟨j + 1, by omega, by go_num, HB3.out⟩
end Go.Proofs.YtlfefikhmdbbfaaGreat
