/- strconv.FormatUint and Itoa at base 10; float.Text of any float. -/
import Derived.Test.YtieciegfloldhaaGreatDoorFrexp
import Derived.Test.YtieciegfloldhaaGreatDoorTextF
import Derived.Test.YtieciegfloldhaaGreatDoorTextV
import Derived.Test.YtieciegfloldhaaGreatDoorLib3
import Derived.Lib.ItoaMem
import Derived.Laws.BytesString
namespace Go.Proofs.YtieciegfloldhaaGreatDoor
open Go Go.RowKit Go.Sort Go.Lib
set_option linter.unusedVariables false
set_option linter.unusedSimpArgs false

def TabP (w : World) : Prop := Lib.TabIs Tryz.prog w "internal/strconv.uint64pow10" .u64 Lib.pow10Tab
theorem grow_below (w : World) (k : Nat) (os : Array Obj) : Below w.heap.size w (Sort.grow (w.drewN k) os) := by
  have h1 : Below w.heap.size w (w.drewN k) := ⟨rfl, rfl, rfl, Nat.le_refl _, fun _ _ => rfl⟩
  refine h1.trans ?_
  refine ⟨rfl, rfl, rfl, ?_, fun i hi => ?_⟩
  · show (w.drewN k).heap.size ≤ ((w.drewN k).heap ++ os).size
    rw [Array.size_append]; exact Nat.le_add_right _ _
  · show ((w.drewN k).heap ++ os)[i]? = (w.drewN k).heap[i]?
    exact Array.getElem?_append_left hi
theorem zeros_at0 (w : World) (T : TypeId) (nd : Nat) (hs : nd ≤ 24) : Holds (fun (b : UInt8) => Value.int .u8 (b.toNat : Int)) (w.alloc (.cells Lib.zeros24 T)) w.heap.size 0 (Array.replicate nd (0 : UInt8)) := fun j hj => by
  have hj' : j < nd := by simpa using hj
  refine ⟨?_, World.frozen?_alloc_new _ _ _ _⟩
  rw [World.cell?_alloc_new, Lib.zeros24_at _ (by omega), getElem!_pos _ j hj]
  simp
theorem fin_pos0 (w : World) (o : Obj) (dk : Array UInt8) (k : Nat) : ∃ os, (Sort.putRow (fun (b : UInt8) => Value.int .u8 (b.toNat : Int)) (w.alloc o) w.heap.size 0 dk).drewN k = Sort.grow (w.drewN k) os := by
  rw [alloc_eq_grow]
  obtain ⟨os', _, e⟩ := Sort.putRow_grow_new (fun (b : UInt8) => Value.int .u8 (b.toNat : Int)) w #[o] w.heap.size 0 dk (Nat.le_refl _)
  exact ⟨os', by rw [e]; rfl⟩
set_option maxHeartbeats 4000000 in
set_option maxRecDepth 100000 in
theorem formatUint_in (u : Nat) (hu1 : 1 ≤ u) (hu64 : u < 18446744073709551616) (w : World) (ht : TabP w) : Calls Tryz.prog 100 #[.int .u64 u, .int .i64 10] w fun e w' => e = .returned (.string ⟨(Lib.decDigits u).toArray⟩) ∧ Below w.heap.size w w' := by
  by_cases hs : u < 100
  · have HS := Lib.hid (fun w => Tryz.internal_strconv_small u hs w)
    have t1 : (u : Int) < 100 := by omega
    have t2 : IntKind.i64.wrap (u : Int) = u := by rw [IntKind.wrap_i64]; omega
    clear hs hu64 hu1 ht
    go_enter Tryz.func100, Tryz.ntmps100
    go_wp2_with (go_at_call 92; refine (HS.out _).mono ?_; rintro e z ⟨rfl, rfl⟩)
    go_ret
    exact ⟨rfl, Below.refl _ _⟩
  · have hnd20 : Lib.nDigits u ≤ 20 := by have := Lib.numDigits_eq u hu1 hu64; split at this <;> omega
    have hal : Tryz.prog.arrayLen 115 = 24 := by simp [Program.arrayLen, Tryz.underlying115]
    have hsl1 : ∀ W, (Instr.sliceAt 115 (.pointer (some ⟨w.heap.size, 0, none⟩)) none (some (.int .i64 (Lib.nDigits u : Int))) none).run Tryz.prog W = .ok (.slice (some ⟨w.heap.size, 0, none⟩) (Lib.nDigits u) 24) W := fun W => by
      rw [run_sliceAt_array_h W 115 ⟨w.heap.size, 0, none⟩ (by simp [Program.arrayLen, Program.elem, Tryz.underlying115]) .i64 (Lib.nDigits u : Int) (by omega) (by rw [hal]; omega)]
      go_simp
    have hH0 := zeros_at0 w 115 (Lib.nDigits u) (by omega)
    have hfmt := Tryz.internal_strconv_formatBase10 w.heap.size 0 24 u (Array.replicate (Lib.nDigits u) 0) (w.alloc (.cells Lib.zeros24 115)) hH0 (by rw [Array.size_replicate]; exact Lib.lt_pow_nDigits u) hu64 (by rw [Array.size_replicate]; omega)
    rw [Array.size_replicate] at hfmt
    have HH0 := Lib.hid hH0
    have HF := Lib.hid hfmt
    have HD := Lib.hid (Tryz.internal_strconv_numDigits u hu1 hu64 (w.alloc (.cells Lib.zeros24 115)) (Lib.tabIs_alloc ht _))
    have t1 : ¬ (u : Int) < 100 := by omega
    clear hH0 hal hfmt hs
    go_enter Tryz.func100, Tryz.ntmps100
    go_wp2_with (go_at_call 93; refine HD.out.mono ?_; rintro e w' ⟨rfl, rfl⟩)
    go_at_call 94
    refine HF.out.mono ?_
    rintro e w' ⟨rfl, k, v', dk, rfl, hF⟩
    have hcv : (convert 51 9 (.slice (some ⟨w.heap.size, 0, none⟩) (Lib.nDigits u) 24)).run Tryz.prog ((putRow (fun (b : UInt8) => Value.int .u8 (b.toNat : Int)) (w.alloc (.cells Lib.zeros24 115)) w.heap.size 0 dk).drewN k) = .ok (.string ⟨(Lib.decDigits u).toArray⟩) ((putRow (fun (b : UInt8) => Value.int .u8 (b.toNat : Int)) (w.alloc (.cells Lib.zeros24 115)) w.heap.size 0 dk).drewN k) := by
      have h := run_convert_bytes_back (P := Tryz.prog) ((putRow (fun (b : UInt8) => Value.int .u8 (b.toNat : Int)) (w.alloc (.cells Lib.zeros24 115)) w.heap.size 0 dk).drewN k) 51 9 5 ⟨w.heap.size, 0, none⟩ 24 (Lib.decDigits u) Tryz.underlying51 Tryz.underlying5 Tryz.underlying9 (fun j hj => by
        rw [Lib.row_is_numeral hF j hj, Lib.add_plain, World.cell?_drewN]
        exact cell?_putRow (fun (b : UInt8) => Value.int .u8 (b.toNat : Int)) _ w.heap.size 0 _ dk HH0.out (by rw [hF.size, Array.size_replicate]) j (by rw [hF.size]; rw [Lib.decDigits_length] at hj; exact hj))
      rw [Lib.decDigits_length] at h
      exact h
    go_wp2
    go_ret
    obtain ⟨os, eo⟩ := fin_pos0 w (.cells Lib.zeros24 115) dk k
    rw [eo]
    exact ⟨rfl, grow_below w k os⟩
set_option maxHeartbeats 1000000 in
set_option maxRecDepth 100000 in
theorem formatUint (u : Nat) (hu1 : 1 ≤ u) (hu64 : u < 18446744073709551616) (w : World) (ht : TabP w) : Calls Tryz.prog 82 #[.int .u64 u, .int .i64 10] w fun e w' => e = .returned (.string ⟨(Lib.decDigits u).toArray⟩) ∧ Below w.heap.size w w' := by
  have H := Lib.hid (formatUint_in u hu1 hu64 w ht)
  clear hu1 hu64 ht
  go_enter Tryz.func82, Tryz.ntmps82
  go_wp2_with (go_at_call 100; refine H.out.mono ?_; rintro e z ⟨rfl, hb⟩; have HB := Lib.hid hb; clear hb)
  go_ret
  exact ⟨rfl, HB.out⟩
set_option maxHeartbeats 1000000 in
set_option maxRecDepth 100000 in
theorem itoa_any (n : Int) (h0 : -9223372036854775808 ≤ n) (h1 : n ≤ 9223372036854775807) (w : World) (ht : TabP w) : Calls Tryz.prog 83 #[.int .i64 n] w fun e w' => e = .returned (.string ⟨(Lib.itoa n).toArray⟩) ∧ Below w.heap.size w w' := by
  have H := Lib.hid (Tryz.internal_strconv_Itoa n h0 h1 w ht)
  clear h0 h1 ht
  go_enter Tryz.func83, Tryz.ntmps83
  go_wp2_with (go_at_call 101; refine H.out.mono ?_; rintro e z ⟨rfl, k, os, hz⟩; have HZ := Lib.hid hz; clear hz)
  go_ret
  rw [HZ.out]
  exact ⟨rfl, grow_below w k os⟩
set_option maxHeartbeats 1000000 in
set_option maxRecDepth 100000 in
theorem formatInt_any (n : Int) (h0 : -9223372036854775808 ≤ n) (h1 : n ≤ 9223372036854775807) (w : World) (ht : TabP w) : Calls Tryz.prog 55 #[.int .i64 n, .int .i64 10] w fun e w' => e = .returned (.string ⟨(Lib.itoa n).toArray⟩) ∧ Below w.heap.size w w' := by
  have H := Lib.hid (Tryz.internal_strconv_FormatInt_10 n h0 h1 w ht)
  clear h0 h1 ht
  go_enter Tryz.func55, Tryz.ntmps55
  go_wp2_with (go_at_call 77; refine H.out.mono ?_; rintro e z ⟨rfl, k, os, hz⟩; have HZ := Lib.hid hz; clear hz)
  go_ret
  rw [HZ.out]
  exact ⟨rfl, grow_below w k os⟩
theorem TabP.next {w w' : World} (h : TabP w) (hb : Below w.heap.size w w') : TabP w' := by
  unfold TabP Lib.TabIs World.var? at *
  cases hg : Tryz.prog.globalNamed "internal/strconv.uint64pow10" with
  | none => simp [hg] at h
  | some g =>
    simp only [hg, Option.bind_some] at h ⊢
    have hlt : g < w.heap.size := by
      rcases Nat.lt_or_ge g w.heap.size with h' | h'
      · exact h'
      · rw [Array.getElem?_eq_none h'] at h; simp at h
    rw [hb.block g hlt]
    exact h
theorem conv_mant {m : Nat} (h0 : 4503599627370496 ≤ m) (h : m < 9007199254740992) : floatToIntVal .f64 (4836865999795912704 + m) .u64 = some ((m : Nat) : Int) := by
  obtain ⟨l, rfl⟩ : ∃ l, m = 4503599627370496 + l := ⟨m - 4503599627370496, by omega⟩
  rw [show 4836865999795912704 + (4503599627370496 + l) = 4841369599423283200 + l by omega]
  exact conv_f (by omega)
theorem sgn_text (f : Nat) (b : Bool) (h : decide (9223372036854775808 ≤ f) = b) : (if f < 9223372036854775808 then ([] : List UInt8) else [45]) = if b = true then [45] else [] := by
  subst h
  by_cases h : 9223372036854775808 ≤ f
  · rw [if_neg (by omega), if_pos (by simpa using h)]
  · rw [if_pos (by omega), if_neg (by simpa using h)]
theorem run_float_none (op : BinOp) (ho : op = .add ∨ op = .sub ∨ op = .mul ∨ op = .quo) (t : TypeId) (x y : Nat) (h : floatBits op .f64 x y = none) (w : World) :
    ∃ n, n < 2 ^ 64 ∧ 9218868437227405312 < n % 9223372036854775808 ∧ (binOp op t (.float .f64 x) (.float .f64 y)).run Tryz.prog w = .ok (.float .f64 n) w.drew := by
  refine ⟨Question.cut (.nanBits .f64 x y) (w.tape w.drawn (.nanBits .f64 x y)), ?_, ?_, ?_⟩
  · show (w.tape w.drawn (.nanBits .f64 x y)) % 2 * 2 ^ 63 + 0x7ff0000000000000 + 1 + ((w.tape w.drawn (.nanBits .f64 x y)) / 2) % (2 ^ 52 - 1) < 2 ^ 64
    omega
  · have h3 : (w.tape w.drawn (.nanBits .f64 x y)) / 2 % (2 ^ 52 - 1) < 2 ^ 52 - 1 := Nat.mod_lt _ (by decide)
    have h4 : (w.tape w.drawn (.nanBits .f64 x y)) % 2 < 2 := Nat.mod_lt _ (by decide)
    show 9218868437227405312 < ((w.tape w.drawn (.nanBits .f64 x y)) % 2 * 2 ^ 63 + 0x7ff0000000000000 + 1 + ((w.tape w.drawn (.nanBits .f64 x y)) / 2) % (2 ^ 52 - 1)) % 9223372036854775808
    generalize (w.tape w.drawn (.nanBits .f64 x y)) / 2 % (2 ^ 52 - 1) = c at *
    generalize (w.tape w.drawn (.nanBits .f64 x y)) % 2 = b at *
    have h5 : b = 0 ∨ b = 1 := by omega
    rcases h5 with rfl | rfl <;> omega
  · rcases ho with rfl | rfl | rfl | rfl <;> (unfold floatBits at h; simp only at h; simp [binOp, Op.floatArith, h, choose]; rfl)
theorem nan_order {n m : Nat} (hn : n < 2 ^ 64) (h : 9218868437227405312 < n % 9223372036854775808) : FloatKind.f64.format.order n m = none :=
  order_nan _ _ (.inl ((nanD_fin hn).2 h))
theorem fin_self {f : Nat} (hf : f < 2 ^ 64) (h : ¬ 9218868437227405312 < f % 9223372036854775808) : (FloatKind.f64.format.order f f != some .eq) = false := by
  have h1 : nanB f = false := by
    rw [nanB_eq, decide_eq_false]
    exact fun e => h ((nanD_fin hf).1 e)
  exact h1
theorem fin_zero {f : Nat} (hf : f < 2 ^ 64) (h : f % 9223372036854775808 ≠ 0) : (FloatKind.f64.format.order f 0 == some .eq) = false := by
  rw [Bool.eq_false_iff]
  intro e
  rcases zero_two hf e with h1 | h1 <;> omega
theorem cat_any (a b : List UInt8) (h : a.length + b.length ≤ 1000000) (W : World) : (Op.stringOp .add ⟨a.toArray⟩ ⟨b.toArray⟩).run Tryz.prog W = .ok (.string ⟨(a ++ b).toArray⟩) W := by
  have h1 : (Op.stringOp .add ⟨a.toArray⟩ ⟨b.toArray⟩).run Tryz.prog W = .ok (.string (⟨a.toArray⟩ ++ ⟨b.toArray⟩)) W := run_string_add_sum W _ _ (by simp [ByteArray.size]; omega)
  have h2 : (⟨a.toArray⟩ : ByteArray) ++ ⟨b.toArray⟩ = ⟨(a ++ b).toArray⟩ := by apply ByteArray.ext; simp [ByteArray.data_append]
  rw [h2] at h1
  exact h1
theorem str_cat (a b c : List UInt8) : (⟨a.toArray⟩ : ByteArray) ++ ⟨b.toArray⟩ ++ ⟨#[112]⟩ ++ ⟨c.toArray⟩ = ⟨(a ++ (b ++ (112 :: c))).toArray⟩ := by
  apply ByteArray.ext
  simp [ByteArray.data_append]
set_option maxHeartbeats 4000000 in
set_option maxRecDepth 100000 in
theorem ftext_any (f : Nat) (hf : f < 2 ^ 64) (w : World) (ht : TabP w) : Calls Tryz.prog 56 #[.float .f64 f] w fun e w' => e = .returned (.string ⟨(textF f).toArray⟩) ∧ Below w.heap.size w w' := by
  have HS := Lib.hid (fun w => sign_any f hf w)
  have hsg := fun b => sgn_text f b
  unfold textF
  by_cases hn : 9218868437227405312 < f % 9223372036854775808
  · rw [if_pos hn]
    have t1 : (FloatKind.f64.format.order f f != some .eq) = true := by rw [nan_order hf hn]; rfl
    clear ht hf hsg hn
    cases hb : decide (9223372036854775808 ≤ f) <;> rw [hb] at HS <;> clear hb <;> go_enter Tryz.func56, Tryz.ntmps56
    all_goals
      go_wp2_with (go_at_call 78; refine (HS.out _).mono ?_; rintro e z ⟨rfl, rfl⟩)
      go_ret
      exact ⟨rfl, Below.refl _ _⟩
  · rw [if_neg hn]
    have t1 := fin_self hf hn
    by_cases hi : f % 9223372036854775808 = 9218868437227405312
    · rw [if_pos hi]
      have hsub : floatBits .sub .f64 f f = none := by
        have hd : f = 9218868437227405312 ∨ f = 18442240474082181120 := by omega
        rcases hd with rfl | rfl <;> decide +kernel
      obtain ⟨n, n1, n2, n3⟩ := run_float_none .sub (.inr (.inl rfl)) 22 f f hsub w
      have t2 : (FloatKind.f64.format.order n 0 != some .eq) = true := by rw [nan_order n1 n2]; rfl
      have HW : Hid (Below w.heap.size w w.drew) := Lib.hid (Below.refl _ w).drew
      cases hb : decide (9223372036854775808 ≤ f) with
      | true =>
        rw [hsg _ hb]
        rw [hb] at HS
        clear ht hf hsg hn hb hi n1 n2 hsub
        go_enter Tryz.func56, Tryz.ntmps56
        go_wp2_with (go_at_call 78; refine (HS.out _).mono ?_; rintro e z ⟨rfl, rfl⟩)
        go_ret
        exact ⟨rfl, HW.out⟩
      | false =>
        rw [hsg _ hb]
        rw [hb] at HS
        clear ht hf hsg hn hb hi n1 n2 hsub
        go_enter Tryz.func56, Tryz.ntmps56
        go_wp2_with (go_at_call 78; refine (HS.out _).mono ?_; rintro e z ⟨rfl, rfl⟩)
        go_ret
        exact ⟨rfl, HW.out⟩
    · rw [if_neg hi]
      have hfin : f % 9223372036854775808 < 9218868437227405312 := by omega
      have hq : ∀ (t : TypeId) (w : World), (binOp .sub t (.float .f64 f) (.float .f64 f)).run Tryz.prog w = .ok (.float .f64 0) w := fun t w => run_float_arith w .sub t .f64 _ _ _ (sub_self_f hf hfin)
      have t2 : (FloatKind.f64.format.order 0 0 != some .eq) = false := by decide +kernel
      by_cases h0 : f % 9223372036854775808 = 0
      · have t3 : (FloatKind.f64.format.order f 0 == some .eq) = true := by
          have : f = 0 ∨ f = 9223372036854775808 := by omega
          rcases this with rfl | rfl <;> decide +kernel
        have hp : Lib.decDigits (partsF (f % 9223372036854775808)).1 ++ (112 :: Lib.itoa (partsF (f % 9223372036854775808)).2) = [48, 112, 48] := by
          rw [h0]
          show Lib.decDigits 0 ++ (112 :: Lib.itoa 0) = _
          rw [show Lib.itoa 0 = Lib.decDigits 0 from Lib.itoa_nonneg 0, Lib.decDigits_one (by decide)]
          decide
        rw [hp]
        cases hb : decide (9223372036854775808 ≤ f) <;> rw [hsg _ hb] <;> rw [hb] at HS <;> clear ht hf hsg hn hb hi hfin h0 hp <;> go_enter Tryz.func56, Tryz.ntmps56
        all_goals
          go_wp2_with (go_at_call 78; refine (HS.out _).mono ?_; rintro e z ⟨rfl, rfl⟩)
          go_ret
          exact ⟨rfl, Below.refl _ _⟩
      · have t3 := fin_zero hf h0
        have HA := Lib.hid (fun w => abs_any f hf w)
        generalize hr : f % 9223372036854775808 = r at *
        have HX := Lib.hid (fun w => frexp_top r (by omega) hfin w)
        have hm := mant_le (r := r) (by omega)
        have hp := pow_le (r := r) (by omega) hfin
        have HY := Lib.hid (fun w => ldexp_top (mantF r) hm.1 hm.2 w)
        have hcv : ∀ W : World, (convert 22 63 (.float .f64 (4836865999795912704 + mantF r))).run Tryz.prog W = .ok (.int .u64 ((mantF r : Nat) : Int)) W := fun W => run_convert_float_int W 22 63 .f64 .u64 _ _ (by kernel_rfl) Tryz.underlying63 (conv_mant hm.1 hm.2)
        have HRS := Lib.hid (RedAt.start (m := mantF r) (e := powF r) (by omega) (by omega))
        rw [← parts_eq (r := r) (by omega)] at HRS
        have hw1 : wrap64 (powF r + 53) = powF r + 53 := by unfold wrap64; omega
        have hw2 : wrap64 (powF r + 53 - 53) = powF r := by unfold wrap64; omega
        have hpl := parts_le (r := r) hfin
        have HPL := Lib.hid hpl
        generalize partsF r = t at *
        generalize powF r = p at *
        generalize mantF r = m at *
        cases hb : decide (9223372036854775808 ≤ f) with
        | true =>
          rw [hsg _ hb]
          rw [hb] at HS
          have HT := Lib.hid ht
          clear ht hsg hn hb hi h0 hr hm hpl hf
          go_enter Tryz.func56, Tryz.ntmps56
          go_wp2_with (first | (go_at_call 78; refine (HS.out _).mono ?_; rintro e z ⟨rfl, rfl⟩) | (go_at_call 80; refine (HA.out _).mono ?_; rintro e z ⟨rfl, rfl⟩) | (go_at_call 79; refine (HX.out _).mono ?_; rintro e z ⟨rfl, rfl⟩) | (go_at_call 81; refine (HY.out _).mono ?_; rintro e z ⟨rfl, rfl⟩))
          go_loopg [5, 6] m (fun q x y u => ∃ e : Int, x = .int .i64 e ∧ y = .int .u64 (q : Nat) ∧ RedAt t p q e ∧ u = z)
          case atStart => exact ⟨p, rfl, rfl, HRS.out, rfl⟩
          case round =>
            obtain ⟨e, rfl, rfl, hrd, rfl⟩ := hrel
            have HRD := Lib.hid hrd
            have hpw := hrd.pow
            have hw3 : wrap64 (e + 1) = e + 1 := by unfold wrap64; omega
            by_cases hodd : gk % 2 = 0
            · have t4 : (gk : Int) % 2 = 0 := by omega
              have HM : Hid (gk / 2 < gk) := Lib.hid (by omega)
              have HM2 : Hid (IntKind.u64.wrap ((gk : Int) / 2) = ((gk / 2 : Nat) : Int)) := Lib.hid (by rw [IntKind.wrap_u64]; omega)
              have HNX := Lib.hid (HRD.out.next hodd)
              clear hrd HRD hodd hpw
              go_wp2
              go_roundg (gk / 2)
              case measure => exact HM.out
              case rel => exact ⟨e + 1, congrArg (Value.int .i64) hw3, congrArg (Value.int .u64) HM2.out, HNX.out, rfl⟩
            · have t4 : ¬ (gk : Int) % 2 = 0 := by omega
              have HV : Hid (t = (gk, e)) := Lib.hid (HRD.out.stop hodd)
              have hdl := dec_len (n := gk) (by have := HPL.out; rw [HV.out] at this; omega)
              have hil := itoa_le (n := e) (by omega) (by omega)
              have c1 := cat_any [45] (Lib.decDigits gk) (by simp; omega)
              have c2 := cat_any ([45] ++ Lib.decDigits gk) [112] (by simp; omega)
              have c3 := cat_any ([45] ++ Lib.decDigits gk ++ [112]) (Lib.itoa e) (by simp; omega)
              have cE : Hid ((⟨([45] ++ Lib.decDigits gk ++ [112] ++ Lib.itoa e).toArray⟩ : ByteArray) = ⟨([45] ++ (Lib.decDigits gk ++ (112 :: Lib.itoa e))).toArray⟩) := Lib.hid (by simp)
              generalize (⟨([45] ++ Lib.decDigits gk).toArray⟩ : ByteArray) = S1 at *
              generalize (⟨([45] ++ Lib.decDigits gk ++ [112]).toArray⟩ : ByteArray) = S2 at *
              generalize (⟨([45] ++ Lib.decDigits gk ++ [112] ++ Lib.itoa e).toArray⟩ : ByteArray) = S3 at *
              clear hdl hil
              have HU := Lib.hid (formatUint gk (by omega) (by omega) wr HT.out)
              have HI := Lib.hid (fun z h => itoa_any e (by omega) (by omega) z h)
              clear hrd HRD hodd hpw
              go_wp2_with (first | (go_at_call 82; refine HU.out.mono ?_; rintro e z ⟨rfl, hb⟩; have HB1 := Lib.hid hb; have HT1 := Lib.hid (HT.out.next hb); clear hb) | (go_at_call 83; refine (HI.out _ HT1.out).mono ?_; rintro e z ⟨rfl, hb⟩; have HB2 := Lib.hid hb; clear hb))
              go_ret
              have hv := HV.out
              subst hv
              exact ⟨congrArg (fun s => Ending.returned (.string s)) cE.out, HB1.out.trans (HB2.out.mono HB1.out.size)⟩
        | false =>
          rw [hsg _ hb]
          rw [hb] at HS
          have HT := Lib.hid ht
          clear ht hsg hn hb hi h0 hr hm hpl hf
          go_enter Tryz.func56, Tryz.ntmps56
          go_wp2_with (first | (go_at_call 78; refine (HS.out _).mono ?_; rintro e z ⟨rfl, rfl⟩) | (go_at_call 80; refine (HA.out _).mono ?_; rintro e z ⟨rfl, rfl⟩) | (go_at_call 79; refine (HX.out _).mono ?_; rintro e z ⟨rfl, rfl⟩) | (go_at_call 81; refine (HY.out _).mono ?_; rintro e z ⟨rfl, rfl⟩))
          go_loopg [5, 6] m (fun q x y u => ∃ e : Int, x = .int .i64 e ∧ y = .int .u64 (q : Nat) ∧ RedAt t p q e ∧ u = z)
          case atStart => exact ⟨p, rfl, rfl, HRS.out, rfl⟩
          case round =>
            obtain ⟨e, rfl, rfl, hrd, rfl⟩ := hrel
            have HRD := Lib.hid hrd
            have hpw := hrd.pow
            have hw3 : wrap64 (e + 1) = e + 1 := by unfold wrap64; omega
            by_cases hodd : gk % 2 = 0
            · have t4 : (gk : Int) % 2 = 0 := by omega
              have HM : Hid (gk / 2 < gk) := Lib.hid (by omega)
              have HM2 : Hid (IntKind.u64.wrap ((gk : Int) / 2) = ((gk / 2 : Nat) : Int)) := Lib.hid (by rw [IntKind.wrap_u64]; omega)
              have HNX := Lib.hid (HRD.out.next hodd)
              clear hrd HRD hodd hpw
              go_wp2
              go_roundg (gk / 2)
              case measure => exact HM.out
              case rel => exact ⟨e + 1, congrArg (Value.int .i64) hw3, congrArg (Value.int .u64) HM2.out, HNX.out, rfl⟩
            · have t4 : ¬ (gk : Int) % 2 = 0 := by omega
              have HV : Hid (t = (gk, e)) := Lib.hid (HRD.out.stop hodd)
              have hdl := dec_len (n := gk) (by have := HPL.out; rw [HV.out] at this; omega)
              have hil := itoa_le (n := e) (by omega) (by omega)
              have c1 := cat_any [] (Lib.decDigits gk) (by simp; omega)
              have c2 := cat_any ([] ++ Lib.decDigits gk) [112] (by simp; omega)
              have c3 := cat_any ([] ++ Lib.decDigits gk ++ [112]) (Lib.itoa e) (by simp; omega)
              have cE : Hid ((⟨([] ++ Lib.decDigits gk ++ [112] ++ Lib.itoa e).toArray⟩ : ByteArray) = ⟨([] ++ (Lib.decDigits gk ++ (112 :: Lib.itoa e))).toArray⟩) := Lib.hid (by simp)
              generalize (⟨([] ++ Lib.decDigits gk).toArray⟩ : ByteArray) = S1 at *
              generalize (⟨([] ++ Lib.decDigits gk ++ [112]).toArray⟩ : ByteArray) = S2 at *
              generalize (⟨([] ++ Lib.decDigits gk ++ [112] ++ Lib.itoa e).toArray⟩ : ByteArray) = S3 at *
              clear hdl hil
              have HU := Lib.hid (formatUint gk (by omega) (by omega) wr HT.out)
              have HI := Lib.hid (fun z h => itoa_any e (by omega) (by omega) z h)
              clear hrd HRD hodd hpw
              go_wp2_with (first | (go_at_call 82; refine HU.out.mono ?_; rintro e z ⟨rfl, hb⟩; have HB1 := Lib.hid hb; have HT1 := Lib.hid (HT.out.next hb); clear hb) | (go_at_call 83; refine (HI.out _ HT1.out).mono ?_; rintro e z ⟨rfl, hb⟩; have HB2 := Lib.hid hb; clear hb))
              go_ret
              have hv := HV.out
              subst hv
              exact ⟨congrArg (fun s => Ending.returned (.string s)) cE.out, HB1.out.trans (HB2.out.mono HB1.out.size)⟩
end Go.Proofs.YtieciegfloldhaaGreatDoor
