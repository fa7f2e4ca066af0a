/- Parts of a proof: FText, RDig. -/
import Derived.Lib.ItoaMem
import Derived.Laws.BytesString
import Derived.Laws.BitsAllLaws
import Derived.Laws.Bits64b
import Derived.Test.YtppmkehdhpgdcaaGreatProg
import Derived.Test.YtppmkehdhpgdcaaGreatPackP20
import Derived.Test.YtppmkehdhpgdcaaGreatPackP25
import Derived.Test.YtppmkehdhpgdcaaGreatPackP28
import Derived.Test.YtppmkehdhpgdcaaGreatPackP34
import Derived.Test.YtppmkehdhpgdcaaGreatPackP35
import Derived.Test.YtppmkehdhpgdcaaGreatPackP36
section
namespace Go.Proofs.YtppmkehdhpgdcaaGreat
open Go Go.RowKit Go.Sort Go.Lib
set_option linter.unusedVariables false
set_option linter.unusedSimpArgs false
def TabP (w : World) : Prop := Lib.TabIs Tryz.prog w "internal/strconv.uint64pow10" .u64 Lib.pow10Tab
theorem TabP.next {w w' : World} (h : TabP w) (hb : Below w.heap.size w w') : TabP w' := by
  unfold TabP Lib.TabIs World.var? at *
  cases hg : Tryz.prog.globalNamed "internal/strconv.uint64pow10" with
  | none => simp [hg] at h
  | some g =>
    simp only [hg, Option.bind_some] at h ⊢
    have hlt : g < w.heap.size := by
      rcases Nat.lt_or_ge g w.heap.size with h' | h'
      · exact h'
      · rw [Array.getElem?_eq_none h'] at h; simp at h
    rw [hb.block g hlt]
    exact h
theorem sgn_text (f : Nat) (b : Bool) (h : decide (9223372036854775808 ≤ f) = b) : (if f < 9223372036854775808 then ([] : List UInt8) else [45]) = if b = true then [45] else [] := by
  subst h
  by_cases h : 9223372036854775808 ≤ f
  · rw [if_neg (by omega), if_pos (by simpa using h)]
  · rw [if_pos (by omega), if_neg (by simpa using h)]
theorem cat_any (a b : List UInt8) (h : a.length + b.length ≤ 1000000) (W : World) : (Op.stringOp .add ⟨a.toArray⟩ ⟨b.toArray⟩).run Tryz.prog W = .ok (.string ⟨(a ++ b).toArray⟩) W := by
  have h1 : (Op.stringOp .add ⟨a.toArray⟩ ⟨b.toArray⟩).run Tryz.prog W = .ok (.string (⟨a.toArray⟩ ++ ⟨b.toArray⟩)) W := run_string_add_sum W _ _ (by simp [ByteArray.size]; omega)
  have h2 : (⟨a.toArray⟩ : ByteArray) ++ ⟨b.toArray⟩ = ⟨(a ++ b).toArray⟩ := by apply ByteArray.ext; simp [ByteArray.data_append]
  rw [h2] at h1
  exact h1
end Go.Proofs.YtppmkehdhpgdcaaGreat
end
section
namespace Go.Proofs.YtppmkehdhpgdcaaGreat
open Go Go.RowKit
set_option linter.unusedVariables false
set_option linter.unusedSimpArgs false
def DigAt (R : List UInt8) (q : Nat) (T : List UInt8) : Prop := Lib.decDigits q ++ T = R
theorem DigAt.next {R : List UInt8} {q : Nat} {T : List UInt8} (h : DigAt R q T) (hq : ¬ q < 10) : DigAt R (q / 10) (UInt8.ofNat (48 + q % 10) :: T) := by
  unfold DigAt at *
  rw [dec_more hq] at h
  rw [← h]; simp
theorem DigAt.stop {R : List UInt8} {q : Nat} {T : List UInt8} (h : DigAt R q T) (hq : q < 10) : UInt8.ofNat (48 + q % 10) :: T = R := by
  unfold DigAt at h
  rw [Lib.decDigits_one hq] at h
  rw [← h, Nat.mod_eq_of_lt hq]; rfl
theorem DigAt.len {R : List UInt8} {q : Nat} {T : List UInt8} (h : DigAt R q T) : T.length ≤ R.length := by
  unfold DigAt at h
  rw [← h, List.length_append]; omega
theorem dig_val (q : Nat) : ((UInt8.ofNat (48 + q % 10)).toNat : Int) = 48 + ((q % 10 : Nat) : Int) := by
  rw [UInt8.toNat_ofNat']
  omega
set_option maxHeartbeats 4000000 in
set_option maxRecDepth 100000 in
theorem digits_any (n : Nat) (hn : n < 18446744073709551616) (hl : (Lib.decDigits n).length ≤ 100) (w : World) : Calls Tryz.prog 106 #[.int .u64 n] w fun e w' => e = .returned (.string ⟨(Lib.decDigits n).toArray⟩) ∧ Below w.heap.size w w' := by
  have H0 : Hid (DigAt (Lib.decDigits n) n []) := Lib.hid (List.append_nil _)
  generalize Lib.decDigits n = R at *
  have HL := Lib.hid hl
  have HN := Lib.hid hn
  clear hl hn
  go_enter Tryz.func106, Tryz.ntmps106
  go_wp2
  go_loopg [0, 3] n (fun q x y u => q ≤ n ∧ x = .int .u64 (q : Nat) ∧ ∃ T : List UInt8, y = .string ⟨T.toArray⟩ ∧ DigAt R q T ∧ Below w.heap.size w u)
  case atStart => exact ⟨Nat.le_refl _, rfl, [], rfl, H0.out, Below.refl _ _⟩
  case round =>
    obtain ⟨hq, rfl, T, rfl, hd, hb⟩ := hrel
    have HD := Lib.hid hd
    have HB := Lib.hid hb
    have HQ := Lib.hid hq
    clear hd hb hq
    have hlen : T.length ≤ 100 := Nat.le_trans HD.out.len HL.out
    have hcv : (convert 174 9 (.slice (some ⟨wr.heap.size, 0, none⟩) 1 1)).run Tryz.prog (wr.alloc (.cells #[.int .u8 (48 + (gk : Int) % 10)] 5)) = .ok (.string ⟨[UInt8.ofNat (48 + gk % 10)].toArray⟩) (wr.alloc (.cells #[.int .u8 (48 + (gk : Int) % 10)] 5)) :=
      run_convert_bytes_back (P := Tryz.prog) _ 174 9 5 ⟨wr.heap.size, 0, none⟩ 1 [UInt8.ofNat (48 + gk % 10)] Tryz.underlying174 Tryz.underlying5 Tryz.underlying9 (fun j hj => by
        obtain rfl : j = 0 := by simpa using hj
        have h1 := dig_val gk
        have h2 : (48 + (gk : Int) % 10) = 48 + ((gk % 10 : Nat) : Int) := by omega
        show World.cell? _ _ = some (.int .u8 ((UInt8.ofNat (48 + gk % 10)).toNat : Int))
        rw [h1, h2, Lib.add_plain, cell_of_row _ wr.heap.size 0 _ _ _ (heap_alloc_new wr _)]
        rfl)
    have c1 := cat_any [UInt8.ofNat (48 + gk % 10)] T (by simp; omega)
    have HW : Hid (Below w.heap.size w (wr.alloc (.cells #[.int .u8 (48 + (gk : Int) % 10)] 5))) := Lib.hid (HB.out.alloc HB.out.size _)
    have HX : Hid (IntKind.u64.wrap ((gk : Int) / 10) = ((gk / 10 : Nat) : Int)) := Lib.hid (by rw [IntKind.wrap_u64]; have := HQ.out; have := HN.out; omega)
    by_cases h10 : gk < 10
    · have HE : Hid (UInt8.ofNat (48 + gk % 10) :: T = R) := Lib.hid (HD.out.stop h10)
      have t1 : IntKind.u64.wrap ((gk : Int) / 10) = 0 := by rw [HX.out]; omega
      have t2 : (gk : Int) / 10 = 0 := by omega
      have HS : Hid ((⟨([UInt8.ofNat (48 + gk % 10)] ++ T).toArray⟩ : ByteArray) = ⟨R.toArray⟩) := Lib.hid (by rw [← HE.out]; rfl)
      clear h10 hlen HE
      generalize (⟨([UInt8.ofNat (48 + gk % 10)] ++ T).toArray⟩ : ByteArray) = S at *
      generalize UInt8.ofNat (48 + gk % 10) = c at *
      go_wp2
      (try simp only [Exit.inBlock, Exit.then])
      go_ret
      exact ⟨by rw [← HS.out]; rfl, HW.out⟩
    · have HE := Lib.hid (HD.out.next h10)
      have HM : Hid (gk / 10 < gk ∧ gk / 10 ≤ n) := Lib.hid (by have := HQ.out; omega)
      have t1 : ¬ (IntKind.u64.wrap ((gk : Int) / 10) = 0) := by rw [HX.out]; omega
      have t2 : ¬ ((gk : Int) / 10 = 0) := by omega
      have HS : Hid ((⟨([UInt8.ofNat (48 + gk % 10)] ++ T).toArray⟩ : ByteArray) = ⟨(UInt8.ofNat (48 + gk % 10) :: T).toArray⟩) := Lib.hid rfl
      have t3 : (IntKind.u64.wrap ((gk : Int) / 10) == 0) = false := by rw [beq_eq_false_iff_ne]; exact t1
      clear h10 hlen t1 t2
      generalize (⟨([UInt8.ofNat (48 + gk % 10)] ++ T).toArray⟩ : ByteArray) = S at *
      generalize UInt8.ofNat (48 + gk % 10) = c at *
      go_wp2
      go_roundg (gk / 10)
      case measure => exact HM.out.1
      case rel => exact ⟨HM.out.2, congrArg (Value.int .u64) HX.out, _, congrArg Value.string HS.out, HE.out, HW.out⟩
set_option maxHeartbeats 1000000 in
set_option maxRecDepth 100000 in
theorem minus_any (f : Nat) (w : World) : Calls Tryz.prog 104 #[.float .f64 f] w fun e w' => e = .returned (.bool (decide (9223372036854775808 ≤ f))) ∧ w' = w := by
  have e1 : ∀ W : World, (callFunc 103 #[.float .f64 f]).run Tryz.prog W = .ok (.value (.int .u64 f)) W := fun W => by
    rw [run_callFunc_extern Tryz.func103 (by kernel_rfl) (by kernel_rfl) (by kernel_rfl) (e := Extern.MathFloatBits.float64bits) (by kernel_rfl)]
    rfl
  have hw : decide ((9223372036854775808 : Int) ≤ (f : Int)) = decide (9223372036854775808 ≤ f) := by
    by_cases h : 9223372036854775808 ≤ f
    · rw [decide_eq_true h, decide_eq_true (by omega)]
    · rw [decide_eq_false h, decide_eq_false (by omega)]
  rw [← hw]
  clear hw
  go_enter Tryz.func104, Tryz.ntmps104
  go_wp2
  go_ret
  exact ⟨rfl, rfl⟩
theorem nanR_eq {f : Nat} (hf : f < 2 ^ 64) : nanR f = decide (9218868437227405312 < f % 9223372036854775808) := by
  unfold nanR
  rw [IntKind.wrap_u64]
  by_cases h : 9218868437227405312 < f % 9223372036854775808
  · rw [decide_eq_true h, decide_eq_true (by omega)]
  · rw [decide_eq_false h, decide_eq_false (by omega)]
set_option maxHeartbeats 4000000 in
set_option maxRecDepth 100000 in
theorem rparts_f (f : Nat) (hf : f < 2 ^ 64) (hfin : f % 9223372036854775808 < 9218868437227405312) (w : World) : Calls Tryz.prog 105 #[.float .f64 f] w fun e w' =>
    e = .returned (.tuple #[.int .u64 ((partsF (f % 9223372036854775808)).1 : Nat), .int .i64 (partsF (f % 9223372036854775808)).2]) ∧ w' = w := by
  have e1 : ∀ W : World, (callFunc 103 #[.float .f64 f]).run Tryz.prog W = .ok (.value (.int .u64 f)) W := fun W => by
    rw [run_callFunc_extern Tryz.func103 (by kernel_rfl) (by kernel_rfl) (by kernel_rfl) (e := Extern.MathFloatBits.float64bits) (by kernel_rfl)]
    rfl
  have a1 : IntKind.u64.wrap ((f : Int) * 4096) / 4096 = ((f % 4503599627370496 : Nat) : Int) := by rw [IntKind.wrap_u64]; omega
  have a2 : IntKind.u64.wrap ((f : Int) * 2) / 9007199254740992 = ((f % 9223372036854775808 / 4503599627370496 : Nat) : Int) := by rw [IntKind.wrap_u64]; omega
  obtain ⟨r, hr⟩ : ∃ r, f % 9223372036854775808 = r := ⟨_, rfl⟩
  have h52 : f % 4503599627370496 = r % 4503599627370496 := by omega
  rw [hr] at a2 hfin ⊢
  rw [h52] at a1
  have hk : r / 4503599627370496 < 2048 := by omega
  obtain ⟨X1, hX1⟩ : ∃ X1 : Int, X1 = IntKind.u64.wrap ((f : Int) * 4096) := ⟨_, rfl⟩
  obtain ⟨X2, hX2⟩ : ∃ X2 : Int, X2 = IntKind.u64.wrap ((f : Int) * 2) := ⟨_, rfl⟩
  rw [← hX1] at a1
  rw [← hX2] at a2
  have b1 := hX1.symm
  have b2 := hX2.symm
  clear hX1 hX2 hf h52 hr
  by_cases hl : r < 4503599627370496
  · have k0 : r / 4503599627370496 = 0 := by omega
    have m0 : r % 4503599627370496 = r := by omega
    rw [k0] at a2
    rw [m0] at a1
    clear hk hfin k0 m0
    have a2' : X2 / 9007199254740992 = 0 := a2
    by_cases h0 : r = 0
    · subst h0
      have a1' : X1 / 4096 = 0 := a1
      clear a1 a2
      go_enter Tryz.func105, Tryz.ntmps105
      go_wp2
      go_ret2
      exact ⟨rfl, rfl⟩
    · have HP : Hid (partsF r = redF 64 r (-1074)) := Lib.hid (by unfold partsF; rw [if_neg h0, (mag_low hl).1, (mag_low hl).2])
      have HRS := Lib.hid (RedAt.start (m := r) (e := -1074) (by omega) (by omega))
      rw [← HP.out] at HRS
      clear HP
      have t0 : ¬ ((r : Int) = 0) := by omega
      have t1 : ((r : Int) == 0) = false := by rw [beq_eq_false_iff_ne]; exact t0
      generalize partsF r = t at *
      clear a2 h0 hl
      go_enter Tryz.func105, Tryz.ntmps105
      go_wp2
      go_loopg [5, 6] (r) (fun q x y u => ∃ e : Int, x = .int .u64 (q : Nat) ∧ y = .int .i64 e ∧ RedAt t (-1074) q e ∧ u = w)
      case atStart => exact ⟨-1074, rfl, rfl, HRS.out, rfl⟩
      case round =>
        obtain ⟨e, rfl, rfl, hrd, rfl⟩ := hrel
        have HRD := Lib.hid hrd
        have hpw := hrd.pow
        have HW3 : Hid (wrap64 (e + 1) = e + 1) := Lib.hid (by unfold wrap64; omega)
        by_cases hodd : gk % 2 = 0
        · have t4 : (gk : Int) % 2 = 0 := by omega
          have HM : Hid (gk / 2 < gk) := Lib.hid (by omega)
          have HM2 : Hid (IntKind.u64.wrap ((gk : Int) / 2) = ((gk / 2 : Nat) : Int)) := Lib.hid (by rw [IntKind.wrap_u64]; omega)
          have HNX := Lib.hid (HRD.out.next hodd)
          clear hrd HRD hodd hpw
          go_wp2
          go_roundg (gk / 2)
          case measure => exact HM.out
          case rel => exact ⟨e + 1, congrArg (Value.int .u64) HM2.out, congrArg (Value.int .i64) HW3.out, HNX.out, rfl⟩
        · have t4 : ¬ (gk : Int) % 2 = 0 := by omega
          have HV : Hid (t = (gk, e)) := Lib.hid (HRD.out.stop hodd)
          clear hrd HRD hodd hpw
          go_wp2
          go_ret2
          have hv := HV.out
          subst hv
          exact ⟨rfl, rfl⟩
  · obtain ⟨k, hk2⟩ : ∃ k : Int, k = ((r / 4503599627370496 : Nat) : Int) := ⟨_, rfl⟩
    have hp : partsF r = redF 64 (4503599627370496 + r % 4503599627370496) (k - 1075) := by
      unfold partsF
      rw [if_neg (by omega), (mag_high (by omega)).1, (mag_high (by omega)).2]
      congr 1; omega
    have HRS := Lib.hid (RedAt.start (m := 4503599627370496 + r % 4503599627370496) (e := k - 1075) (by omega) (by omega))
    rw [← hp] at HRS
    rw [← hk2] at a2
    have hk3 : 1 ≤ k ∧ k < 2048 := by omega
    obtain ⟨m, hm⟩ : ∃ m, m = r % 4503599627370496 := ⟨_, rfl⟩
    rw [← hm] at a1 HRS
    obtain ⟨E, hE⟩ : ∃ E : Int, E = k - 1075 := ⟨_, rfl⟩
    rw [← hE] at HRS
    have HEB : Hid (-1075 ≤ E ∧ E ≤ 973) := Lib.hid (by omega)
    have c1 : wrap64 k = k := by unfold wrap64; omega
    have c2 : wrap64 (k - 1075) = E := by unfold wrap64; omega
    have c3 : IntKind.u64.wrap ((m : Int) + 4503599627370496) = ((4503599627370496 + m : Nat) : Int) := by rw [IntKind.wrap_u64]; omega
    have t1 : (E == -1075) = false := by rw [beq_eq_false_iff_ne]; omega
    have t2 : (((4503599627370496 + m : Nat) : Int) == 0) = false := by rw [beq_eq_false_iff_ne]; omega
    generalize 4503599627370496 + m = M at *
    generalize partsF r = t at *
    clear hp hk2 hm hl hk hfin hk3 hE
    go_enter Tryz.func105, Tryz.ntmps105
    go_wp2
    go_loopg [5, 6] (M) (fun q x y u => ∃ e : Int, x = .int .u64 (q : Nat) ∧ y = .int .i64 e ∧ RedAt t (E) q e ∧ u = w)
    case atStart => exact ⟨E, rfl, congrArg (Value.int .i64) c2, HRS.out, rfl⟩
    case round =>
      clear c1 c2 c3 t1 t2 a1 a2 b1 b2
      obtain ⟨e, rfl, rfl, hrd, rfl⟩ := hrel
      have HRD := Lib.hid hrd
      have hpw := hrd.pow
      have heb := HEB.out
      have HW3 : Hid (wrap64 (e + 1) = e + 1) := Lib.hid (by unfold wrap64; omega)
      by_cases hodd : gk % 2 = 0
      · have t4 : (gk : Int) % 2 = 0 := by omega
        have HM : Hid (gk / 2 < gk) := Lib.hid (by omega)
        have HM2 : Hid (IntKind.u64.wrap ((gk : Int) / 2) = ((gk / 2 : Nat) : Int)) := Lib.hid (by rw [IntKind.wrap_u64]; omega)
        have HNX := Lib.hid (HRD.out.next hodd)
        clear hrd HRD hodd hpw heb
        go_wp2
        go_roundg (gk / 2)
        case measure => exact HM.out
        case rel => exact ⟨e + 1, congrArg (Value.int .u64) HM2.out, congrArg (Value.int .i64) HW3.out, HNX.out, rfl⟩
      · have t4 : ¬ (gk : Int) % 2 = 0 := by omega
        have HV : Hid (t = (gk, e)) := Lib.hid (HRD.out.stop hodd)
        clear hrd HRD hodd hpw heb
        go_wp2
        go_ret2
        have hv := HV.out
        subst hv
        exact ⟨rfl, rfl⟩
set_option maxHeartbeats 4000000 in
set_option maxRecDepth 100000 in
theorem rtext_f (f : Nat) (hf : f < 2 ^ 64) (w : World) : Calls Tryz.prog 81 #[.float .f64 f] w fun e w' => e = .returned (.string ⟨(textF f).toArray⟩) ∧ Below w.heap.size w w' := by
  have e1 : ∀ W : World, (callFunc 103 #[.float .f64 f]).run Tryz.prog W = .ok (.value (.int .u64 f)) W := fun W => by
    rw [run_callFunc_extern Tryz.func103 (by kernel_rfl) (by kernel_rfl) (by kernel_rfl) (e := Extern.MathFloatBits.float64bits) (by kernel_rfl)]
    rfl
  have HS := Lib.hid (fun w => minus_any f w)
  have HN := Lib.hid (fun w => rnan_any f hf w)
  rw [nanR_eq hf] at HN
  have hsg := fun b => sgn_text f b
  unfold textF
  by_cases hn : 9218868437227405312 < f % 9223372036854775808
  · rw [if_pos hn]
    rw [decide_eq_true hn] at HN
    clear hf hsg hn
    cases hb : decide (9223372036854775808 ≤ f) <;> rw [hb] at HS <;> clear hb <;> go_enter Tryz.func81, Tryz.ntmps81
    all_goals
      go_wp2_with (first | (go_at_call 104; refine (HS.out _).mono ?_; rintro e z ⟨rfl, rfl⟩) | (go_at_call 80; refine (HN.out _).mono ?_; rintro e z ⟨rfl, rfl⟩))
      go_ret
      exact ⟨rfl, Below.refl _ _⟩
  · rw [if_neg hn]
    rw [decide_eq_false hn] at HN
    by_cases hi : f % 9223372036854775808 = 9218868437227405312
    · rw [if_pos hi]
      have q1 : IntKind.u64.wrap ((f : Int) * 2) = 18437736874454810624 := by rw [IntKind.wrap_u64]; omega
      cases hb : decide (9223372036854775808 ≤ f) <;> rw [hsg _ hb] <;> rw [hb] at HS <;> clear hb hf hsg hn hi <;> go_enter Tryz.func81, Tryz.ntmps81
      all_goals
        go_wp2_with (first | (go_at_call 104; refine (HS.out _).mono ?_; rintro e z ⟨rfl, rfl⟩) | (go_at_call 80; refine (HN.out _).mono ?_; rintro e z ⟨rfl, rfl⟩))
        go_ret
        exact ⟨rfl, Below.refl _ _⟩
    · rw [if_neg hi]
      have q0 : ¬ (IntKind.u64.wrap ((f : Int) * 2) = 18437736874454810624) := by rw [IntKind.wrap_u64]; omega
      have hfin : f % 9223372036854775808 < 9218868437227405312 := by omega
      have HP := Lib.hid (fun w => rparts_f f hf hfin w)
      have hpl := parts_le hfin
      obtain ⟨m, hm⟩ : ∃ m, m = (partsF (f % 9223372036854775808)).1 := ⟨_, rfl⟩
      obtain ⟨e, he⟩ : ∃ e, e = (partsF (f % 9223372036854775808)).2 := ⟨_, rfl⟩
      rw [← hm, ← he] at HP hpl
      rw [← hm, ← he]
      have q1 : (IntKind.u64.wrap ((f : Int) * 2) == 18437736874454810624) = false := by rw [beq_eq_false_iff_ne]; exact q0
      have hdm := dec_len (n := m) (by omega)
      have HDM := Lib.hid (fun w => digits_any m (by omega) (by omega) w)
      clear hi hn hfin hm he q0
      rcases itoa_cases e with ⟨h0, h1⟩ | ⟨h0, h1⟩
      · have hde := dec_len (n := e.toNat) (by omega)
        have HDE := Lib.hid (fun w => digits_any e.toNat (by omega) (by omega) w)
        rw [h1]
        have u1 : IntKind.u64.wrap e = ((e.toNat : Nat) : Int) := by rw [IntKind.wrap_u64]; omega
        have u2 : ¬ e < 0 := by omega
        have u3 : decide (e < 0) = false := decide_eq_false u2
        cases hb : decide (9223372036854775808 ≤ f) with
        | true =>
          rw [hsg _ hb]
          rw [hb] at HS
          have c1 := cat_any [45] (Lib.decDigits m) (by simp; omega)
          have c2 := cat_any ([45] ++ Lib.decDigits m) [112] (by simp; omega)
          have c4 := cat_any ([45] ++ Lib.decDigits m ++ [112]) (Lib.decDigits e.toNat) (by simp; omega)
          have cE : Hid ((⟨([45] ++ Lib.decDigits m ++ [112] ++ Lib.decDigits e.toNat).toArray⟩ : ByteArray) = ⟨([45] ++ (Lib.decDigits m ++ (112 :: Lib.decDigits e.toNat))).toArray⟩) := Lib.hid (by simp)
          generalize (⟨([45] ++ Lib.decDigits m).toArray⟩ : ByteArray) = S1 at *
          generalize (⟨([45] ++ Lib.decDigits m ++ [112]).toArray⟩ : ByteArray) = S2 at *
          generalize (⟨([45] ++ Lib.decDigits m ++ [112] ++ Lib.decDigits e.toNat).toArray⟩ : ByteArray) = S4 at *
          clear hb hf hsg hpl hdm hde h0 h1
          generalize e.toNat = E at *
          go_enter Tryz.func81, Tryz.ntmps81
          go_wp2_with (first | (go_at_call 104; refine (HS.out _).mono ?_; rintro e z ⟨rfl, rfl⟩) | (go_at_call 80; refine (HN.out _).mono ?_; rintro e z ⟨rfl, rfl⟩) | (go_at_call 105; refine (HP.out _).mono ?_; rintro e z ⟨rfl, rfl⟩) | (go_at_call 106; with_reducible refine (HDM.out _).mono ?_; rintro e z ⟨rfl, hb⟩; have HB1 := Lib.hid hb; clear hb HDM) | (go_at_call 106; with_reducible refine (HDE.out _).mono ?_; rintro e z ⟨rfl, hb⟩; have HB2 := Lib.hid hb; clear hb))
          go_ret
          exact ⟨congrArg (fun s => Ending.returned (.string s)) cE.out, HB1.out.trans (HB2.out.mono HB1.out.size)⟩
        | false =>
          rw [hsg _ hb]
          rw [hb] at HS
          have c1 := cat_any [] (Lib.decDigits m) (by simp; omega)
          have c2 := cat_any ([] ++ Lib.decDigits m) [112] (by simp; omega)
          have c4 := cat_any ([] ++ Lib.decDigits m ++ [112]) (Lib.decDigits e.toNat) (by simp; omega)
          have cE : Hid ((⟨([] ++ Lib.decDigits m ++ [112] ++ Lib.decDigits e.toNat).toArray⟩ : ByteArray) = ⟨([] ++ (Lib.decDigits m ++ (112 :: Lib.decDigits e.toNat))).toArray⟩) := Lib.hid (by simp)
          generalize (⟨([] ++ Lib.decDigits m).toArray⟩ : ByteArray) = S1 at *
          generalize (⟨([] ++ Lib.decDigits m ++ [112]).toArray⟩ : ByteArray) = S2 at *
          generalize (⟨([] ++ Lib.decDigits m ++ [112] ++ Lib.decDigits e.toNat).toArray⟩ : ByteArray) = S4 at *
          clear hb hf hsg hpl hdm hde h0 h1
          generalize e.toNat = E at *
          go_enter Tryz.func81, Tryz.ntmps81
          go_wp2_with (first | (go_at_call 104; refine (HS.out _).mono ?_; rintro e z ⟨rfl, rfl⟩) | (go_at_call 80; refine (HN.out _).mono ?_; rintro e z ⟨rfl, rfl⟩) | (go_at_call 105; refine (HP.out _).mono ?_; rintro e z ⟨rfl, rfl⟩) | (go_at_call 106; with_reducible refine (HDM.out _).mono ?_; rintro e z ⟨rfl, hb⟩; have HB1 := Lib.hid hb; clear hb HDM) | (go_at_call 106; with_reducible refine (HDE.out _).mono ?_; rintro e z ⟨rfl, hb⟩; have HB2 := Lib.hid hb; clear hb))
          go_ret
          exact ⟨congrArg (fun s => Ending.returned (.string s)) cE.out, HB1.out.trans (HB2.out.mono HB1.out.size)⟩
      · have hde := dec_len (n := e.natAbs) (by omega)
        have HDE := Lib.hid (fun w => digits_any e.natAbs (by omega) (by omega) w)
        rw [h1]
        have u1 : IntKind.u64.wrap (wrap64 (-e)) = ((e.natAbs : Nat) : Int) := by rw [IntKind.wrap_u64]; unfold wrap64; omega
        have u1' : IntKind.u64.wrap (-e) = ((e.natAbs : Nat) : Int) := by rw [IntKind.wrap_u64]; omega
        have u2 : e < 0 := h0
        have u3 : decide (e < 0) = true := decide_eq_true u2
        cases hb : decide (9223372036854775808 ≤ f) with
        | true =>
          rw [hsg _ hb]
          rw [hb] at HS
          have c1 := cat_any [45] (Lib.decDigits m) (by simp; omega)
          have c2 := cat_any ([45] ++ Lib.decDigits m) [112] (by simp; omega)
          have c3 := cat_any ([45] ++ Lib.decDigits m ++ [112]) [45] (by simp; omega)
          have c4 := cat_any ([45] ++ Lib.decDigits m ++ [112] ++ [45]) (Lib.decDigits e.natAbs) (by simp; omega)
          have cE : Hid ((⟨([45] ++ Lib.decDigits m ++ [112] ++ [45] ++ Lib.decDigits e.natAbs).toArray⟩ : ByteArray) = ⟨([45] ++ (Lib.decDigits m ++ (112 :: 45 :: Lib.decDigits e.natAbs))).toArray⟩) := Lib.hid (by simp)
          generalize (⟨([45] ++ Lib.decDigits m).toArray⟩ : ByteArray) = S1 at *
          generalize (⟨([45] ++ Lib.decDigits m ++ [112]).toArray⟩ : ByteArray) = S2 at *
          generalize (⟨([45] ++ Lib.decDigits m ++ [112] ++ [45]).toArray⟩ : ByteArray) = S3 at *
          generalize (⟨([45] ++ Lib.decDigits m ++ [112] ++ [45] ++ Lib.decDigits e.natAbs).toArray⟩ : ByteArray) = S4 at *
          clear hb hf hsg hpl hdm hde h0 h1
          generalize e.natAbs = E at *
          go_enter Tryz.func81, Tryz.ntmps81
          go_wp2_with (first | (go_at_call 104; refine (HS.out _).mono ?_; rintro e z ⟨rfl, rfl⟩) | (go_at_call 80; refine (HN.out _).mono ?_; rintro e z ⟨rfl, rfl⟩) | (go_at_call 105; refine (HP.out _).mono ?_; rintro e z ⟨rfl, rfl⟩) | (go_at_call 106; with_reducible refine (HDM.out _).mono ?_; rintro e z ⟨rfl, hb⟩; have HB1 := Lib.hid hb; clear hb HDM) | (go_at_call 106; with_reducible refine (HDE.out _).mono ?_; rintro e z ⟨rfl, hb⟩; have HB2 := Lib.hid hb; clear hb))
          go_ret
          exact ⟨congrArg (fun s => Ending.returned (.string s)) cE.out, HB1.out.trans (HB2.out.mono HB1.out.size)⟩
        | false =>
          rw [hsg _ hb]
          rw [hb] at HS
          have c1 := cat_any [] (Lib.decDigits m) (by simp; omega)
          have c2 := cat_any ([] ++ Lib.decDigits m) [112] (by simp; omega)
          have c3 := cat_any ([] ++ Lib.decDigits m ++ [112]) [45] (by simp; omega)
          have c4 := cat_any ([] ++ Lib.decDigits m ++ [112] ++ [45]) (Lib.decDigits e.natAbs) (by simp; omega)
          have cE : Hid ((⟨([] ++ Lib.decDigits m ++ [112] ++ [45] ++ Lib.decDigits e.natAbs).toArray⟩ : ByteArray) = ⟨([] ++ (Lib.decDigits m ++ (112 :: 45 :: Lib.decDigits e.natAbs))).toArray⟩) := Lib.hid (by simp)
          generalize (⟨([] ++ Lib.decDigits m).toArray⟩ : ByteArray) = S1 at *
          generalize (⟨([] ++ Lib.decDigits m ++ [112]).toArray⟩ : ByteArray) = S2 at *
          generalize (⟨([] ++ Lib.decDigits m ++ [112] ++ [45]).toArray⟩ : ByteArray) = S3 at *
          generalize (⟨([] ++ Lib.decDigits m ++ [112] ++ [45] ++ Lib.decDigits e.natAbs).toArray⟩ : ByteArray) = S4 at *
          clear hb hf hsg hpl hdm hde h0 h1
          generalize e.natAbs = E at *
          go_enter Tryz.func81, Tryz.ntmps81
          go_wp2_with (first | (go_at_call 104; refine (HS.out _).mono ?_; rintro e z ⟨rfl, rfl⟩) | (go_at_call 80; refine (HN.out _).mono ?_; rintro e z ⟨rfl, rfl⟩) | (go_at_call 105; refine (HP.out _).mono ?_; rintro e z ⟨rfl, rfl⟩) | (go_at_call 106; with_reducible refine (HDM.out _).mono ?_; rintro e z ⟨rfl, hb⟩; have HB1 := Lib.hid hb; clear hb HDM) | (go_at_call 106; with_reducible refine (HDE.out _).mono ?_; rintro e z ⟨rfl, hb⟩; have HB2 := Lib.hid hb; clear hb))
          go_ret
          exact ⟨congrArg (fun s => Ending.returned (.string s)) cE.out, HB1.out.trans (HB2.out.mono HB1.out.size)⟩
end Go.Proofs.YtppmkehdhpgdcaaGreat
end
