/- Parts of a proof: VName, VBare. -/
import Derived.Laws.IdiomStrings
import Derived.Test.YtppmkehdhpgdcaaGreatPackP25
section
namespace Go.Proofs.YtppmkehdhpgdcaaGreat
open Go Go.RowKit
set_option linter.unusedVariables false
set_option linter.unusedSimpArgs false
def okC (i : Nat) (c : UInt8) : Bool := (decide (97 ≤ c.toNat) && decide (c.toNat ≤ 122)) || (decide (0 < i) && (c.toNat == 95 || (decide (48 ≤ c.toNat) && decide (c.toNat ≤ 57))))
def okFrom : List UInt8 → Nat → Bool
  | [], _ => true
  | c :: l, i => okC i c && okFrom l (i + 1)
def nameB (s : ByteArray) : Bool := decide (0 < s.size) && decide (s.size ≤ 30) && okFrom s.data.toList 0
theorem cell_boxf (w : World) (C : Array Value) (T : TypeId) (fz : Nat × Nat) (i : Nat) : (w.alloc (.cells C T fz)).cell? ⟨w.heap.size, i, none⟩ = C[i]? := by
  exact cell_of_row _ w.heap.size i C T fz (heap_alloc_new w _)
theorem bytesRow_at (s : ByteArray) (n k : Nat) {c : UInt8} (h : s.data.toList[k]? = some c) : (bytesRow s n)[k]? = some (.int .u8 c.toNat) := by
  have h1 : k < s.data.size := by have := (List.getElem?_eq_some_iff.1 h).1; simpa using this
  unfold bytesRow
  rw [Array.getElem?_append_left (by simpa using h1), Array.getElem?_map]
  have h2 : s.data[k]? = some c := by simpa using h
  rw [h2]; rfl
theorem okFrom_step {l : List UInt8} {k : Nat} {c : UInt8} (h : l[k]? = some c) : okFrom (l.drop k) k = (okC k c && okFrom (l.drop (k + 1)) (k + 1)) := by
  rw [drop_at h]; rfl
set_option maxHeartbeats 1000000 in
set_option maxRecDepth 100000 in
theorem name_any (s : ByteArray) (w : World) : Calls Tryz.prog 138 #[.string s] w fun e w' => e = .returned (.bool (nameB s)) ∧ Below w.heap.size w w' := by
  have HN : Hid (nameB s = (decide (0 < s.size) && decide (s.size ≤ 30) && okFrom s.data.toList 0)) := Lib.hid rfl
  have HL : Hid (s.data.toList.length = s.size) := Lib.hid (by cases s; rfl)
  by_cases h0 : s.size = 0
  · have hl : s.data.toList = [] := List.eq_nil_of_length_eq_zero (by rw [HL.out, h0])
    have t0 : s.toList = [] := by rw [toList_eq, hl]
    have t1 : s.toList.isEmpty = true := by rw [t0]; rfl
    have HR : Hid (nameB s = false) := Lib.hid (by rw [HN.out, h0]; rfl)
    clear hl h0
    go_enter Tryz.func138, Tryz.ntmps138
    go_wp2
    go_ret
    exact ⟨ret_bool HR.out.symm, Below.refl _ w⟩
  have t0 : ¬ s.toList = [] := fun h => h0 (by rw [← HL.out, ← toList_eq, h]; rfl)
  have t1 : s.toList.isEmpty = false := by rw [Bool.eq_false_iff]; intro h; exact t0 (List.isEmpty_iff.1 h)
  by_cases h1 : s.size ≤ 30
  · have t2 : (s.size : Int) ≤ 30 := by omega
    have HR : Hid (nameB s = okFrom s.data.toList 0) := Lib.hid (by rw [HN.out, decide_eq_true (by omega), decide_eq_true h1]; rfl)
    have hcv : ∀ W : World, (convert 9 174 (.string s)).run Tryz.prog W = .ok (.slice (some ⟨W.heap.size, 0, none⟩) s.size (grownCap W s.size 0 5)) (W.drew.alloc (.cells (bytesRow s (grownCap W s.size 0 5)) 5 ((bytesRow s (grownCap W s.size 0 5)).size, (bytesRow s (grownCap W s.size 0 5)).size + 1))) := fun W => run_bytes_of_string W _ _ _ s Tryz.underlying9 Tryz.underlying174 Tryz.underlying5
    have HC := Lib.hid (fun (W : World) (n : Nat) fz (k : Nat) (c : UInt8) (h : s.data.toList[k]? = some c) => (cell_boxf W (bytesRow s n) 5 fz k).trans (bytesRow_at s n k h))
    have HS := Lib.hid (fun k c => okFrom_step (l := s.data.toList) (k := k) (c := c))
    have HE : Hid (∀ k, okFrom (s.data.toList.drop s.size) k = true) := Lib.hid fun k => by rw [List.drop_eq_nil_of_le (by rw [HL.out]; exact Nat.le_refl _)]; rfl
    have H0 : Hid (okFrom (s.data.toList.drop 0) 0 = okFrom s.data.toList 0) := Lib.hid rfl
    generalize okFrom s.data.toList 0 = res at *
    go_enter Tryz.func138, Tryz.ntmps138
    go_upto_region 4 with (fail)
    have HCC : Hid (∀ (k : Nat) c, s.data.toList[k]? = some c → ((w.alloc (Obj.cells (bytesRow s (grownCap w s.size 0 5)) 5 ((bytesRow s (grownCap w s.size 0 5)).size, (bytesRow s (grownCap w s.size 0 5)).size + 1))).drew).cell? ⟨w.heap.size, k, none⟩ = some (.int .u8 c.toNat)) := Lib.hid (fun k c h => HC.out w _ _ k c h)
    have HB : Hid (Below w.heap.size w ((w.alloc (Obj.cells (bytesRow s (grownCap w s.size 0 5)) 5 ((bytesRow s (grownCap w s.size 0 5)).size, (bytesRow s (grownCap w s.size 0 5)).size + 1))).drew)) := Lib.hid (box_below w _).drew
    generalize (w.alloc (Obj.cells (bytesRow s (grownCap w s.size 0 5)) 5 ((bytesRow s (grownCap w s.size 0 5)).size, (bytesRow s (grownCap w s.size 0 5)).size + 1))).drew = W1 at *
    generalize grownCap w s.size 0 5 = cp at *
    clear hcv HC HN
    go_wp2
    go_loopg [15] s.size (fun q x u => ∃ k : Nat, k + q = s.size ∧ x = .int .i64 k ∧ u = W1 ∧ okFrom (s.data.toList.drop k) k = res)
    case atStart => exact ⟨0, by omega, rfl, rfl, H0.out⟩
    case round =>
      obtain ⟨k, hk, rfl, rfl, hres⟩ := hrel
      have HR2 := Lib.hid hres
      clear hres
      cases gk with
      | zero =>
        obtain rfl : k = s.size := by omega
        have hge : ¬ ((s.size : Int) < (s.size : Int)) := by omega
        have HV := Lib.hid (HR2.out.symm.trans (HE.out s.size))
        go_wp2
        go_ret
        exact ⟨ret_bool (HR.out.trans HV.out).symm, HB.out⟩
      | succ q =>
        have hlt : (k : Int) < (s.size : Int) := by omega
        obtain ⟨c, hc⟩ : ∃ c, s.data.toList[k]? = some c := ⟨_, List.getElem?_eq_getElem (by rw [HL.out]; omega)⟩
        have dk := HCC.out k c hc
        have HKC := Lib.hid hc
        clear hc
        by_cases h97 : 97 ≤ c.toNat
        · by_cases h122 : c.toNat ≤ 122
          · have d97 : decide (97 ≤ c.toNat) = true := decide_eq_true (by omega)
            have d122 : decide (c.toNat ≤ 122) = true := decide_eq_true (by omega)
            have f97 : 97 ≤ (c.toNat : Int) := by omega
            have f122 : (c.toNat : Int) ≤ 122 := by omega
            have hok : okC k c = true := by unfold okC; simp only [d97, d122, Bool.and_self, Bool.true_or]; try rfl
            have HV : Hid (res = okFrom (s.data.toList.drop (k + 1)) (k + 1)) := Lib.hid (HR2.out.symm.trans ((HS.out k c HKC.out).trans (by rw [hok]; exact Bool.true_and _)))
            clear hok
            go_wp2
            go_roundg q
            case measure => omega
            case rel => exact ⟨k + 1, by omega, by go_num, rfl, HV.out.symm⟩
          · have d97 : decide (97 ≤ c.toNat) = true := decide_eq_true (by omega)
            have d122 : decide (c.toNat ≤ 122) = false := decide_eq_false (by omega)
            have f97 : 97 ≤ (c.toNat : Int) := by omega
            have f122 : ¬ ((c.toNat : Int) ≤ 122) := by omega
            by_cases hk0 : k = 0
            · subst hk0
              have d0 : decide ((0 : Nat) < 0) = false := rfl
              have hok : okC 0 c = false := by unfold okC; simp only [d97, d122, Bool.and_false, Bool.false_or, d0, Bool.false_and, Bool.or_false, Bool.and_false, Bool.true_and]; try rfl
              have HV : Hid (res = false) := Lib.hid (HR2.out.symm.trans ((HS.out 0 c HKC.out).trans (by rw [hok]; exact Bool.false_and _)))
              clear hok
              go_wp2
              go_ret
              exact ⟨ret_bool (HR.out.trans HV.out).symm, HB.out⟩
            · have d0 : decide (0 < k) = true := decide_eq_true (by omega)
              have k0' : 0 < (k : Int) := by omega
              by_cases h95 : c.toNat = 95
              · have e1 : (c.toNat == 95) = true := by simpa using h95
                have e1' : (c.toNat : Int) = 95 := by omega
                have hok : okC k c = true := by unfold okC; simp only [d97, d122, Bool.and_false, Bool.false_or, d0, e1, Bool.true_or, Bool.true_and, Bool.and_self, Bool.false_and, Bool.and_false, Bool.false_or]; try rfl
                have HV : Hid (res = okFrom (s.data.toList.drop (k + 1)) (k + 1)) := Lib.hid (HR2.out.symm.trans ((HS.out k c HKC.out).trans (by rw [hok]; exact Bool.true_and _)))
                clear hok
                go_wp2
                go_roundg q
                case measure => omega
                case rel => exact ⟨k + 1, by omega, by go_num, rfl, HV.out.symm⟩
              · have e1 : (c.toNat == 95) = false := by simpa using h95
                have e1' : ((c.toNat : Int) == 95) = false := by rw [beq_eq_false_iff_ne]; omega
                by_cases h48 : 48 ≤ c.toNat
                · by_cases h57 : c.toNat ≤ 57
                  · have d48 : decide (48 ≤ c.toNat) = true := decide_eq_true (by omega)
                    have d57 : decide (c.toNat ≤ 57) = true := decide_eq_true (by omega)
                    have f48 : 48 ≤ (c.toNat : Int) := by omega
                    have f57 : (c.toNat : Int) ≤ 57 := by omega
                    have hok : okC k c = true := by unfold okC; simp only [d97, d122, Bool.and_false, Bool.false_or, d0, e1, d48, d57, Bool.false_and, Bool.and_false, Bool.false_or, Bool.or_true, Bool.and_self]; try rfl
                    have HV : Hid (res = okFrom (s.data.toList.drop (k + 1)) (k + 1)) := Lib.hid (HR2.out.symm.trans ((HS.out k c HKC.out).trans (by rw [hok]; exact Bool.true_and _)))
                    clear hok
                    go_wp2
                    go_roundg q
                    case measure => omega
                    case rel => exact ⟨k + 1, by omega, by go_num, rfl, HV.out.symm⟩
                  · have d48 : decide (48 ≤ c.toNat) = true := decide_eq_true (by omega)
                    have d57 : decide (c.toNat ≤ 57) = false := decide_eq_false (by omega)
                    have f48 : 48 ≤ (c.toNat : Int) := by omega
                    have f57 : ¬ ((c.toNat : Int) ≤ 57) := by omega
                    have hok : okC k c = false := by unfold okC; simp only [d97, d122, Bool.and_false, Bool.false_or, d0, e1, d48, d57, Bool.false_and, Bool.and_false, Bool.false_or, Bool.or_self, Bool.and_self]; try rfl
                    have HV : Hid (res = false) := Lib.hid (HR2.out.symm.trans ((HS.out k c HKC.out).trans (by rw [hok]; exact Bool.false_and _)))
                    clear hok
                    go_wp2
                    go_ret
                    exact ⟨ret_bool (HR.out.trans HV.out).symm, HB.out⟩
                · have d48 : decide (48 ≤ c.toNat) = false := decide_eq_false (by omega)
                  have f48 : ¬ (48 ≤ (c.toNat : Int)) := by omega
                  have hok : okC k c = false := by unfold okC; simp only [d97, d122, Bool.and_false, Bool.false_or, d0, e1, d48, Bool.false_and, Bool.and_false, Bool.false_or, Bool.or_self, Bool.and_self]; try rfl
                  have HV : Hid (res = false) := Lib.hid (HR2.out.symm.trans ((HS.out k c HKC.out).trans (by rw [hok]; exact Bool.false_and _)))
                  clear hok
                  go_wp2
                  go_ret
                  exact ⟨ret_bool (HR.out.trans HV.out).symm, HB.out⟩
        · have d97 : decide (97 ≤ c.toNat) = false := decide_eq_false (by omega)
          have f97 : ¬ (97 ≤ (c.toNat : Int)) := by omega
          by_cases hk0 : k = 0
          · subst hk0
            have d0 : decide ((0 : Nat) < 0) = false := rfl
            have hok : okC 0 c = false := by unfold okC; simp only [d97, Bool.false_and, Bool.false_or, d0, Bool.false_and, Bool.or_false, Bool.and_false, Bool.true_and]; try rfl
            have HV : Hid (res = false) := Lib.hid (HR2.out.symm.trans ((HS.out 0 c HKC.out).trans (by rw [hok]; exact Bool.false_and _)))
            clear hok
            go_wp2
            go_ret
            exact ⟨ret_bool (HR.out.trans HV.out).symm, HB.out⟩
          · have d0 : decide (0 < k) = true := decide_eq_true (by omega)
            have k0' : 0 < (k : Int) := by omega
            by_cases h95 : c.toNat = 95
            · have e1 : (c.toNat == 95) = true := by simpa using h95
              have e1' : (c.toNat : Int) = 95 := by omega
              have hok : okC k c = true := by unfold okC; simp only [d97, Bool.false_and, Bool.false_or, d0, e1, Bool.true_or, Bool.true_and, Bool.and_self, Bool.false_and, Bool.and_false, Bool.false_or]; try rfl
              have HV : Hid (res = okFrom (s.data.toList.drop (k + 1)) (k + 1)) := Lib.hid (HR2.out.symm.trans ((HS.out k c HKC.out).trans (by rw [hok]; exact Bool.true_and _)))
              clear hok
              go_wp2
              go_roundg q
              case measure => omega
              case rel => exact ⟨k + 1, by omega, by go_num, rfl, HV.out.symm⟩
            · have e1 : (c.toNat == 95) = false := by simpa using h95
              have e1' : ((c.toNat : Int) == 95) = false := by rw [beq_eq_false_iff_ne]; omega
              by_cases h48 : 48 ≤ c.toNat
              · by_cases h57 : c.toNat ≤ 57
                · have d48 : decide (48 ≤ c.toNat) = true := decide_eq_true (by omega)
                  have d57 : decide (c.toNat ≤ 57) = true := decide_eq_true (by omega)
                  have f48 : 48 ≤ (c.toNat : Int) := by omega
                  have f57 : (c.toNat : Int) ≤ 57 := by omega
                  have hok : okC k c = true := by unfold okC; simp only [d97, Bool.false_and, Bool.false_or, d0, e1, d48, d57, Bool.false_and, Bool.and_false, Bool.false_or, Bool.or_true, Bool.and_self]; try rfl
                  have HV : Hid (res = okFrom (s.data.toList.drop (k + 1)) (k + 1)) := Lib.hid (HR2.out.symm.trans ((HS.out k c HKC.out).trans (by rw [hok]; exact Bool.true_and _)))
                  clear hok
                  go_wp2
                  go_roundg q
                  case measure => omega
                  case rel => exact ⟨k + 1, by omega, by go_num, rfl, HV.out.symm⟩
                · have d48 : decide (48 ≤ c.toNat) = true := decide_eq_true (by omega)
                  have d57 : decide (c.toNat ≤ 57) = false := decide_eq_false (by omega)
                  have f48 : 48 ≤ (c.toNat : Int) := by omega
                  have f57 : ¬ ((c.toNat : Int) ≤ 57) := by omega
                  have hok : okC k c = false := by unfold okC; simp only [d97, Bool.false_and, Bool.false_or, d0, e1, d48, d57, Bool.false_and, Bool.and_false, Bool.false_or, Bool.or_self, Bool.and_self]; try rfl
                  have HV : Hid (res = false) := Lib.hid (HR2.out.symm.trans ((HS.out k c HKC.out).trans (by rw [hok]; exact Bool.false_and _)))
                  clear hok
                  go_wp2
                  go_ret
                  exact ⟨ret_bool (HR.out.trans HV.out).symm, HB.out⟩
              · have d48 : decide (48 ≤ c.toNat) = false := decide_eq_false (by omega)
                have f48 : ¬ (48 ≤ (c.toNat : Int)) := by omega
                have hok : okC k c = false := by unfold okC; simp only [d97, Bool.false_and, Bool.false_or, d0, e1, d48, Bool.false_and, Bool.and_false, Bool.false_or, Bool.or_self, Bool.and_self]; try rfl
                have HV : Hid (res = false) := Lib.hid (HR2.out.symm.trans ((HS.out k c HKC.out).trans (by rw [hok]; exact Bool.false_and _)))
                clear hok
                go_wp2
                go_ret
                exact ⟨ret_bool (HR.out.trans HV.out).symm, HB.out⟩
  · have t2 : ¬ ((s.size : Int) ≤ 30) := by omega
    have HR : Hid (nameB s = false) := Lib.hid (by rw [HN.out, decide_eq_false h1, Bool.and_false]; rfl)
    go_enter Tryz.func138, Tryz.ntmps138
    go_wp2
    go_ret
    exact ⟨ret_bool HR.out.symm, Below.refl _ w⟩
end Go.Proofs.YtppmkehdhpgdcaaGreat
end
section
namespace Go.Proofs.YtppmkehdhpgdcaaGreat
open Go Go.RowKit
set_option linter.unusedVariables false
def bareB (a b c d : Bool) (n : Int) (f : Nat) (s : ByteArray) (ns its : Nat) : Bool := (a || n == 0) && ((b || cmpF f 0 == 0) && ((c || s.toList.isEmpty) && (d || (ns == 0 && its == 0))))
set_option maxHeartbeats 1000000 in
set_option maxRecDepth 100000 in
theorem bare_n (p o : Nat) (k n : Int) (f : Nat) (s : ByteArray) (A D : Option Addr) (ns its ca cd : Nat) (w : World) (hf0 : f < 2 ^ 64) (h : w.rangeAt p o [.int .i64 k, .int .i64 n, .float .f64 f, .string s, .slice A ns ca, .slice D its cd]) :
    Calls Tryz.prog 152 #[.pointer (some ⟨p, o, none⟩), .bool true, .bool false, .bool false, .bool false] w fun e w' => e = .returned (.bool (bareB true false false false n f s ns its)) ∧ w' = w := by
  have d1 := h 1 _ rfl
  have d2 := h 2 _ rfl
  have d3 := h 3 _ rfl
  have d4 := h 4 _ rfl
  have d5 := h 5 _ rfl
  have HFO := Lib.hid (fun w => forder_any f 0 hf0 (by decide) w)
  clear h hf0
  by_cases hf : cmpF f 0 = 0
  · have t2 : (cmpF f 0 == 0) = true := by simpa using hf
    by_cases hs : s.toList = []
    · have t3 : s.toList.isEmpty = true := by rw [hs]; rfl
      by_cases hm : ns = 0
      · have t4 : (ns == 0) = true := by simpa using hm
        have t4' : ((ns : Int) == 0) = true := by rw [hm]; rfl
        by_cases hi : its = 0
        · have t5 : (its == 0) = true := by simpa using hi
          have t5' : ((its : Int) == 0) = true := by rw [hi]; rfl
          have HR : Hid (bareB true false false false n f s ns its = true) := Lib.hid (by unfold bareB; simp [t2, t3, t4, t5])
          generalize cmpF f 0 = cf at *
          go_enter Tryz.func152, Tryz.ntmps152
          go_wp2_with (go_at_call 110; refine (HFO.out _).mono ?_; rintro e z ⟨rfl, rfl⟩)
          go_ret
          exact ⟨ret_bool HR.out.symm, rfl⟩
        · have t5 : (its == 0) = false := by simpa using hi
          have t5' : ((its : Int) == 0) = false := by rw [beq_eq_false_iff_ne]; omega
          have HR : Hid (bareB true false false false n f s ns its = false) := Lib.hid (by unfold bareB; simp [t2, t3, t4, t5])
          generalize cmpF f 0 = cf at *
          go_enter Tryz.func152, Tryz.ntmps152
          go_wp2_with (go_at_call 110; refine (HFO.out _).mono ?_; rintro e z ⟨rfl, rfl⟩)
          go_ret
          exact ⟨ret_bool HR.out.symm, rfl⟩
      · have t4 : (ns == 0) = false := by simpa using hm
        have t4' : ((ns : Int) == 0) = false := by rw [beq_eq_false_iff_ne]; omega
        have HR : Hid (bareB true false false false n f s ns its = false) := Lib.hid (by unfold bareB; simp [t2, t3, t4])
        generalize cmpF f 0 = cf at *
        go_enter Tryz.func152, Tryz.ntmps152
        go_wp2_with (go_at_call 110; refine (HFO.out _).mono ?_; rintro e z ⟨rfl, rfl⟩)
        go_ret
        exact ⟨ret_bool HR.out.symm, rfl⟩
    · have t3 : s.toList.isEmpty = false := by rw [Bool.eq_false_iff]; intro h; exact hs (List.isEmpty_iff.1 h)
      have HR : Hid (bareB true false false false n f s ns its = false) := Lib.hid (by unfold bareB; simp [t2, t3])
      generalize cmpF f 0 = cf at *
      go_enter Tryz.func152, Tryz.ntmps152
      go_wp2_with (go_at_call 110; refine (HFO.out _).mono ?_; rintro e z ⟨rfl, rfl⟩)
      go_ret
      exact ⟨ret_bool HR.out.symm, rfl⟩
  · have t2 : (cmpF f 0 == 0) = false := by simpa using hf
    have HR : Hid (bareB true false false false n f s ns its = false) := Lib.hid (by unfold bareB; simp [t2])
    generalize cmpF f 0 = cf at *
    go_enter Tryz.func152, Tryz.ntmps152
    go_wp2_with (go_at_call 110; refine (HFO.out _).mono ?_; rintro e z ⟨rfl, rfl⟩)
    go_ret
    exact ⟨ret_bool HR.out.symm, rfl⟩
set_option maxHeartbeats 1000000 in
set_option maxRecDepth 100000 in
theorem bare_f (p o : Nat) (k n : Int) (f : Nat) (s : ByteArray) (A D : Option Addr) (ns its ca cd : Nat) (w : World) (hf0 : f < 2 ^ 64) (h : w.rangeAt p o [.int .i64 k, .int .i64 n, .float .f64 f, .string s, .slice A ns ca, .slice D its cd]) :
    Calls Tryz.prog 152 #[.pointer (some ⟨p, o, none⟩), .bool false, .bool true, .bool false, .bool false] w fun e w' => e = .returned (.bool (bareB false true false false n f s ns its)) ∧ w' = w := by
  have d1 := h 1 _ rfl
  have d2 := h 2 _ rfl
  have d3 := h 3 _ rfl
  have d4 := h 4 _ rfl
  have d5 := h 5 _ rfl
  have HFO := Lib.hid (fun w => forder_any f 0 hf0 (by decide) w)
  clear h hf0
  by_cases hn : n = 0
  · have t1 : (n == 0) = true := by simpa using hn
    by_cases hs : s.toList = []
    · have t3 : s.toList.isEmpty = true := by rw [hs]; rfl
      by_cases hm : ns = 0
      · have t4 : (ns == 0) = true := by simpa using hm
        have t4' : ((ns : Int) == 0) = true := by rw [hm]; rfl
        by_cases hi : its = 0
        · have t5 : (its == 0) = true := by simpa using hi
          have t5' : ((its : Int) == 0) = true := by rw [hi]; rfl
          have HR : Hid (bareB false true false false n f s ns its = true) := Lib.hid (by unfold bareB; simp [t1, t3, t4, t5])
          generalize cmpF f 0 = cf at *
          go_enter Tryz.func152, Tryz.ntmps152
          go_wp2_with (go_at_call 110; refine (HFO.out _).mono ?_; rintro e z ⟨rfl, rfl⟩)
          go_ret
          exact ⟨ret_bool HR.out.symm, rfl⟩
        · have t5 : (its == 0) = false := by simpa using hi
          have t5' : ((its : Int) == 0) = false := by rw [beq_eq_false_iff_ne]; omega
          have HR : Hid (bareB false true false false n f s ns its = false) := Lib.hid (by unfold bareB; simp [t1, t3, t4, t5])
          generalize cmpF f 0 = cf at *
          go_enter Tryz.func152, Tryz.ntmps152
          go_wp2_with (go_at_call 110; refine (HFO.out _).mono ?_; rintro e z ⟨rfl, rfl⟩)
          go_ret
          exact ⟨ret_bool HR.out.symm, rfl⟩
      · have t4 : (ns == 0) = false := by simpa using hm
        have t4' : ((ns : Int) == 0) = false := by rw [beq_eq_false_iff_ne]; omega
        have HR : Hid (bareB false true false false n f s ns its = false) := Lib.hid (by unfold bareB; simp [t1, t3, t4])
        generalize cmpF f 0 = cf at *
        go_enter Tryz.func152, Tryz.ntmps152
        go_wp2_with (go_at_call 110; refine (HFO.out _).mono ?_; rintro e z ⟨rfl, rfl⟩)
        go_ret
        exact ⟨ret_bool HR.out.symm, rfl⟩
    · have t3 : s.toList.isEmpty = false := by rw [Bool.eq_false_iff]; intro h; exact hs (List.isEmpty_iff.1 h)
      have HR : Hid (bareB false true false false n f s ns its = false) := Lib.hid (by unfold bareB; simp [t1, t3])
      generalize cmpF f 0 = cf at *
      go_enter Tryz.func152, Tryz.ntmps152
      go_wp2_with (go_at_call 110; refine (HFO.out _).mono ?_; rintro e z ⟨rfl, rfl⟩)
      go_ret
      exact ⟨ret_bool HR.out.symm, rfl⟩
  · have t1 : (n == 0) = false := by simpa using hn
    have HR : Hid (bareB false true false false n f s ns its = false) := Lib.hid (by unfold bareB; simp [t1])
    generalize cmpF f 0 = cf at *
    go_enter Tryz.func152, Tryz.ntmps152
    go_wp2_with (go_at_call 110; refine (HFO.out _).mono ?_; rintro e z ⟨rfl, rfl⟩)
    go_ret
    exact ⟨ret_bool HR.out.symm, rfl⟩
set_option maxHeartbeats 1000000 in
set_option maxRecDepth 100000 in
theorem bare_s (p o : Nat) (k n : Int) (f : Nat) (s : ByteArray) (A D : Option Addr) (ns its ca cd : Nat) (w : World) (hf0 : f < 2 ^ 64) (h : w.rangeAt p o [.int .i64 k, .int .i64 n, .float .f64 f, .string s, .slice A ns ca, .slice D its cd]) :
    Calls Tryz.prog 152 #[.pointer (some ⟨p, o, none⟩), .bool false, .bool false, .bool true, .bool false] w fun e w' => e = .returned (.bool (bareB false false true false n f s ns its)) ∧ w' = w := by
  have d1 := h 1 _ rfl
  have d2 := h 2 _ rfl
  have d3 := h 3 _ rfl
  have d4 := h 4 _ rfl
  have d5 := h 5 _ rfl
  have HFO := Lib.hid (fun w => forder_any f 0 hf0 (by decide) w)
  clear h hf0
  by_cases hn : n = 0
  · have t1 : (n == 0) = true := by simpa using hn
    by_cases hf : cmpF f 0 = 0
    · have t2 : (cmpF f 0 == 0) = true := by simpa using hf
      by_cases hm : ns = 0
      · have t4 : (ns == 0) = true := by simpa using hm
        have t4' : ((ns : Int) == 0) = true := by rw [hm]; rfl
        by_cases hi : its = 0
        · have t5 : (its == 0) = true := by simpa using hi
          have t5' : ((its : Int) == 0) = true := by rw [hi]; rfl
          have HR : Hid (bareB false false true false n f s ns its = true) := Lib.hid (by unfold bareB; simp [t1, t2, t4, t5])
          generalize cmpF f 0 = cf at *
          go_enter Tryz.func152, Tryz.ntmps152
          go_wp2_with (go_at_call 110; refine (HFO.out _).mono ?_; rintro e z ⟨rfl, rfl⟩)
          go_ret
          exact ⟨ret_bool HR.out.symm, rfl⟩
        · have t5 : (its == 0) = false := by simpa using hi
          have t5' : ((its : Int) == 0) = false := by rw [beq_eq_false_iff_ne]; omega
          have HR : Hid (bareB false false true false n f s ns its = false) := Lib.hid (by unfold bareB; simp [t1, t2, t4, t5])
          generalize cmpF f 0 = cf at *
          go_enter Tryz.func152, Tryz.ntmps152
          go_wp2_with (go_at_call 110; refine (HFO.out _).mono ?_; rintro e z ⟨rfl, rfl⟩)
          go_ret
          exact ⟨ret_bool HR.out.symm, rfl⟩
      · have t4 : (ns == 0) = false := by simpa using hm
        have t4' : ((ns : Int) == 0) = false := by rw [beq_eq_false_iff_ne]; omega
        have HR : Hid (bareB false false true false n f s ns its = false) := Lib.hid (by unfold bareB; simp [t1, t2, t4])
        generalize cmpF f 0 = cf at *
        go_enter Tryz.func152, Tryz.ntmps152
        go_wp2_with (go_at_call 110; refine (HFO.out _).mono ?_; rintro e z ⟨rfl, rfl⟩)
        go_ret
        exact ⟨ret_bool HR.out.symm, rfl⟩
    · have t2 : (cmpF f 0 == 0) = false := by simpa using hf
      have HR : Hid (bareB false false true false n f s ns its = false) := Lib.hid (by unfold bareB; simp [t1, t2])
      generalize cmpF f 0 = cf at *
      go_enter Tryz.func152, Tryz.ntmps152
      go_wp2_with (go_at_call 110; refine (HFO.out _).mono ?_; rintro e z ⟨rfl, rfl⟩)
      go_ret
      exact ⟨ret_bool HR.out.symm, rfl⟩
  · have t1 : (n == 0) = false := by simpa using hn
    have HR : Hid (bareB false false true false n f s ns its = false) := Lib.hid (by unfold bareB; simp [t1])
    generalize cmpF f 0 = cf at *
    go_enter Tryz.func152, Tryz.ntmps152
    go_wp2_with (go_at_call 110; refine (HFO.out _).mono ?_; rintro e z ⟨rfl, rfl⟩)
    go_ret
    exact ⟨ret_bool HR.out.symm, rfl⟩
set_option maxHeartbeats 1000000 in
set_option maxRecDepth 100000 in
theorem bare_r (p o : Nat) (k n : Int) (f : Nat) (s : ByteArray) (A D : Option Addr) (ns its ca cd : Nat) (w : World) (hf0 : f < 2 ^ 64) (h : w.rangeAt p o [.int .i64 k, .int .i64 n, .float .f64 f, .string s, .slice A ns ca, .slice D its cd]) :
    Calls Tryz.prog 152 #[.pointer (some ⟨p, o, none⟩), .bool false, .bool false, .bool false, .bool true] w fun e w' => e = .returned (.bool (bareB false false false true n f s ns its)) ∧ w' = w := by
  have d1 := h 1 _ rfl
  have d2 := h 2 _ rfl
  have d3 := h 3 _ rfl
  have d4 := h 4 _ rfl
  have d5 := h 5 _ rfl
  have HFO := Lib.hid (fun w => forder_any f 0 hf0 (by decide) w)
  clear h hf0
  by_cases hn : n = 0
  · have t1 : (n == 0) = true := by simpa using hn
    by_cases hf : cmpF f 0 = 0
    · have t2 : (cmpF f 0 == 0) = true := by simpa using hf
      by_cases hs : s.toList = []
      · have t3 : s.toList.isEmpty = true := by rw [hs]; rfl
        have HR : Hid (bareB false false false true n f s ns its = true) := Lib.hid (by unfold bareB; simp [t1, t2, t3])
        generalize cmpF f 0 = cf at *
        go_enter Tryz.func152, Tryz.ntmps152
        go_wp2_with (go_at_call 110; refine (HFO.out _).mono ?_; rintro e z ⟨rfl, rfl⟩)
        go_ret
        exact ⟨ret_bool HR.out.symm, rfl⟩
      · have t3 : s.toList.isEmpty = false := by rw [Bool.eq_false_iff]; intro h; exact hs (List.isEmpty_iff.1 h)
        have HR : Hid (bareB false false false true n f s ns its = false) := Lib.hid (by unfold bareB; simp [t1, t2, t3])
        generalize cmpF f 0 = cf at *
        go_enter Tryz.func152, Tryz.ntmps152
        go_wp2_with (go_at_call 110; refine (HFO.out _).mono ?_; rintro e z ⟨rfl, rfl⟩)
        go_ret
        exact ⟨ret_bool HR.out.symm, rfl⟩
    · have t2 : (cmpF f 0 == 0) = false := by simpa using hf
      have HR : Hid (bareB false false false true n f s ns its = false) := Lib.hid (by unfold bareB; simp [t1, t2])
      generalize cmpF f 0 = cf at *
      go_enter Tryz.func152, Tryz.ntmps152
      go_wp2_with (go_at_call 110; refine (HFO.out _).mono ?_; rintro e z ⟨rfl, rfl⟩)
      go_ret
      exact ⟨ret_bool HR.out.symm, rfl⟩
  · have t1 : (n == 0) = false := by simpa using hn
    have HR : Hid (bareB false false false true n f s ns its = false) := Lib.hid (by unfold bareB; simp [t1])
    generalize cmpF f 0 = cf at *
    go_enter Tryz.func152, Tryz.ntmps152
    go_wp2_with (go_at_call 110; refine (HFO.out _).mono ?_; rintro e z ⟨rfl, rfl⟩)
    go_ret
    exact ⟨ret_bool HR.out.symm, rfl⟩
def riseB : Option ByteArray → List ByteArray → Bool
  | _, [] => true
  | none, s :: l => nameB s && riseB (some s) l
  | some p, s :: l => nameB s && (Op.bytesLess p.toList s.toList && riseB (some s) l)
def prevK (l : List ByteArray) (k : Nat) : Option ByteArray := if k = 0 then none else l[k - 1]?
theorem rise_first {l : List ByteArray} {s : ByteArray} (h : l[0]? = some s) : riseB (prevK l 0) (l.drop 0) = (nameB s && riseB (prevK l 1) (l.drop 1)) := by
  rw [drop_at h]
  show (nameB s && riseB (some s) (l.drop 1)) = _
  unfold prevK
  simp [h]
theorem rise_next {l : List ByteArray} {k : Nat} {p s : ByteArray} (hp : l[k]? = some p) (h : l[k + 1]? = some s) : riseB (prevK l (k + 1)) (l.drop (k + 1)) = (nameB s && (Op.bytesLess p.toList s.toList && riseB (prevK l (k + 2)) (l.drop (k + 2)))) := by
  rw [drop_at h]
  have h1 : prevK l (k + 1) = some p := by unfold prevK; simp [hp]
  have h2 : prevK l (k + 2) = some s := by unfold prevK; simp [h]
  rw [h1, h2]
  rfl
theorem rise_end {l : List ByteArray} : riseB (prevK l l.length) (l.drop l.length) = true := by
  rw [List.drop_eq_nil_of_le (Nat.le_refl _)]; rw [riseB]
set_option maxHeartbeats 1000000 in
set_option maxRecDepth 100000 in
theorem rising_any (v : Value) (l : List ByteArray) (w : World) (hv : SlAt w w.heap.size 1 StrR v l) :
    Calls Tryz.prog 153 #[v] w fun e w' => e = .returned (.bool (riseB none l)) ∧ Below w.heap.size w w' := by
  obtain ⟨_, A, c, rfl, _⟩ := id hv
  obtain ⟨_, hl, ha⟩ := str_at hv
  have HA := Lib.hid ha
  have H1 := Lib.hid (fun s => rise_first (l := l) (s := s))
  have H2 := Lib.hid (fun k p s => rise_next (l := l) (k := k) (p := p) (s := s))
  have HE := Lib.hid (rise_end (l := l))
  have H0 : Hid (riseB (prevK l 0) (l.drop 0) = riseB none l) := Lib.hid rfl
  have hl2 : (l.length : Int) ≤ 9223372036854775807 := by omega
  clear ha hv
  generalize riseB none l = res at *
  go_enter Tryz.func153, Tryz.ntmps153
  go_wp2
  go_loopg [7] l.length (fun q x u => ∃ k : Nat, k + q = l.length ∧ x = .int .i64 k ∧ Below w.heap.size w u ∧ riseB (prevK l k) (l.drop k) = res)
  case atStart => exact ⟨0, by omega, rfl, Below.refl _ _, H0.out⟩
  case round =>
    obtain ⟨k, hk, rfl, hb, hres⟩ := hrel
    have HR := Lib.hid hres
    have HBK := Lib.hid hb
    clear hres hb
    cases gk with
    | zero =>
      obtain rfl : k = l.length := by omega
      have hge : ¬ ((l.length : Int) < (l.length : Int)) := by omega
      have HV := Lib.hid (HR.out.symm.trans HE.out)
      clear HR
      go_wp2
      go_ret
      exact ⟨ret_bool HV.out.symm, HBK.out⟩
    | succ q =>
      have hlt : (k : Int) < (l.length : Int) := by omega
      obtain ⟨s, hs⟩ : ∃ s, l[k]? = some s := ⟨_, List.getElem?_eq_getElem (by omega)⟩
      obtain ⟨b, o, rfl, hbl, hc⟩ := HA.out (by omega)
      have HCC := Lib.hid (fun i x hx => (hc i x hx).1)
      have HBL := Lib.hid hbl
      have ds := (HBK.out.cell (p := ⟨b, o + k, none⟩) hbl).trans (hc k s hs).1
      have HNM := Lib.hid (name_any s wr)
      have HSK := Lib.hid hs
      clear hc hbl hs
      rcases Nat.eq_zero_or_pos k with hk0 | hk0
      · subst hk0
        have ds0 : wr.cell? ⟨b, o, none⟩ = some (.string s) := ds
        have hlt0 : (0 : Int) < (l.length : Int) := by omega
        have HV := Lib.hid (HR.out.symm.trans (H1.out s HSK.out))
        clear HR
        generalize nameB s = nb at *
        cases nb with
        | false =>
          have HV2 : Hid (res = false) := Lib.hid (HV.out.trans (Bool.false_and _))
          clear HV
          go_wp2_with (go_at_call 138; refine HNM.out.mono ?_; rintro e z ⟨rfl, hbz⟩; have HB3 := Lib.hid hbz; clear hbz)
          go_ret
          exact ⟨ret_bool HV2.out.symm, HBK.out.trans (HB3.out.mono HBK.out.size)⟩
        | true =>
          have HV2 := Lib.hid (HV.out.trans (Bool.true_and _))
          clear HV
          go_wp2_with (go_at_call 138; refine HNM.out.mono ?_; rintro e z ⟨rfl, hbz⟩; have HB3 := Lib.hid hbz; clear hbz)
          go_roundg q
          case measure => omega
          case rel => exact ⟨1, by omega, by go_num, HBK.out.trans (HB3.out.mono HBK.out.size), HV2.out.symm⟩
      · obtain ⟨j, rfl⟩ : ∃ j, k = j + 1 := ⟨k - 1, by omega⟩
        obtain ⟨p, hp⟩ : ∃ p, l[j]? = some p := ⟨_, List.getElem?_eq_getElem (by omega)⟩
        have HV := Lib.hid (HR.out.symm.trans (H2.out j p s hp HSK.out))
        have HDP := Lib.hid (HCC.out j p hp)
        have hpos : (0 : Int) < ((j + 1 : Nat) : Int) := by omega
        have hj2 : (j : Int) < (l.length : Int) := by omega
        clear HR hp
        generalize nameB s = nb at *
        cases nb with
        | false =>
          have HV2 : Hid (res = false) := Lib.hid (HV.out.trans (Bool.false_and _))
          clear HV
          go_wp2_with (go_at_call 138; refine HNM.out.mono ?_; rintro e z ⟨rfl, hbz⟩; have HB3 := Lib.hid hbz; clear hbz)
          go_ret
          exact ⟨ret_bool HV2.out.symm, HBK.out.trans (HB3.out.mono HBK.out.size)⟩
        | true =>
          have HV2 := Lib.hid (HV.out.trans (Bool.true_and _))
          clear HV
          cases hlt3 : Op.bytesLess p.toList s.toList with
          | false =>
            have HV3 : Hid (res = false) := Lib.hid (HV2.out.trans (by rw [hlt3]; exact Bool.false_and _))
            go_wp2_with (go_at_call 138; refine HNM.out.mono ?_; rintro e z ⟨rfl, hbz⟩; have HB3 := Lib.hid hbz; have dp := (((HBK.out.trans (hbz.mono HBK.out.size)).cell (p := ⟨b, o + j, none⟩) HBL.out)).trans HDP.out; clear hbz)
            go_ret
            exact ⟨ret_bool HV3.out.symm, HBK.out.trans (HB3.out.mono HBK.out.size)⟩
          | true =>
            have HV3 := Lib.hid (HV2.out.trans (by rw [hlt3, Bool.true_and]))
            go_wp2_with (go_at_call 138; refine HNM.out.mono ?_; rintro e z ⟨rfl, hbz⟩; have HB3 := Lib.hid hbz; have dp := (((HBK.out.trans (hbz.mono HBK.out.size)).cell (p := ⟨b, o + j, none⟩) HBL.out)).trans HDP.out; clear hbz)
            go_roundg q
            case measure => omega
            case rel => exact ⟨j + 2, by omega, by go_num, HBK.out.trans (HB3.out.mono HBK.out.size), HV3.out.symm⟩
mutual
def cntV : VT → Nat → Nat
  | .mk _ _ _ _ _ its, n => cntL its (n + 1)
def cntL : List VT → Nat → Nat
  | [], n => n
  | a :: l, n => if 500 ≤ n then n else cntL l (cntV a n)
end
theorem cntL_le : ∀ (l : List VT) (n : Nat), (∀ x ∈ l, ∀ m, m < 500 → cntV x m ≤ 500) → n ≤ 500 → cntL l n ≤ 500
  | [], n, _, h => by rw [cntL]; exact h
  | a :: l, n, h, hn => by
    rw [cntL]
    split
    · exact hn
    · exact cntL_le l _ (fun x hx => h x (List.mem_cons_of_mem _ hx)) (h a (List.mem_cons_self ..) n (by omega))
theorem cntV_le (t : VT) : ∀ m, m < 500 → cntV t m ≤ 500 := by
  induction t using VT.ind with
  | h k n f s ns its ih => exact fun m hm => by rw [cntV]; exact cntL_le its _ ih (by omega)
theorem cntL_step {l : List VT} {k m : Nat} {x : VT} (h : l[k]? = some x) : cntL (l.drop k) m = if 500 ≤ m then m else cntL (l.drop (k + 1)) (cntV x m) := by
  rw [drop_at h, cntL]
theorem cntL_end {l : List VT} {m : Nat} : cntL (l.drop l.length) m = m := by
  rw [List.drop_eq_nil_of_le (Nat.le_refl _), cntL]
set_option maxHeartbeats 1000000 in
set_option maxRecDepth 100000 in
theorem counted_any : ∀ (t : VT) (m : Nat) (cs : List Value) (p o : Nat) (w : World), m < 500 → w.rangeAt p o cs → ValAt w w.heap.size cs t →
    Calls Tryz.prog 151 #[.pointer (some ⟨p, o, none⟩), .int .i64 m] w fun e w' => e = .returned (.int .i64 (cntV t m : Nat)) ∧ w' = w := by
  intro t
  induction t using VT.ind with
  | h k n f s ns its ih =>
    intro m cs p o w hm hr hv
    have IH := Lib.hid ih
    obtain ⟨vn, vi, rfl, _, _, _, _, _, _, hi⟩ := hv.inv
    obtain ⟨A, c, rfl, hil, hA⟩ := vals_at hi
    have HA := Lib.hid hA
    have d5 := hr 5 _ rfl
    have HS := Lib.hid (fun k m x => cntL_step (l := its) (k := k) (m := m) (x := x))
    have HE := Lib.hid (fun m => cntL_end (l := its) (m := m))
    have HLE := Lib.hid (fun x m hm => cntV_le x m hm)
    have H0 : Hid (cntL (its.drop 0) (m + 1) = cntV (.mk k n f s ns its) m) := Lib.hid (by rw [cntV]; rfl)
    have hm2 : (m : Int) < 500 := by omega
    clear ih hi hA hr hv
    generalize cntV (.mk k n f s ns its) m = res at *
    go_enter Tryz.func151, Tryz.ntmps151
    go_wp2
    go_loopg [1, 13] its.length (fun q n x u => ∃ (j m : Nat), j + q = its.length ∧ x = .int .i64 j ∧ n = .int .i64 m ∧ m ≤ 500 ∧ u = w ∧ cntL (its.drop j) m = res)
    case atStart => exact ⟨0, m + 1, by omega, rfl, by go_num, by omega, rfl, H0.out⟩
    case round =>
      obtain ⟨j, m, hj, rfl, rfl, hm5, rfl, hres⟩ := hrel
      have HR := Lib.hid hres
      clear hres
      cases gk with
      | zero =>
        obtain rfl : j = its.length := by omega
        have hge : ¬ ((its.length : Int) < (its.length : Int)) := by omega
        have HV := Lib.hid (HR.out.symm.trans (HE.out m))
        go_wp2
        go_ret
        exact ⟨by rw [HV.out]; rfl, rfl⟩
      | succ q =>
        have hlt : (j : Int) < (its.length : Int) := by omega
        obtain ⟨x, hx⟩ : ∃ x, its[j]? = some x := ⟨_, List.getElem?_eq_getElem (by omega)⟩
        obtain ⟨b, o', rfl, hbl, hc⟩ := HA.out (by omega)
        obtain ⟨ks, hks, hvx⟩ := hc j x hx
        have HV := Lib.hid (HR.out.symm.trans (HS.out j m x hx))
        by_cases h5 : 500 ≤ m
        · have HV2 := Lib.hid (HV.out.trans (if_pos h5))
          have t1 : (500 : Int) ≤ (m : Int) := by omega
          clear hc hks hvx hx HV
          go_wp2
          go_ret
          exact ⟨by rw [HV2.out]; rfl, rfl⟩
        · have HV2 := Lib.hid (HV.out.trans (if_neg h5))
          have t1 : ¬ ((500 : Int) ≤ (m : Int)) := by omega
          have HC := Lib.hid (IH.out x (List.mem_of_getElem? hx) m ks b (o' + j * 6) wr (by omega) hks hvx)
          have hle := HLE.out x m (by omega)
          clear hc hks hvx hx HV h5
          go_wp2_with (go_at_call 151; refine HC.out.mono ?_; rintro e z ⟨rfl, rfl⟩)
          go_roundg q
          case measure => omega
          case rel => exact ⟨j + 1, _, by omega, by go_num, rfl, hle, rfl, HV2.out.symm⟩
set_option maxHeartbeats 1000000 in
theorem parts_any (t : VT) (cs : List Value) (w : World) (hv : ValAt w w.heap.size cs t) : Calls Tryz.prog 140 #[.agg ⟨cs⟩] w fun e w' => e = .returned (.int .i64 (cntV t 0 : Nat)) ∧ Below w.heap.size w w' := by
  have HB1 := Lib.hid (box_below w (.cells ⟨cs⟩ 27))
  have HC := Lib.hid (counted_any t 0 cs w.heap.size 0 (w.alloc (.cells ⟨cs⟩ 27)) (by decide) (range_box w cs 27) (hv.next HB1.out))
  go_enter Tryz.func140, Tryz.ntmps140
  go_wp2_with (go_at_call 151; refine HC.out.mono ?_; rintro e z ⟨rfl, rfl⟩)
  go_ret
  exact ⟨rfl, HB1.out⟩
end Go.Proofs.YtppmkehdhpgdcaaGreat
end
