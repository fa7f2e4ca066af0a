/- value.Name. -/
import Derived.Test.YtieciegfloldhaaGreatDoorVEq
import Derived.Laws.IdiomStrings
namespace Go.Proofs.YtieciegfloldhaaGreatDoor
open Go Go.RowKit
set_option linter.unusedVariables false
set_option linter.unusedSimpArgs false

def okC (i : Nat) (c : UInt8) : Bool := (decide (97 ≤ c.toNat) && decide (c.toNat ≤ 122)) || (decide (0 < i) && (c.toNat == 95 || (decide (48 ≤ c.toNat) && decide (c.toNat ≤ 57))))
def okFrom : List UInt8 → Nat → Bool
  | [], _ => true
  | c :: l, i => okC i c && okFrom l (i + 1)
def nameB (s : ByteArray) : Bool := decide (0 < s.size) && decide (s.size ≤ 30) && okFrom s.data.toList 0
theorem cell_boxf (w : World) (C : Array Value) (T : TypeId) (fz : Nat × Nat) (i : Nat) : (w.alloc (.cells C T fz)).cell? ⟨w.heap.size, i, none⟩ = C[i]? := by
  exact cell_of_row _ w.heap.size i C T fz (heap_alloc_new w _)
theorem bytesRow_at (s : ByteArray) (n k : Nat) {c : UInt8} (h : s.data.toList[k]? = some c) : (bytesRow s n)[k]? = some (.int .u8 c.toNat) := by
  have h1 : k < s.data.size := by have := (List.getElem?_eq_some_iff.1 h).1; simpa using this
  unfold bytesRow
  rw [Array.getElem?_append_left (by simpa using h1), Array.getElem?_map]
  have h2 : s.data[k]? = some c := by simpa using h
  rw [h2]; rfl
theorem okFrom_step {l : List UInt8} {k : Nat} {c : UInt8} (h : l[k]? = some c) : okFrom (l.drop k) k = (okC k c && okFrom (l.drop (k + 1)) (k + 1)) := by
  rw [drop_at h]; rfl
set_option maxHeartbeats 1000000 in
set_option maxRecDepth 100000 in
theorem name_any (s : ByteArray) (w : World) : Calls Tryz.prog 18 #[.string s] w fun e w' => e = .returned (.bool (nameB s)) ∧ Below w.heap.size w w' := by
  have HN : Hid (nameB s = (decide (0 < s.size) && decide (s.size ≤ 30) && okFrom s.data.toList 0)) := Lib.hid rfl
  have HL : Hid (s.data.toList.length = s.size) := Lib.hid (by cases s; rfl)
  by_cases h0 : s.size = 0
  · have hl : s.data.toList = [] := List.eq_nil_of_length_eq_zero (by rw [HL.out, h0])
    have t0 : s.toList = [] := by rw [toList_eq, hl]
    have t1 : s.toList.isEmpty = true := by rw [t0]; rfl
    have HR : Hid (nameB s = false) := Lib.hid (by rw [HN.out, h0]; rfl)
    clear hl h0
    go_enter Tryz.func18, Tryz.ntmps18
    go_wp2
    go_ret
    exact ⟨ret_bool HR.out.symm, Below.refl _ w⟩
  have t0 : ¬ s.toList = [] := fun h => h0 (by rw [← HL.out, ← toList_eq, h]; rfl)
  have t1 : s.toList.isEmpty = false := by rw [Bool.eq_false_iff]; intro h; exact t0 (List.isEmpty_iff.1 h)
  by_cases h1 : s.size ≤ 30
  · have t2 : (s.size : Int) ≤ 30 := by omega
    have HR : Hid (nameB s = okFrom s.data.toList 0) := Lib.hid (by rw [HN.out, decide_eq_true (by omega), decide_eq_true h1]; rfl)
    have hcv : ∀ W : World, (convert 9 51 (.string s)).run Tryz.prog W = .ok (.slice (some ⟨W.heap.size, 0, none⟩) s.size (grownCap W s.size 0 5)) (W.drew.alloc (.cells (bytesRow s (grownCap W s.size 0 5)) 5 ((bytesRow s (grownCap W s.size 0 5)).size, (bytesRow s (grownCap W s.size 0 5)).size + 1))) := fun W => run_bytes_of_string W _ _ _ s Tryz.underlying9 Tryz.underlying51 Tryz.underlying5
    have HC := Lib.hid (fun (W : World) (n : Nat) fz (k : Nat) (c : UInt8) (h : s.data.toList[k]? = some c) => (cell_boxf W (bytesRow s n) 5 fz k).trans (bytesRow_at s n k h))
    have HS := Lib.hid (fun k c => okFrom_step (l := s.data.toList) (k := k) (c := c))
    have HE : Hid (∀ k, okFrom (s.data.toList.drop s.size) k = true) := Lib.hid fun k => by rw [List.drop_eq_nil_of_le (by rw [HL.out]; exact Nat.le_refl _)]; rfl
    have H0 : Hid (okFrom (s.data.toList.drop 0) 0 = okFrom s.data.toList 0) := Lib.hid rfl
    generalize okFrom s.data.toList 0 = res at *
    go_enter Tryz.func18, Tryz.ntmps18
    go_upto_region 4 with (fail)
    have HCC : Hid (∀ (k : Nat) c, s.data.toList[k]? = some c → ((w.alloc (Obj.cells (bytesRow s (grownCap w s.size 0 5)) 5 ((bytesRow s (grownCap w s.size 0 5)).size, (bytesRow s (grownCap w s.size 0 5)).size + 1))).drew).cell? ⟨w.heap.size, k, none⟩ = some (.int .u8 c.toNat)) := Lib.hid (fun k c h => HC.out w _ _ k c h)
    have HB : Hid (Below w.heap.size w ((w.alloc (Obj.cells (bytesRow s (grownCap w s.size 0 5)) 5 ((bytesRow s (grownCap w s.size 0 5)).size, (bytesRow s (grownCap w s.size 0 5)).size + 1))).drew)) := Lib.hid (box_below w _).drew
    generalize (w.alloc (Obj.cells (bytesRow s (grownCap w s.size 0 5)) 5 ((bytesRow s (grownCap w s.size 0 5)).size, (bytesRow s (grownCap w s.size 0 5)).size + 1))).drew = W1 at *
    generalize grownCap w s.size 0 5 = cp at *
    clear hcv HC HN
    go_wp2
    go_loopg [15] s.size (fun q x u => ∃ k : Nat, k + q = s.size ∧ x = .int .i64 k ∧ u = W1 ∧ okFrom (s.data.toList.drop k) k = res)
    case atStart => exact ⟨0, by omega, rfl, rfl, H0.out⟩
    case round =>
      obtain ⟨k, hk, rfl, rfl, hres⟩ := hrel
      have HR2 := Lib.hid hres
      clear hres
      cases gk with
      | zero =>
        obtain rfl : k = s.size := by omega
        have hge : ¬ ((s.size : Int) < (s.size : Int)) := by omega
        have HV := Lib.hid (HR2.out.symm.trans (HE.out s.size))
        go_wp2
        go_ret
        exact ⟨ret_bool (HR.out.trans HV.out).symm, HB.out⟩
      | succ q =>
        have hlt : (k : Int) < (s.size : Int) := by omega
        obtain ⟨c, hc⟩ : ∃ c, s.data.toList[k]? = some c := ⟨_, List.getElem?_eq_getElem (by rw [HL.out]; omega)⟩
        have dk := HCC.out k c hc
        have HKC := Lib.hid hc
        clear hc
        by_cases h97 : 97 ≤ c.toNat
        · by_cases h122 : c.toNat ≤ 122
          · have d97 : decide (97 ≤ c.toNat) = true := decide_eq_true (by omega)
            have d122 : decide (c.toNat ≤ 122) = true := decide_eq_true (by omega)
            have f97 : 97 ≤ (c.toNat : Int) := by omega
            have f122 : (c.toNat : Int) ≤ 122 := by omega
            have hok : okC k c = true := by unfold okC; simp only [d97, d122, Bool.and_self, Bool.true_or]; try rfl
            have HV : Hid (res = okFrom (s.data.toList.drop (k + 1)) (k + 1)) := Lib.hid (HR2.out.symm.trans ((HS.out k c HKC.out).trans (by rw [hok]; exact Bool.true_and _)))
            clear hok
            go_wp2
            go_roundg q
            case measure => omega
            case rel => exact ⟨k + 1, by omega, by go_num, rfl, HV.out.symm⟩
          · have d97 : decide (97 ≤ c.toNat) = true := decide_eq_true (by omega)
            have d122 : decide (c.toNat ≤ 122) = false := decide_eq_false (by omega)
            have f97 : 97 ≤ (c.toNat : Int) := by omega
            have f122 : ¬ ((c.toNat : Int) ≤ 122) := by omega
            by_cases hk0 : k = 0
            · subst hk0
              have d0 : decide ((0 : Nat) < 0) = false := rfl
              have hok : okC 0 c = false := by unfold okC; simp only [d97, d122, Bool.and_false, Bool.false_or, d0, Bool.false_and, Bool.or_false, Bool.and_false, Bool.true_and]; try rfl
              have HV : Hid (res = false) := Lib.hid (HR2.out.symm.trans ((HS.out 0 c HKC.out).trans (by rw [hok]; exact Bool.false_and _)))
              clear hok
              go_wp2
              go_ret
              exact ⟨ret_bool (HR.out.trans HV.out).symm, HB.out⟩
            · have d0 : decide (0 < k) = true := decide_eq_true (by omega)
              have k0' : 0 < (k : Int) := by omega
              by_cases h95 : c.toNat = 95
              · have e1 : (c.toNat == 95) = true := by simpa using h95
                have e1' : (c.toNat : Int) = 95 := by omega
                have hok : okC k c = true := by unfold okC; simp only [d97, d122, Bool.and_false, Bool.false_or, d0, e1, Bool.true_or, Bool.true_and, Bool.and_self, Bool.false_and, Bool.and_false, Bool.false_or]; try rfl
                have HV : Hid (res = okFrom (s.data.toList.drop (k + 1)) (k + 1)) := Lib.hid (HR2.out.symm.trans ((HS.out k c HKC.out).trans (by rw [hok]; exact Bool.true_and _)))
                clear hok
                go_wp2
                go_roundg q
                case measure => omega
                case rel => exact ⟨k + 1, by omega, by go_num, rfl, HV.out.symm⟩
              · have e1 : (c.toNat == 95) = false := by simpa using h95
                have e1' : ((c.toNat : Int) == 95) = false := by rw [beq_eq_false_iff_ne]; omega
                by_cases h48 : 48 ≤ c.toNat
                · by_cases h57 : c.toNat ≤ 57
                  · have d48 : decide (48 ≤ c.toNat) = true := decide_eq_true (by omega)
                    have d57 : decide (c.toNat ≤ 57) = true := decide_eq_true (by omega)
                    have f48 : 48 ≤ (c.toNat : Int) := by omega
                    have f57 : (c.toNat : Int) ≤ 57 := by omega
                    have hok : okC k c = true := by unfold okC; simp only [d97, d122, Bool.and_false, Bool.false_or, d0, e1, d48, d57, Bool.false_and, Bool.and_false, Bool.false_or, Bool.or_true, Bool.and_self]; try rfl
                    have HV : Hid (res = okFrom (s.data.toList.drop (k + 1)) (k + 1)) := Lib.hid (HR2.out.symm.trans ((HS.out k c HKC.out).trans (by rw [hok]; exact Bool.true_and _)))
                    clear hok
                    go_wp2
                    go_roundg q
                    case measure => omega
                    case rel => exact ⟨k + 1, by omega, by go_num, rfl, HV.out.symm⟩
                  · have d48 : decide (48 ≤ c.toNat) = true := decide_eq_true (by omega)
                    have d57 : decide (c.toNat ≤ 57) = false := decide_eq_false (by omega)
                    have f48 : 48 ≤ (c.toNat : Int) := by omega
                    have f57 : ¬ ((c.toNat : Int) ≤ 57) := by omega
                    have hok : okC k c = false := by unfold okC; simp only [d97, d122, Bool.and_false, Bool.false_or, d0, e1, d48, d57, Bool.false_and, Bool.and_false, Bool.false_or, Bool.or_self, Bool.and_self]; try rfl
                    have HV : Hid (res = false) := Lib.hid (HR2.out.symm.trans ((HS.out k c HKC.out).trans (by rw [hok]; exact Bool.false_and _)))
                    clear hok
                    go_wp2
                    go_ret
                    exact ⟨ret_bool (HR.out.trans HV.out).symm, HB.out⟩
                · have d48 : decide (48 ≤ c.toNat) = false := decide_eq_false (by omega)
                  have f48 : ¬ (48 ≤ (c.toNat : Int)) := by omega
                  have hok : okC k c = false := by unfold okC; simp only [d97, d122, Bool.and_false, Bool.false_or, d0, e1, d48, Bool.false_and, Bool.and_false, Bool.false_or, Bool.or_self, Bool.and_self]; try rfl
                  have HV : Hid (res = false) := Lib.hid (HR2.out.symm.trans ((HS.out k c HKC.out).trans (by rw [hok]; exact Bool.false_and _)))
                  clear hok
                  go_wp2
                  go_ret
                  exact ⟨ret_bool (HR.out.trans HV.out).symm, HB.out⟩
        · have d97 : decide (97 ≤ c.toNat) = false := decide_eq_false (by omega)
          have f97 : ¬ (97 ≤ (c.toNat : Int)) := by omega
          by_cases hk0 : k = 0
          · subst hk0
            have d0 : decide ((0 : Nat) < 0) = false := rfl
            have hok : okC 0 c = false := by unfold okC; simp only [d97, Bool.false_and, Bool.false_or, d0, Bool.false_and, Bool.or_false, Bool.and_false, Bool.true_and]; try rfl
            have HV : Hid (res = false) := Lib.hid (HR2.out.symm.trans ((HS.out 0 c HKC.out).trans (by rw [hok]; exact Bool.false_and _)))
            clear hok
            go_wp2
            go_ret
            exact ⟨ret_bool (HR.out.trans HV.out).symm, HB.out⟩
          · have d0 : decide (0 < k) = true := decide_eq_true (by omega)
            have k0' : 0 < (k : Int) := by omega
            by_cases h95 : c.toNat = 95
            · have e1 : (c.toNat == 95) = true := by simpa using h95
              have e1' : (c.toNat : Int) = 95 := by omega
              have hok : okC k c = true := by unfold okC; simp only [d97, Bool.false_and, Bool.false_or, d0, e1, Bool.true_or, Bool.true_and, Bool.and_self, Bool.false_and, Bool.and_false, Bool.false_or]; try rfl
              have HV : Hid (res = okFrom (s.data.toList.drop (k + 1)) (k + 1)) := Lib.hid (HR2.out.symm.trans ((HS.out k c HKC.out).trans (by rw [hok]; exact Bool.true_and _)))
              clear hok
              go_wp2
              go_roundg q
              case measure => omega
              case rel => exact ⟨k + 1, by omega, by go_num, rfl, HV.out.symm⟩
            · have e1 : (c.toNat == 95) = false := by simpa using h95
              have e1' : ((c.toNat : Int) == 95) = false := by rw [beq_eq_false_iff_ne]; omega
              by_cases h48 : 48 ≤ c.toNat
              · by_cases h57 : c.toNat ≤ 57
                · have d48 : decide (48 ≤ c.toNat) = true := decide_eq_true (by omega)
                  have d57 : decide (c.toNat ≤ 57) = true := decide_eq_true (by omega)
                  have f48 : 48 ≤ (c.toNat : Int) := by omega
                  have f57 : (c.toNat : Int) ≤ 57 := by omega
                  have hok : okC k c = true := by unfold okC; simp only [d97, Bool.false_and, Bool.false_or, d0, e1, d48, d57, Bool.false_and, Bool.and_false, Bool.false_or, Bool.or_true, Bool.and_self]; try rfl
                  have HV : Hid (res = okFrom (s.data.toList.drop (k + 1)) (k + 1)) := Lib.hid (HR2.out.symm.trans ((HS.out k c HKC.out).trans (by rw [hok]; exact Bool.true_and _)))
                  clear hok
                  go_wp2
                  go_roundg q
                  case measure => omega
                  case rel => exact ⟨k + 1, by omega, by go_num, rfl, HV.out.symm⟩
                · have d48 : decide (48 ≤ c.toNat) = true := decide_eq_true (by omega)
                  have d57 : decide (c.toNat ≤ 57) = false := decide_eq_false (by omega)
                  have f48 : 48 ≤ (c.toNat : Int) := by omega
                  have f57 : ¬ ((c.toNat : Int) ≤ 57) := by omega
                  have hok : okC k c = false := by unfold okC; simp only [d97, Bool.false_and, Bool.false_or, d0, e1, d48, d57, Bool.false_and, Bool.and_false, Bool.false_or, Bool.or_self, Bool.and_self]; try rfl
                  have HV : Hid (res = false) := Lib.hid (HR2.out.symm.trans ((HS.out k c HKC.out).trans (by rw [hok]; exact Bool.false_and _)))
                  clear hok
                  go_wp2
                  go_ret
                  exact ⟨ret_bool (HR.out.trans HV.out).symm, HB.out⟩
              · have d48 : decide (48 ≤ c.toNat) = false := decide_eq_false (by omega)
                have f48 : ¬ (48 ≤ (c.toNat : Int)) := by omega
                have hok : okC k c = false := by unfold okC; simp only [d97, Bool.false_and, Bool.false_or, d0, e1, d48, Bool.false_and, Bool.and_false, Bool.false_or, Bool.or_self, Bool.and_self]; try rfl
                have HV : Hid (res = false) := Lib.hid (HR2.out.symm.trans ((HS.out k c HKC.out).trans (by rw [hok]; exact Bool.false_and _)))
                clear hok
                go_wp2
                go_ret
                exact ⟨ret_bool (HR.out.trans HV.out).symm, HB.out⟩
  · have t2 : ¬ ((s.size : Int) ≤ 30) := by omega
    have HR : Hid (nameB s = false) := Lib.hid (by rw [HN.out, decide_eq_false h1, Bool.and_false]; rfl)
    go_enter Tryz.func18, Tryz.ntmps18
    go_wp2
    go_ret
    exact ⟨ret_bool HR.out.symm, Below.refl _ w⟩
end Go.Proofs.YtieciegfloldhaaGreatDoor
