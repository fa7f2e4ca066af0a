/- value.bare, value.rising, value.counted, value.Parts. -/
import Derived.Test.YtieciegfloldhaaGreatDoorVName
namespace Go.Proofs.YtieciegfloldhaaGreatDoor
open Go Go.RowKit
set_option linter.unusedVariables false

def bareB (a b c d : Bool) (n : Int) (f : Nat) (s : ByteArray) (ns its : Nat) : Bool := (a || n == 0) && ((b || cmpF f 0 == 0) && ((c || s.toList.isEmpty) && (d || (ns == 0 && its == 0))))
set_option maxHeartbeats 1000000 in
set_option maxRecDepth 100000 in
theorem bare_n (p o : Nat) (k n : Int) (f : Nat) (s : ByteArray) (A D : Option Addr) (ns its ca cd : Nat) (w : World) (hf0 : f < 2 ^ 64) (h : w.rangeAt p o [.int .i64 k, .int .i64 n, .float .f64 f, .string s, .slice A ns ca, .slice D its cd]) :
    Calls Tryz.prog 59 #[.pointer (some ⟨p, o, none⟩), .bool true, .bool false, .bool false, .bool false] w fun e w' => e = .returned (.bool (bareB true false false false n f s ns its)) ∧ w' = w := by
  have d1 := h 1 _ rfl
  have d2 := h 2 _ rfl
  have d3 := h 3 _ rfl
  have d4 := h 4 _ rfl
  have d5 := h 5 _ rfl
  have HFO := Lib.hid (fun w => forder_any f 0 hf0 (by decide) w)
  clear h hf0
  by_cases hf : cmpF f 0 = 0
  · have t2 : (cmpF f 0 == 0) = true := by simpa using hf
    by_cases hs : s.toList = []
    · have t3 : s.toList.isEmpty = true := by rw [hs]; rfl
      by_cases hm : ns = 0
      · have t4 : (ns == 0) = true := by simpa using hm
        have t4' : ((ns : Int) == 0) = true := by rw [hm]; rfl
        by_cases hi : its = 0
        · have t5 : (its == 0) = true := by simpa using hi
          have t5' : ((its : Int) == 0) = true := by rw [hi]; rfl
          have HR : Hid (bareB true false false false n f s ns its = true) := Lib.hid (by unfold bareB; simp [t2, t3, t4, t5])
          generalize cmpF f 0 = cf at *
          go_enter Tryz.func59, Tryz.ntmps59
          go_wp2_with (go_at_call 70; refine (HFO.out _).mono ?_; rintro e z ⟨rfl, rfl⟩)
          go_ret
          exact ⟨ret_bool HR.out.symm, rfl⟩
        · have t5 : (its == 0) = false := by simpa using hi
          have t5' : ((its : Int) == 0) = false := by rw [beq_eq_false_iff_ne]; omega
          have HR : Hid (bareB true false false false n f s ns its = false) := Lib.hid (by unfold bareB; simp [t2, t3, t4, t5])
          generalize cmpF f 0 = cf at *
          go_enter Tryz.func59, Tryz.ntmps59
          go_wp2_with (go_at_call 70; refine (HFO.out _).mono ?_; rintro e z ⟨rfl, rfl⟩)
          go_ret
          exact ⟨ret_bool HR.out.symm, rfl⟩
      · have t4 : (ns == 0) = false := by simpa using hm
        have t4' : ((ns : Int) == 0) = false := by rw [beq_eq_false_iff_ne]; omega
        have HR : Hid (bareB true false false false n f s ns its = false) := Lib.hid (by unfold bareB; simp [t2, t3, t4])
        generalize cmpF f 0 = cf at *
        go_enter Tryz.func59, Tryz.ntmps59
        go_wp2_with (go_at_call 70; refine (HFO.out _).mono ?_; rintro e z ⟨rfl, rfl⟩)
        go_ret
        exact ⟨ret_bool HR.out.symm, rfl⟩
    · have t3 : s.toList.isEmpty = false := by rw [Bool.eq_false_iff]; intro h; exact hs (List.isEmpty_iff.1 h)
      have HR : Hid (bareB true false false false n f s ns its = false) := Lib.hid (by unfold bareB; simp [t2, t3])
      generalize cmpF f 0 = cf at *
      go_enter Tryz.func59, Tryz.ntmps59
      go_wp2_with (go_at_call 70; refine (HFO.out _).mono ?_; rintro e z ⟨rfl, rfl⟩)
      go_ret
      exact ⟨ret_bool HR.out.symm, rfl⟩
  · have t2 : (cmpF f 0 == 0) = false := by simpa using hf
    have HR : Hid (bareB true false false false n f s ns its = false) := Lib.hid (by unfold bareB; simp [t2])
    generalize cmpF f 0 = cf at *
    go_enter Tryz.func59, Tryz.ntmps59
    go_wp2_with (go_at_call 70; refine (HFO.out _).mono ?_; rintro e z ⟨rfl, rfl⟩)
    go_ret
    exact ⟨ret_bool HR.out.symm, rfl⟩
set_option maxHeartbeats 1000000 in
set_option maxRecDepth 100000 in
theorem bare_f (p o : Nat) (k n : Int) (f : Nat) (s : ByteArray) (A D : Option Addr) (ns its ca cd : Nat) (w : World) (hf0 : f < 2 ^ 64) (h : w.rangeAt p o [.int .i64 k, .int .i64 n, .float .f64 f, .string s, .slice A ns ca, .slice D its cd]) :
    Calls Tryz.prog 59 #[.pointer (some ⟨p, o, none⟩), .bool false, .bool true, .bool false, .bool false] w fun e w' => e = .returned (.bool (bareB false true false false n f s ns its)) ∧ w' = w := by
  have d1 := h 1 _ rfl
  have d2 := h 2 _ rfl
  have d3 := h 3 _ rfl
  have d4 := h 4 _ rfl
  have d5 := h 5 _ rfl
  have HFO := Lib.hid (fun w => forder_any f 0 hf0 (by decide) w)
  clear h hf0
  by_cases hn : n = 0
  · have t1 : (n == 0) = true := by simpa using hn
    by_cases hs : s.toList = []
    · have t3 : s.toList.isEmpty = true := by rw [hs]; rfl
      by_cases hm : ns = 0
      · have t4 : (ns == 0) = true := by simpa using hm
        have t4' : ((ns : Int) == 0) = true := by rw [hm]; rfl
        by_cases hi : its = 0
        · have t5 : (its == 0) = true := by simpa using hi
          have t5' : ((its : Int) == 0) = true := by rw [hi]; rfl
          have HR : Hid (bareB false true false false n f s ns its = true) := Lib.hid (by unfold bareB; simp [t1, t3, t4, t5])
          generalize cmpF f 0 = cf at *
          go_enter Tryz.func59, Tryz.ntmps59
          go_wp2_with (go_at_call 70; refine (HFO.out _).mono ?_; rintro e z ⟨rfl, rfl⟩)
          go_ret
          exact ⟨ret_bool HR.out.symm, rfl⟩
        · have t5 : (its == 0) = false := by simpa using hi
          have t5' : ((its : Int) == 0) = false := by rw [beq_eq_false_iff_ne]; omega
          have HR : Hid (bareB false true false false n f s ns its = false) := Lib.hid (by unfold bareB; simp [t1, t3, t4, t5])
          generalize cmpF f 0 = cf at *
          go_enter Tryz.func59, Tryz.ntmps59
          go_wp2_with (go_at_call 70; refine (HFO.out _).mono ?_; rintro e z ⟨rfl, rfl⟩)
          go_ret
          exact ⟨ret_bool HR.out.symm, rfl⟩
      · have t4 : (ns == 0) = false := by simpa using hm
        have t4' : ((ns : Int) == 0) = false := by rw [beq_eq_false_iff_ne]; omega
        have HR : Hid (bareB false true false false n f s ns its = false) := Lib.hid (by unfold bareB; simp [t1, t3, t4])
        generalize cmpF f 0 = cf at *
        go_enter Tryz.func59, Tryz.ntmps59
        go_wp2_with (go_at_call 70; refine (HFO.out _).mono ?_; rintro e z ⟨rfl, rfl⟩)
        go_ret
        exact ⟨ret_bool HR.out.symm, rfl⟩
    · have t3 : s.toList.isEmpty = false := by rw [Bool.eq_false_iff]; intro h; exact hs (List.isEmpty_iff.1 h)
      have HR : Hid (bareB false true false false n f s ns its = false) := Lib.hid (by unfold bareB; simp [t1, t3])
      generalize cmpF f 0 = cf at *
      go_enter Tryz.func59, Tryz.ntmps59
      go_wp2_with (go_at_call 70; refine (HFO.out _).mono ?_; rintro e z ⟨rfl, rfl⟩)
      go_ret
      exact ⟨ret_bool HR.out.symm, rfl⟩
  · have t1 : (n == 0) = false := by simpa using hn
    have HR : Hid (bareB false true false false n f s ns its = false) := Lib.hid (by unfold bareB; simp [t1])
    generalize cmpF f 0 = cf at *
    go_enter Tryz.func59, Tryz.ntmps59
    go_wp2_with (go_at_call 70; refine (HFO.out _).mono ?_; rintro e z ⟨rfl, rfl⟩)
    go_ret
    exact ⟨ret_bool HR.out.symm, rfl⟩
set_option maxHeartbeats 1000000 in
set_option maxRecDepth 100000 in
theorem bare_s (p o : Nat) (k n : Int) (f : Nat) (s : ByteArray) (A D : Option Addr) (ns its ca cd : Nat) (w : World) (hf0 : f < 2 ^ 64) (h : w.rangeAt p o [.int .i64 k, .int .i64 n, .float .f64 f, .string s, .slice A ns ca, .slice D its cd]) :
    Calls Tryz.prog 59 #[.pointer (some ⟨p, o, none⟩), .bool false, .bool false, .bool true, .bool false] w fun e w' => e = .returned (.bool (bareB false false true false n f s ns its)) ∧ w' = w := by
  have d1 := h 1 _ rfl
  have d2 := h 2 _ rfl
  have d3 := h 3 _ rfl
  have d4 := h 4 _ rfl
  have d5 := h 5 _ rfl
  have HFO := Lib.hid (fun w => forder_any f 0 hf0 (by decide) w)
  clear h hf0
  by_cases hn : n = 0
  · have t1 : (n == 0) = true := by simpa using hn
    by_cases hf : cmpF f 0 = 0
    · have t2 : (cmpF f 0 == 0) = true := by simpa using hf
      by_cases hm : ns = 0
      · have t4 : (ns == 0) = true := by simpa using hm
        have t4' : ((ns : Int) == 0) = true := by rw [hm]; rfl
        by_cases hi : its = 0
        · have t5 : (its == 0) = true := by simpa using hi
          have t5' : ((its : Int) == 0) = true := by rw [hi]; rfl
          have HR : Hid (bareB false false true false n f s ns its = true) := Lib.hid (by unfold bareB; simp [t1, t2, t4, t5])
          generalize cmpF f 0 = cf at *
          go_enter Tryz.func59, Tryz.ntmps59
          go_wp2_with (go_at_call 70; refine (HFO.out _).mono ?_; rintro e z ⟨rfl, rfl⟩)
          go_ret
          exact ⟨ret_bool HR.out.symm, rfl⟩
        · have t5 : (its == 0) = false := by simpa using hi
          have t5' : ((its : Int) == 0) = false := by rw [beq_eq_false_iff_ne]; omega
          have HR : Hid (bareB false false true false n f s ns its = false) := Lib.hid (by unfold bareB; simp [t1, t2, t4, t5])
          generalize cmpF f 0 = cf at *
          go_enter Tryz.func59, Tryz.ntmps59
          go_wp2_with (go_at_call 70; refine (HFO.out _).mono ?_; rintro e z ⟨rfl, rfl⟩)
          go_ret
          exact ⟨ret_bool HR.out.symm, rfl⟩
      · have t4 : (ns == 0) = false := by simpa using hm
        have t4' : ((ns : Int) == 0) = false := by rw [beq_eq_false_iff_ne]; omega
        have HR : Hid (bareB false false true false n f s ns its = false) := Lib.hid (by unfold bareB; simp [t1, t2, t4])
        generalize cmpF f 0 = cf at *
        go_enter Tryz.func59, Tryz.ntmps59
        go_wp2_with (go_at_call 70; refine (HFO.out _).mono ?_; rintro e z ⟨rfl, rfl⟩)
        go_ret
        exact ⟨ret_bool HR.out.symm, rfl⟩
    · have t2 : (cmpF f 0 == 0) = false := by simpa using hf
      have HR : Hid (bareB false false true false n f s ns its = false) := Lib.hid (by unfold bareB; simp [t1, t2])
      generalize cmpF f 0 = cf at *
      go_enter Tryz.func59, Tryz.ntmps59
      go_wp2_with (go_at_call 70; refine (HFO.out _).mono ?_; rintro e z ⟨rfl, rfl⟩)
      go_ret
      exact ⟨ret_bool HR.out.symm, rfl⟩
  · have t1 : (n == 0) = false := by simpa using hn
    have HR : Hid (bareB false false true false n f s ns its = false) := Lib.hid (by unfold bareB; simp [t1])
    generalize cmpF f 0 = cf at *
    go_enter Tryz.func59, Tryz.ntmps59
    go_wp2_with (go_at_call 70; refine (HFO.out _).mono ?_; rintro e z ⟨rfl, rfl⟩)
    go_ret
    exact ⟨ret_bool HR.out.symm, rfl⟩
set_option maxHeartbeats 1000000 in
set_option maxRecDepth 100000 in
theorem bare_r (p o : Nat) (k n : Int) (f : Nat) (s : ByteArray) (A D : Option Addr) (ns its ca cd : Nat) (w : World) (hf0 : f < 2 ^ 64) (h : w.rangeAt p o [.int .i64 k, .int .i64 n, .float .f64 f, .string s, .slice A ns ca, .slice D its cd]) :
    Calls Tryz.prog 59 #[.pointer (some ⟨p, o, none⟩), .bool false, .bool false, .bool false, .bool true] w fun e w' => e = .returned (.bool (bareB false false false true n f s ns its)) ∧ w' = w := by
  have d1 := h 1 _ rfl
  have d2 := h 2 _ rfl
  have d3 := h 3 _ rfl
  have d4 := h 4 _ rfl
  have d5 := h 5 _ rfl
  have HFO := Lib.hid (fun w => forder_any f 0 hf0 (by decide) w)
  clear h hf0
  by_cases hn : n = 0
  · have t1 : (n == 0) = true := by simpa using hn
    by_cases hf : cmpF f 0 = 0
    · have t2 : (cmpF f 0 == 0) = true := by simpa using hf
      by_cases hs : s.toList = []
      · have t3 : s.toList.isEmpty = true := by rw [hs]; rfl
        have HR : Hid (bareB false false false true n f s ns its = true) := Lib.hid (by unfold bareB; simp [t1, t2, t3])
        generalize cmpF f 0 = cf at *
        go_enter Tryz.func59, Tryz.ntmps59
        go_wp2_with (go_at_call 70; refine (HFO.out _).mono ?_; rintro e z ⟨rfl, rfl⟩)
        go_ret
        exact ⟨ret_bool HR.out.symm, rfl⟩
      · have t3 : s.toList.isEmpty = false := by rw [Bool.eq_false_iff]; intro h; exact hs (List.isEmpty_iff.1 h)
        have HR : Hid (bareB false false false true n f s ns its = false) := Lib.hid (by unfold bareB; simp [t1, t2, t3])
        generalize cmpF f 0 = cf at *
        go_enter Tryz.func59, Tryz.ntmps59
        go_wp2_with (go_at_call 70; refine (HFO.out _).mono ?_; rintro e z ⟨rfl, rfl⟩)
        go_ret
        exact ⟨ret_bool HR.out.symm, rfl⟩
    · have t2 : (cmpF f 0 == 0) = false := by simpa using hf
      have HR : Hid (bareB false false false true n f s ns its = false) := Lib.hid (by unfold bareB; simp [t1, t2])
      generalize cmpF f 0 = cf at *
      go_enter Tryz.func59, Tryz.ntmps59
      go_wp2_with (go_at_call 70; refine (HFO.out _).mono ?_; rintro e z ⟨rfl, rfl⟩)
      go_ret
      exact ⟨ret_bool HR.out.symm, rfl⟩
  · have t1 : (n == 0) = false := by simpa using hn
    have HR : Hid (bareB false false false true n f s ns its = false) := Lib.hid (by unfold bareB; simp [t1])
    generalize cmpF f 0 = cf at *
    go_enter Tryz.func59, Tryz.ntmps59
    go_wp2_with (go_at_call 70; refine (HFO.out _).mono ?_; rintro e z ⟨rfl, rfl⟩)
    go_ret
    exact ⟨ret_bool HR.out.symm, rfl⟩

def riseB : Option ByteArray → List ByteArray → Bool
  | _, [] => true
  | none, s :: l => nameB s && riseB (some s) l
  | some p, s :: l => nameB s && (Op.bytesLess p.toList s.toList && riseB (some s) l)
def prevK (l : List ByteArray) (k : Nat) : Option ByteArray := if k = 0 then none else l[k - 1]?
theorem rise_first {l : List ByteArray} {s : ByteArray} (h : l[0]? = some s) : riseB (prevK l 0) (l.drop 0) = (nameB s && riseB (prevK l 1) (l.drop 1)) := by
  rw [drop_at h]
  show (nameB s && riseB (some s) (l.drop 1)) = _
  unfold prevK
  simp [h]
theorem rise_next {l : List ByteArray} {k : Nat} {p s : ByteArray} (hp : l[k]? = some p) (h : l[k + 1]? = some s) : riseB (prevK l (k + 1)) (l.drop (k + 1)) = (nameB s && (Op.bytesLess p.toList s.toList && riseB (prevK l (k + 2)) (l.drop (k + 2)))) := by
  rw [drop_at h]
  have h1 : prevK l (k + 1) = some p := by unfold prevK; simp [hp]
  have h2 : prevK l (k + 2) = some s := by unfold prevK; simp [h]
  rw [h1, h2]
  rfl
theorem rise_end {l : List ByteArray} : riseB (prevK l l.length) (l.drop l.length) = true := by
  rw [List.drop_eq_nil_of_le (Nat.le_refl _)]; rw [riseB]
set_option maxHeartbeats 1000000 in
set_option maxRecDepth 100000 in
theorem rising_any (v : Value) (l : List ByteArray) (w : World) (hv : SlAt w w.heap.size 1 StrR v l) :
    Calls Tryz.prog 60 #[v] w fun e w' => e = .returned (.bool (riseB none l)) ∧ Below w.heap.size w w' := by
  obtain ⟨_, A, c, rfl, _⟩ := id hv
  obtain ⟨_, hl, ha⟩ := str_at hv
  have HA := Lib.hid ha
  have H1 := Lib.hid (fun s => rise_first (l := l) (s := s))
  have H2 := Lib.hid (fun k p s => rise_next (l := l) (k := k) (p := p) (s := s))
  have HE := Lib.hid (rise_end (l := l))
  have H0 : Hid (riseB (prevK l 0) (l.drop 0) = riseB none l) := Lib.hid rfl
  have hl2 : (l.length : Int) ≤ 9223372036854775807 := by omega
  clear ha hv
  generalize riseB none l = res at *
  go_enter Tryz.func60, Tryz.ntmps60
  go_wp2
  go_loopg [7] l.length (fun q x u => ∃ k : Nat, k + q = l.length ∧ x = .int .i64 k ∧ Below w.heap.size w u ∧ riseB (prevK l k) (l.drop k) = res)
  case atStart => exact ⟨0, by omega, rfl, Below.refl _ _, H0.out⟩
  case round =>
    obtain ⟨k, hk, rfl, hb, hres⟩ := hrel
    have HR := Lib.hid hres
    have HBK := Lib.hid hb
    clear hres hb
    cases gk with
    | zero =>
      obtain rfl : k = l.length := by omega
      have hge : ¬ ((l.length : Int) < (l.length : Int)) := by omega
      have HV := Lib.hid (HR.out.symm.trans HE.out)
      clear HR
      go_wp2
      go_ret
      exact ⟨ret_bool HV.out.symm, HBK.out⟩
    | succ q =>
      have hlt : (k : Int) < (l.length : Int) := by omega
      obtain ⟨s, hs⟩ : ∃ s, l[k]? = some s := ⟨_, List.getElem?_eq_getElem (by omega)⟩
      obtain ⟨b, o, rfl, hbl, hc⟩ := HA.out (by omega)
      have HCC := Lib.hid (fun i x hx => (hc i x hx).1)
      have HBL := Lib.hid hbl
      have ds := (HBK.out.cell (p := ⟨b, o + k, none⟩) hbl).trans (hc k s hs).1
      have HNM := Lib.hid (name_any s wr)
      have HSK := Lib.hid hs
      clear hc hbl hs
      rcases Nat.eq_zero_or_pos k with hk0 | hk0
      · subst hk0
        have ds0 : wr.cell? ⟨b, o, none⟩ = some (.string s) := ds
        have hlt0 : (0 : Int) < (l.length : Int) := by omega
        have HV := Lib.hid (HR.out.symm.trans (H1.out s HSK.out))
        clear HR
        generalize nameB s = nb at *
        cases nb with
        | false =>
          have HV2 : Hid (res = false) := Lib.hid (HV.out.trans (Bool.false_and _))
          clear HV
          go_wp2_with (go_at_call 18; refine HNM.out.mono ?_; rintro e z ⟨rfl, hbz⟩; have HB3 := Lib.hid hbz; clear hbz)
          go_ret
          exact ⟨ret_bool HV2.out.symm, HBK.out.trans (HB3.out.mono HBK.out.size)⟩
        | true =>
          have HV2 := Lib.hid (HV.out.trans (Bool.true_and _))
          clear HV
          go_wp2_with (go_at_call 18; refine HNM.out.mono ?_; rintro e z ⟨rfl, hbz⟩; have HB3 := Lib.hid hbz; clear hbz)
          go_roundg q
          case measure => omega
          case rel => exact ⟨1, by omega, by go_num, HBK.out.trans (HB3.out.mono HBK.out.size), HV2.out.symm⟩
      · obtain ⟨j, rfl⟩ : ∃ j, k = j + 1 := ⟨k - 1, by omega⟩
        obtain ⟨p, hp⟩ : ∃ p, l[j]? = some p := ⟨_, List.getElem?_eq_getElem (by omega)⟩
        have HV := Lib.hid (HR.out.symm.trans (H2.out j p s hp HSK.out))
        have HDP := Lib.hid (HCC.out j p hp)
        have hpos : (0 : Int) < ((j + 1 : Nat) : Int) := by omega
        have hj2 : (j : Int) < (l.length : Int) := by omega
        clear HR hp
        generalize nameB s = nb at *
        cases nb with
        | false =>
          have HV2 : Hid (res = false) := Lib.hid (HV.out.trans (Bool.false_and _))
          clear HV
          go_wp2_with (go_at_call 18; refine HNM.out.mono ?_; rintro e z ⟨rfl, hbz⟩; have HB3 := Lib.hid hbz; clear hbz)
          go_ret
          exact ⟨ret_bool HV2.out.symm, HBK.out.trans (HB3.out.mono HBK.out.size)⟩
        | true =>
          have HV2 := Lib.hid (HV.out.trans (Bool.true_and _))
          clear HV
          cases hlt3 : Op.bytesLess p.toList s.toList with
          | false =>
            have HV3 : Hid (res = false) := Lib.hid (HV2.out.trans (by rw [hlt3]; exact Bool.false_and _))
            go_wp2_with (go_at_call 18; refine HNM.out.mono ?_; rintro e z ⟨rfl, hbz⟩; have HB3 := Lib.hid hbz; have dp := (((HBK.out.trans (hbz.mono HBK.out.size)).cell (p := ⟨b, o + j, none⟩) HBL.out)).trans HDP.out; clear hbz)
            go_ret
            exact ⟨ret_bool HV3.out.symm, HBK.out.trans (HB3.out.mono HBK.out.size)⟩
          | true =>
            have HV3 := Lib.hid (HV2.out.trans (by rw [hlt3, Bool.true_and]))
            go_wp2_with (go_at_call 18; refine HNM.out.mono ?_; rintro e z ⟨rfl, hbz⟩; have HB3 := Lib.hid hbz; have dp := (((HBK.out.trans (hbz.mono HBK.out.size)).cell (p := ⟨b, o + j, none⟩) HBL.out)).trans HDP.out; clear hbz)
            go_roundg q
            case measure => omega
            case rel => exact ⟨j + 2, by omega, by go_num, HBK.out.trans (HB3.out.mono HBK.out.size), HV3.out.symm⟩

mutual
def cntV : VT → Nat → Nat
  | .mk _ _ _ _ _ its, n => cntL its (n + 1)
def cntL : List VT → Nat → Nat
  | [], n => n
  | a :: l, n => if 500 ≤ n then n else cntL l (cntV a n)
end
theorem cntL_le : ∀ (l : List VT) (n : Nat), (∀ x ∈ l, ∀ m, m < 500 → cntV x m ≤ 500) → n ≤ 500 → cntL l n ≤ 500
  | [], n, _, h => by rw [cntL]; exact h
  | a :: l, n, h, hn => by
    rw [cntL]
    split
    · exact hn
    · exact cntL_le l _ (fun x hx => h x (List.mem_cons_of_mem _ hx)) (h a (List.mem_cons_self ..) n (by omega))
theorem cntV_le (t : VT) : ∀ m, m < 500 → cntV t m ≤ 500 := by
  induction t using VT.ind with
  | h k n f s ns its ih => exact fun m hm => by rw [cntV]; exact cntL_le its _ ih (by omega)
theorem cntL_step {l : List VT} {k m : Nat} {x : VT} (h : l[k]? = some x) : cntL (l.drop k) m = if 500 ≤ m then m else cntL (l.drop (k + 1)) (cntV x m) := by
  rw [drop_at h, cntL]
theorem cntL_end {l : List VT} {m : Nat} : cntL (l.drop l.length) m = m := by
  rw [List.drop_eq_nil_of_le (Nat.le_refl _), cntL]
set_option maxHeartbeats 1000000 in
set_option maxRecDepth 100000 in
theorem counted_any : ∀ (t : VT) (m : Nat) (cs : List Value) (p o : Nat) (w : World), m < 500 → w.rangeAt p o cs → ValAt w w.heap.size cs t →
    Calls Tryz.prog 33 #[.pointer (some ⟨p, o, none⟩), .int .i64 m] w fun e w' => e = .returned (.int .i64 (cntV t m : Nat)) ∧ w' = w := by
  intro t
  induction t using VT.ind with
  | h k n f s ns its ih =>
    intro m cs p o w hm hr hv
    have IH := Lib.hid ih
    obtain ⟨vn, vi, rfl, _, _, _, _, _, _, hi⟩ := hv.inv
    obtain ⟨A, c, rfl, hil, hA⟩ := vals_at hi
    have HA := Lib.hid hA
    have d5 := hr 5 _ rfl
    have HS := Lib.hid (fun k m x => cntL_step (l := its) (k := k) (m := m) (x := x))
    have HE := Lib.hid (fun m => cntL_end (l := its) (m := m))
    have HLE := Lib.hid (fun x m hm => cntV_le x m hm)
    have H0 : Hid (cntL (its.drop 0) (m + 1) = cntV (.mk k n f s ns its) m) := Lib.hid (by rw [cntV]; rfl)
    have hm2 : (m : Int) < 500 := by omega
    clear ih hi hA hr hv
    generalize cntV (.mk k n f s ns its) m = res at *
    go_enter Tryz.func33, Tryz.ntmps33
    go_wp2
    go_loopg [1, 13] its.length (fun q n x u => ∃ (j m : Nat), j + q = its.length ∧ x = .int .i64 j ∧ n = .int .i64 m ∧ m ≤ 500 ∧ u = w ∧ cntL (its.drop j) m = res)
    case atStart => exact ⟨0, m + 1, by omega, rfl, by go_num, by omega, rfl, H0.out⟩
    case round =>
      obtain ⟨j, m, hj, rfl, rfl, hm5, rfl, hres⟩ := hrel
      have HR := Lib.hid hres
      clear hres
      cases gk with
      | zero =>
        obtain rfl : j = its.length := by omega
        have hge : ¬ ((its.length : Int) < (its.length : Int)) := by omega
        have HV := Lib.hid (HR.out.symm.trans (HE.out m))
        go_wp2
        go_ret
        exact ⟨by rw [HV.out]; rfl, rfl⟩
      | succ q =>
        have hlt : (j : Int) < (its.length : Int) := by omega
        obtain ⟨x, hx⟩ : ∃ x, its[j]? = some x := ⟨_, List.getElem?_eq_getElem (by omega)⟩
        obtain ⟨b, o', rfl, hbl, hc⟩ := HA.out (by omega)
        obtain ⟨ks, hks, hvx⟩ := hc j x hx
        have HV := Lib.hid (HR.out.symm.trans (HS.out j m x hx))
        by_cases h5 : 500 ≤ m
        · have HV2 := Lib.hid (HV.out.trans (if_pos h5))
          have t1 : (500 : Int) ≤ (m : Int) := by omega
          clear hc hks hvx hx HV
          go_wp2
          go_ret
          exact ⟨by rw [HV2.out]; rfl, rfl⟩
        · have HV2 := Lib.hid (HV.out.trans (if_neg h5))
          have t1 : ¬ ((500 : Int) ≤ (m : Int)) := by omega
          have HC := Lib.hid (IH.out x (List.mem_of_getElem? hx) m ks b (o' + j * 6) wr (by omega) hks hvx)
          have hle := HLE.out x m (by omega)
          clear hc hks hvx hx HV h5
          go_wp2_with (go_at_call 33; refine HC.out.mono ?_; rintro e z ⟨rfl, rfl⟩)
          go_roundg q
          case measure => omega
          case rel => exact ⟨j + 1, _, by omega, by go_num, rfl, hle, rfl, HV2.out.symm⟩
set_option maxHeartbeats 1000000 in
theorem parts_any (t : VT) (cs : List Value) (w : World) (hv : ValAt w w.heap.size cs t) : Calls Tryz.prog 10 #[.agg ⟨cs⟩] w fun e w' => e = .returned (.int .i64 (cntV t 0 : Nat)) ∧ Below w.heap.size w w' := by
  have HB1 := Lib.hid (box_below w (.cells ⟨cs⟩ 26))
  have HC := Lib.hid (counted_any t 0 cs w.heap.size 0 (w.alloc (.cells ⟨cs⟩ 26)) (by decide) (range_box w cs 26) (hv.next HB1.out))
  go_enter Tryz.func10, Tryz.ntmps10
  go_wp2_with (go_at_call 33; refine HC.out.mono ?_; rintro e z ⟨rfl, rfl⟩)
  go_ret
  exact ⟨rfl, HB1.out⟩
end Go.Proofs.YtieciegfloldhaaGreatDoor
