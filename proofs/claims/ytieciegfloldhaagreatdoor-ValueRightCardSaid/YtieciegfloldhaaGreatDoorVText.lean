/- Texts of values: of a small number, of "x", of lists and records. -/
import Derived.Test.YtieciegfloldhaaGreatDoorVBld
namespace Go.Proofs.YtieciegfloldhaaGreatDoor
open Go Go.RowKit
set_option linter.unusedVariables false
set_option linter.unusedSimpArgs false

theorem bytes_app (l r : List UInt8) : Lib.byteCells (l ++ r) = Lib.byteCells l ++ Lib.byteCells r := by simp [Lib.byteCells]
theorem str_bytes (s : ByteArray) : Lib.strCells s = Lib.byteCells s.data.toList := rfl
theorem Lib_drew {B b : Nat} {bs : List Value} {w : World} (h : Bld0 B b bs w) : Bld0 B b bs w.drew := h.elim (fun h => .inl h.drew) (fun h => .inr h.drew)
theorem bld_next {T e : TypeId} {B b : Nat} {p : Value} {bs : List Value} {w w' : World} (h : Lib.BuilderAt T e B b p bs w) (hb : Below w.heap.size w w') : Lib.BuilderAt T e B b p bs w' := by
  have hlt := h.lt
  obtain ⟨hB, v, hbk, hown, hne⟩ := h
  exact ⟨hB, v, (hb.block b hlt).trans hbk, World.ownsRow.kept hown (row := none) ⟨hb.os, hb.tape, hb.output, hb.size, fun i hi _ => hb.block i hi⟩ (by cases e : v.ownBlock <;> simp), hne⟩
/-- a value's text -/
def TextC (t : VT) (txt : List UInt8) : Prop := ∀ (cs : List Value) (p o B b : Nat) (bs : List Value) (w : World), p < B → B ≤ w.heap.size → w.rangeAt p o cs → ValAt w B cs t → Bld0 B b bs w → bs.length + txt.length ≤ 1000000 →
  Calls Tryz.prog 29 #[.pointer (some ⟨b, 0, none⟩), .pointer (some ⟨p, o, none⟩)] w fun e w' => e = .returned (.tuple #[]) ∧ (Bld B b (bs ++ Lib.byteCells txt) w' ∧ Below B w w')
theorem formatInt (i : Nat) (hi : i < 100) (w : World) : Calls Tryz.prog 55 #[.int .i64 i, .int .i64 10] w fun e w' => e = .returned (.string ⟨(Lib.decDigits i).toArray⟩) ∧ w' = w := by
  have H := Lib.hid (fun w => Tryz.internal_strconv_FormatInt_10_small i hi w)
  go_enter Tryz.func55, Tryz.ntmps55
  go_wp2_with (go_at_call 77; refine (H.out _).mono ?_; rintro e z ⟨rfl, rfl⟩)
  go_ret
  exact ⟨rfl, rfl⟩
set_option maxHeartbeats 1000000 in
set_option maxRecDepth 100000 in
theorem text_int (i : Nat) (hi : i < 100) (f : Nat) (s : ByteArray) (ns : List ByteArray) (its : List VT) : TextC (.mk 2 i f s ns its) (Lib.decDigits i) := by
  intro cs p o B b bs w hp hBw hr hv hb hlen
  obtain ⟨vn, vi, rfl, _, _, _, _, _, _, _⟩ := hv.inv
  have HRG := Lib.hid hr
  have d0 : w.cell? ⟨p, o, none⟩ = some (.int .i64 2) := hr 0 _ rfl
  have HP := Lib.hid hp
  have HFI := Lib.hid (fun w => formatInt i hi w)
  have HWS := Lib.hid (wstring B b bs ⟨(Lib.decDigits i).toArray⟩ w.drew (Lib_drew hb) (by simpa [ByteArray.size] using (by omega : bs.length + (Lib.decDigits i).length ≤ 140737488355328)) hBw)
  clear hr hv hb hp hBw hlen
  go_enter Tryz.func29, Tryz.ntmps29
  go_upto_region 5 with (fail)
  clear d0
  refine wp_region_ord [(0, true), (1, true), (2, true), (3, true), (4, true), (5, true), (6, true), (7, false), (8, false)]
    (fun z => Below B w z) (by kernel_rfl) (by kernel_rfl) (by kernel_rfl) rfl (by intro c a d v w h; cases d <;> exact h) ?_
  have hs : Below B w w.drew := (Below.refl _ w).drew
  refine ord_move (some 25) (.pointer (some ⟨b, 0, none⟩)) _ _ rfl rfl rfl (by first | exact wanted_none rfl | exact wanted_if rfl rfl rfl rfl) hs rfl ?_
  go_frame
  refine ord_load (some 26) (.pointer (some ⟨b, 0, none⟩)) _ rfl rfl (by first | exact wanted_none rfl | exact wanted_if rfl rfl rfl rfl) hs (fun z hz => by go_simp) ?_
  go_frame
  refine ord_load (some 27) (.pointer (some ⟨b, 0, none⟩)) _ rfl rfl (by first | exact wanted_none rfl | exact wanted_if rfl rfl rfl rfl) hs (fun z hz => by go_simp) ?_
  go_frame
  refine ord_move (some 28) (.pointer (some ⟨p, o, none⟩)) _ _ rfl rfl rfl (by first | exact wanted_none rfl | exact wanted_if rfl rfl rfl rfl) hs rfl ?_
  go_frame
  refine ord_load (some 29) (.pointer (some ⟨p, o, none⟩)) _ rfl rfl (by first | exact wanted_none rfl | exact wanted_if rfl rfl rfl rfl) hs (fun z hz => by go_simp) ?_
  go_frame
  refine ord_load (some 30) (.pointer (some ⟨p, o + 1, none⟩)) _ rfl rfl (by first | exact wanted_none rfl | exact wanted_if rfl rfl rfl rfl) hs (fun z hz => by go_simp) ?_
  go_frame
  refine ord_load (some 31) (.int .i64 i) _ rfl rfl (by first | exact wanted_none rfl | exact wanted_if rfl rfl rfl rfl) hs (fun z hz => by have dd := (hz.cell (p := ⟨p, o + 1, none⟩) HP.out).trans (HRG.out 1 _ rfl); go_simp) ?_
  go_frame
  refine ord_to (some 32) 55 Tryz.func55 (by kernel_rfl) (by kernel_rfl) [.int .i64 i, .int .i64 10] _ _ _ rfl rfl rfl (by first | exact wanted_none rfl | exact wanted_if rfl rfl rfl rfl) rfl ?_
  refine (HFI.out _).mono ?_
  rintro e z1 ⟨rfl, hz1⟩
  obtain rfl := hz1.symm
  refine ⟨_, rfl, hs, ?_⟩
  go_frame
  refine ord_to (some 33) 53 Tryz.func53 (by kernel_rfl) (by kernel_rfl) [.pointer (some ⟨b, 0, none⟩), .string ⟨(Lib.decDigits i).toArray⟩] _ _ _ rfl rfl rfl (by first | exact wanted_none rfl | exact wanted_if rfl rfl rfl rfl) rfl ?_
  refine HWS.out.mono ?_
  rintro e z1 ⟨rfl, hb1, hbl⟩
  have hs2 : Below B w z1 := hs.trans hbl
  refine ⟨_, rfl, hs2, ?_⟩
  go_frame
  refine ord_end ?_
  have HB2 := Lib.hid hs2
  have HBB := Lib.hid hb1
  clear hs hs2 hb1 hbl
  go_wp2
  (try simp only [Exit.inBlock, Exit.then])
  refine bodyPost_ret (results_none rfl _ _ _) rfl ?_
  exact ⟨rfl, HBB.out, HB2.out⟩

set_option maxHeartbeats 1000000 in
set_option maxRecDepth 100000 in
theorem str_x (B b : Nat) (bs : List Value) (w : World) (hBw : B ≤ w.heap.size) (hb : Bld0 B b bs w) (hlen : bs.length + 3 ≤ 1000000) :
    Calls Tryz.prog 57 #[.pointer (some ⟨b, 0, none⟩), .string ⟨#[120]⟩] w fun e w' => e = .returned (.tuple #[]) ∧ (Bld B b (bs ++ Lib.byteCells [34, 120, 34]) w' ∧ Below B w w') := by
  have H1 := Lib.hid (wbyte B b bs 34 w hb (by omega) hBw)
  have HL := Lib.hid (And.intro hBw hlen)
  have hcv : ∀ W : World, (convert 9 51 (.string ⟨#[120]⟩)).run Tryz.prog W = .ok (.slice (some ⟨W.heap.size, 0, none⟩) 1 (grownCap W 1 0 5)) (W.drew.alloc (.cells (bytesRow ⟨#[120]⟩ (grownCap W 1 0 5)) 5 ((bytesRow ⟨#[120]⟩ (grownCap W 1 0 5)).size, (bytesRow ⟨#[120]⟩ (grownCap W 1 0 5)).size + 1))) := fun W => run_bytes_of_string W _ _ _ ⟨#[120]⟩ Tryz.underlying9 Tryz.underlying51 Tryz.underlying5
  clear hBw hlen hb
  go_enter Tryz.func57, Tryz.ntmps57
  go_upto_region 1 with (go_at_call 58; refine H1.out.mono ?_; rintro e w1 ⟨rfl, hb1, hbl⟩; have HB1 := Lib.hid hb1; have HL1 := Lib.hid hbl; clear hb1 hbl)
  go_upto_region 2 with (fail)
  have HCC : Hid (((w1.alloc (Obj.cells (bytesRow ⟨#[120]⟩ (grownCap w1 1 0 5)) 5 ((bytesRow ⟨#[120]⟩ (grownCap w1 1 0 5)).size, (bytesRow ⟨#[120]⟩ (grownCap w1 1 0 5)).size + 1))).drew).cell? ⟨w1.heap.size, 0, none⟩ = some (.int .u8 120)) := Lib.hid ((cell_boxf w1 (bytesRow ⟨#[120]⟩ _) 5 _ 0).trans (bytesRow_at ⟨#[120]⟩ _ 0 (c := 120) rfl))
  have HB2 : Hid (Below w1.heap.size w1 ((w1.alloc (Obj.cells (bytesRow ⟨#[120]⟩ (grownCap w1 1 0 5)) 5 ((bytesRow ⟨#[120]⟩ (grownCap w1 1 0 5)).size, (bytesRow ⟨#[120]⟩ (grownCap w1 1 0 5)).size + 1))).drew)) := Lib.hid (box_below w1 _).drew
  generalize (w1.alloc (Obj.cells (bytesRow ⟨#[120]⟩ (grownCap w1 1 0 5)) 5 ((bytesRow ⟨#[120]⟩ (grownCap w1 1 0 5)).size, (bytesRow ⟨#[120]⟩ (grownCap w1 1 0 5)).size + 1))).drew = W2 at *
  generalize grownCap w1 1 0 5 = cp at *
  clear hcv H1
  have HBB2 := Lib.hid (bld_next HB1.out HB2.out)
  have HBW2 := Lib.hid (HL1.out.trans (HB2.out.mono (Nat.le_trans HL.out.1 HL1.out.size)))
  have HWB := Lib.hid (wbyte B b _ 120 W2 (.inr HBB2.out) (by simp; have := HL.out.2; omega) (Nat.le_trans HL.out.1 HBW2.out.size))
  go_loopg [13] 1 (fun q x u => (q = 1 ∧ x = .int .i64 0 ∧ u = W2) ∨ (q = 0 ∧ x = .int .i64 1 ∧ Bld B b (bs ++ Lib.byteCells [34, 120]) u ∧ Below B w u))
  case atStart => exact .inl ⟨rfl, rfl, rfl⟩
  case round =>
    rcases hrel with ⟨hq, rfl, rfl⟩ | ⟨hq, rfl, hbb, hbw⟩
    · obtain rfl : gk = 1 := hq
      have dk := HCC.out
      go_wp2_with (go_at_call 58; refine HWB.out.mono ?_; rintro e w3 ⟨rfl, hb3, hbl⟩; have HB3 := Lib.hid hb3; have HL3 := Lib.hid hbl; clear hb3 hbl)
      go_roundg 0
      case measure => omega
      case rel => exact .inr ⟨rfl, rfl, by have := HB3.out; simpa [Lib.byteCells] using this, HBW2.out.trans HL3.out⟩
    · obtain rfl : gk = 0 := hq
      have HBB := Lib.hid hbb
      have HBW := Lib.hid hbw
      have HWQ := Lib.hid (wbyte B b _ 34 wr (.inr hbb) (by simp [Lib.byteCells]; have := HL.out.2; omega) (Nat.le_trans HL.out.1 hbw.size))
      clear hbb hbw
      go_wp2_with (go_at_call 58; refine HWQ.out.mono ?_; rintro e w3 ⟨rfl, hb3, hbl⟩; have HB3 := Lib.hid hb3; have HL3 := Lib.hid hbl; clear hb3 hbl)
      go_end0
      exact ⟨rfl, by have := HB3.out; simpa [Lib.byteCells] using this, HBW.out.trans HL3.out⟩
set_option maxHeartbeats 1000000 in
set_option maxRecDepth 100000 in
theorem text_x (n : Int) (f : Nat) (ns : List ByteArray) (its : List VT) : TextC (.mk 4 n f ⟨#[120]⟩ ns its) [34, 120, 34] := by
  intro cs p o B b bs w hp hBw hr hv hb hlen
  obtain ⟨vn, vi, rfl, _, _, _, _, _, _, _⟩ := hv.inv
  have d0 : w.cell? ⟨p, o, none⟩ = some (.int .i64 4) := hr 0 _ rfl
  have d3 := hr 3 _ rfl
  have HS := Lib.hid (str_x B b bs w hBw hb (by simpa using hlen))
  clear hr hv hb hp hBw hlen
  go_enter Tryz.func29, Tryz.ntmps29
  go_wp2_with (go_at_call 57; refine HS.out.mono ?_; rintro e w3 ⟨rfl, hb3, hbl⟩; have HB3 := Lib.hid hb3; have HL3 := Lib.hid hbl; clear hb3 hbl)
  (try simp only [Exit.inBlock, Exit.then])
  refine bodyPost_ret (results_none rfl _ _ _) rfl ?_
  exact ⟨rfl, HB3.out, HL3.out⟩
def joinK (nm tx : Nat → List UInt8) : Nat → List UInt8
  | 0 => []
  | k + 1 => joinK nm tx k ++ ((if k = 0 then [] else [44]) ++ (nm k ++ tx k))
theorem joinK_le (nm tx : Nat → List UInt8) {k n : Nat} (h : k ≤ n) : (joinK nm tx k).length ≤ (joinK nm tx n).length := by
  induction n with
  | zero => rw [Nat.le_zero.1 h]; exact Nat.le_refl _
  | succ n ih =>
    rcases Nat.lt_or_ge k (n + 1) with h1 | h1
    · have := ih (by omega)
      rw [show joinK nm tx (n + 1) = joinK nm tx n ++ ((if n = 0 then [] else [44]) ++ (nm n ++ tx n)) from rfl, List.length_append]
      omega
    · rw [show k = n + 1 by omega]; exact Nat.le_refl _
theorem joinK_room (nm tx : Nat → List UInt8) {k n : Nat} (h : k < n) : (joinK nm tx k).length + ((if k = 0 then ([] : List UInt8) else [44]).length + ((nm k).length + (tx k).length)) ≤ (joinK nm tx n).length := by
  have := joinK_le nm tx (show k + 1 ≤ n from h)
  rw [show joinK nm tx (k + 1) = joinK nm tx k ++ ((if k = 0 then [] else [44]) ++ (nm k ++ tx k)) from rfl, List.length_append, List.length_append, List.length_append] at this
  exact this
theorem str_add (s t : ByteArray) : (s ++ t).data.toList = s.data.toList ++ t.data.toList := by simp [ByteArray.data_append]
set_option maxHeartbeats 4000000 in
set_option maxRecDepth 100000 in
theorem text_list (n : Int) (f : Nat) (s : ByteArray) (ns : List ByteArray) (its : List VT) (tx : Nat → List UInt8) (nm : Nat → List UInt8) (hnm : ∀ i, nm i = []) (hit : ∀ i x, its[i]? = some x → TextC x (tx i)) :
    TextC (.mk 5 n f s ns its) ([91] ++ (joinK (nm) tx its.length ++ [93])) := by
  intro cs p o B b bs w hp hBw hr hv hb hlen
  obtain ⟨vn, vi, rfl, _, _, _, _, hn, hil0, hi⟩ := hv.inv
  obtain ⟨_, NA, nc, rfl, _⟩ := id hn
  obtain ⟨_, A, c, rfl, hA⟩ := hi
  obtain ⟨_, hnl0, hna⟩ := str_at hn
  have HNA := Lib.hid hna
  have HA := Lib.hid hA
  have HIT := Lib.hid hit
  have HNM := Lib.hid hnm
  have HRG := Lib.hid hr
  have HP := Lib.hid hp
  have HBw := Lib.hid hBw
  have HLEN := Lib.hid hlen
  have HJR := Lib.hid (fun k n => joinK_room (nm) tx (k := k) (n := n))
  have HJ0 : Hid (joinK (nm) tx 0 = []) := Lib.hid rfl
  have HJS : Hid (∀ k, joinK (nm) tx (k + 1) = joinK (nm) tx k ++ ((if k = 0 then [] else [44]) ++ ((nm) k ++ tx k))) := Lib.hid fun _ => rfl
  have hil : (its.length : Int) ≤ 9223372036854775807 := by unfold maxLen at hil0; omega
  have d0 : w.cell? ⟨p, o, none⟩ = some (.int .i64 5) := hr 0 _ rfl
  have HWO := Lib.hid (wstring B b bs ⟨#[91]⟩ w hb (by have : (⟨#[91]⟩ : ByteArray).size = 1 := rfl; simp at hlen; omega) hBw)
  clear hr hv hb hp hBw hlen hit hA hna hn hnm
  generalize hJ : joinK (nm) tx = J at *
  clear hJ
  go_enter Tryz.func29, Tryz.ntmps29
  go_upto_region 13 with (go_at_call 53; refine HWO.out.mono ?_; rintro e w1 ⟨rfl, hb1, hbl⟩; have HB1 := Lib.hid hb1; have HL1 := Lib.hid hbl; clear hb1 hbl)
  have d5 := (HL1.out.cell (p := ⟨p, o + 5, none⟩) HP.out).trans (HRG.out 5 _ rfl)
  go_wp2
  clear d0 d5
  go_loopg [65] its.length (fun q x u => ∃ k : Nat, k + q = its.length ∧ x = .int .i64 k ∧ Bld B b (bs ++ Lib.byteCells ([91] ++ J k)) u ∧ Below B w u)
  case atStart => exact ⟨0, by omega, rfl, by rw [HJ0.out]; exact HB1.out, HL1.out⟩
  case round =>
    obtain ⟨k, hk, rfl, hbb, hbw⟩ := hrel
    have HBB := Lib.hid hbb
    have HBW := Lib.hid hbw
    clear hbb hbw
    cases gk with
    | zero =>
      obtain rfl : k = its.length := by omega
      have hge : ¬ ((its.length : Int) < (its.length : Int)) := by omega
      have HWC := Lib.hid (wstring B b _ ⟨#[93]⟩ wr (.inr HBB.out) (by have h1 : (⟨#[93]⟩ : ByteArray).size = 1 := rfl; have := HLEN.out; simp [Lib.byteCells] at this ⊢; omega) (Nat.le_trans HBw.out HBW.out.size))
      go_wp2_with (go_at_call 53; refine HWC.out.mono ?_; rintro e w3 ⟨rfl, hb3, hbl⟩; have HB3 := Lib.hid hb3; have HL3 := Lib.hid hbl; clear hb3 hbl)
      go_end0
      exact ⟨rfl, by have := HB3.out; rw [str_bytes, List.append_assoc, ← bytes_app] at this; simpa using this, HBW.out.trans HL3.out⟩
    | succ q =>
      have hlt : (k : Int) < (its.length : Int) := by omega
      obtain ⟨x, hx⟩ : ∃ x, its[k]? = some x := ⟨_, List.getElem?_eq_getElem (by omega)⟩
      obtain ⟨b1, o1, rfl, hb1, c1⟩ := HA.out (by omega)
      obtain ⟨ks, _, hks, hvx⟩ := c1 k x hx
      have HTX := Lib.hid (HIT.out k x hx)
      have HKS := Lib.hid hks
      have HVX := Lib.hid hvx
      have HB1' := Lib.hid hb1
      have hroom := HJR.out k its.length (by omega)
      have HROOM : Hid (bs.length + (1 + ((J k).length + ((if k = 0 then ([] : List UInt8) else [44]).length + ((((nm) k : List UInt8)).length + (tx k).length)))) ≤ 999999) := Lib.hid (by have := HLEN.out; simp only [List.length_append, List.length_singleton] at this; omega)
      have HJN := Lib.hid (HJS.out k)
      clear c1 hks hvx hx hroom
      have hnk := HNM.out k
      rw [hnk] at HROOM HJN
      clear hnk
      by_cases hk0 : k = 0
      · subst hk0
        go_upto_region 18 with (fail)
        have dk := (HBW.out.cell (p := ⟨p, o, none⟩) HP.out).trans (show w.cell? ⟨p, o, none⟩ = some (.int .i64 5) from HRG.out 0 _ rfl)
        have dk5 := (HBW.out.cell (p := ⟨p, o + 5, none⟩) HP.out).trans (HRG.out 5 _ rfl)
        have HCV := Lib.hid (HTX.out ks b1 o1 B b _ wr HB1'.out (Nat.le_trans HBw.out HBW.out.size) (rangeAt_below HKS.out HBW.out HB1'.out) (HVX.out.under HBW.out) (.inr HBB.out) (by have := HROOM.out; simp [Lib.byteCells, Lib.strCells, if_true] at this ⊢; omega))
        go_wp2_with (go_at_call 29; refine HCV.out.mono ?_; rintro e w9 ⟨rfl, hb9, hbl⟩; have HB9 := Lib.hid hb9; have HL9 := Lib.hid hbl; clear hb9 hbl)
        go_roundg q
        case measure => omega
        case rel => exact ⟨0 + 1, by omega, by go_num, by
          have hE : bs ++ Lib.byteCells ([91] ++ J (0 + 1)) = (bs ++ Lib.byteCells ([91] ++ J 0)) ++ Lib.byteCells (tx 0) := by rw [HJN.out]; simp [Lib.byteCells, Lib.strCells, str_add, if_true]
          rw [hE]; exact HB9.out, HBW.out.trans HL9.out⟩
      · have t1 : (0 : Int) < (k : Int) := by omega
        have HK0 := Lib.hid hk0
        have HWM := Lib.hid (wbyte B b _ 44 wr (.inr HBB.out) (by have := HROOM.out; simp [Lib.byteCells, hk0] at this ⊢; omega) (Nat.le_trans HBw.out HBW.out.size))
        go_upto_region 18 with (go_at_call 58; refine HWM.out.mono ?_; rintro e w5 ⟨rfl, hb5, hbl⟩; have HB5 := Lib.hid hb5; have HL5 := Lib.hid (HBW.out.trans hbl); clear hb5 hbl)
        have dk := (HL5.out.cell (p := ⟨p, o, none⟩) HP.out).trans (show w.cell? ⟨p, o, none⟩ = some (.int .i64 5) from HRG.out 0 _ rfl)
        have dk5 := (HL5.out.cell (p := ⟨p, o + 5, none⟩) HP.out).trans (HRG.out 5 _ rfl)
        have HCV := Lib.hid (HTX.out ks b1 (o1 + k * 6) B b _ w5 HB1'.out (Nat.le_trans HBw.out HL5.out.size) (rangeAt_below HKS.out HL5.out HB1'.out) (HVX.out.under HL5.out) (.inr HB5.out) (by have := HROOM.out; simp [Lib.byteCells, Lib.strCells, HK0.out] at this ⊢; omega))
        go_wp2_with (go_at_call 29; refine HCV.out.mono ?_; rintro e w9 ⟨rfl, hb9, hbl⟩; have HB9 := Lib.hid hb9; have HL9 := Lib.hid hbl; clear hb9 hbl)
        go_roundg q
        case measure => omega
        case rel => exact ⟨k + 1, by omega, by go_num, by
          have hE : bs ++ Lib.byteCells ([91] ++ J (k + 1)) = (bs ++ Lib.byteCells ([91] ++ J k) ++ [Value.int .u8 44]) ++ Lib.byteCells (tx k) := by rw [HJN.out]; simp [Lib.byteCells, Lib.strCells, str_add, HK0.out]
          rw [hE]; exact HB9.out, HL5.out.trans HL9.out⟩
set_option maxHeartbeats 4000000 in
set_option maxRecDepth 100000 in
theorem text_rec (n : Int) (f : Nat) (s : ByteArray) (ns : List ByteArray) (its : List VT) (tx : Nat → List UInt8) (nm : Nat → List UInt8) (hnl : ns.length = its.length) (hnm : ∀ i s1, ns[i]? = some s1 → nm i = s1.data.toList ++ [58]) (hit : ∀ i x, its[i]? = some x → TextC x (tx i)) :
    TextC (.mk 6 n f s ns its) ([123] ++ (joinK (nm) tx its.length ++ [125])) := by
  intro cs p o B b bs w hp hBw hr hv hb hlen
  obtain ⟨vn, vi, rfl, _, _, _, _, hn, hil0, hi⟩ := hv.inv
  obtain ⟨_, NA, nc, rfl, _⟩ := id hn
  obtain ⟨_, A, c, rfl, hA⟩ := hi
  obtain ⟨_, hnl0, hna⟩ := str_at hn
  have HNA := Lib.hid hna
  have HA := Lib.hid hA
  have HIT := Lib.hid hit
  have HNM := Lib.hid hnm
  have HRG := Lib.hid hr
  have HP := Lib.hid hp
  have HBw := Lib.hid hBw
  have HLEN := Lib.hid hlen
  have HJR := Lib.hid (fun k n => joinK_room (nm) tx (k := k) (n := n))
  have HJ0 : Hid (joinK (nm) tx 0 = []) := Lib.hid rfl
  have HJS : Hid (∀ k, joinK (nm) tx (k + 1) = joinK (nm) tx k ++ ((if k = 0 then [] else [44]) ++ ((nm) k ++ tx k))) := Lib.hid fun _ => rfl
  have hil : (its.length : Int) ≤ 9223372036854775807 := by unfold maxLen at hil0; omega
  have d0 : w.cell? ⟨p, o, none⟩ = some (.int .i64 6) := hr 0 _ rfl
  have HWO := Lib.hid (wstring B b bs ⟨#[123]⟩ w hb (by have : (⟨#[123]⟩ : ByteArray).size = 1 := rfl; simp at hlen; omega) hBw)
  clear hr hv hb hp hBw hlen hit hA hna hn hnm
  generalize hJ : joinK (nm) tx = J at *
  clear hJ
  go_enter Tryz.func29, Tryz.ntmps29
  go_upto_region 13 with (go_at_call 53; refine HWO.out.mono ?_; rintro e w1 ⟨rfl, hb1, hbl⟩; have HB1 := Lib.hid hb1; have HL1 := Lib.hid hbl; clear hb1 hbl)
  have d5 := (HL1.out.cell (p := ⟨p, o + 5, none⟩) HP.out).trans (HRG.out 5 _ rfl)
  go_wp2
  clear d0 d5
  go_loopg [65] its.length (fun q x u => ∃ k : Nat, k + q = its.length ∧ x = .int .i64 k ∧ Bld B b (bs ++ Lib.byteCells ([123] ++ J k)) u ∧ Below B w u)
  case atStart => exact ⟨0, by omega, rfl, by rw [HJ0.out]; exact HB1.out, HL1.out⟩
  case round =>
    obtain ⟨k, hk, rfl, hbb, hbw⟩ := hrel
    have HBB := Lib.hid hbb
    have HBW := Lib.hid hbw
    clear hbb hbw
    cases gk with
    | zero =>
      obtain rfl : k = its.length := by omega
      have hge : ¬ ((its.length : Int) < (its.length : Int)) := by omega
      have HWC := Lib.hid (wstring B b _ ⟨#[125]⟩ wr (.inr HBB.out) (by have h1 : (⟨#[125]⟩ : ByteArray).size = 1 := rfl; have := HLEN.out; simp [Lib.byteCells] at this ⊢; omega) (Nat.le_trans HBw.out HBW.out.size))
      go_wp2_with (go_at_call 53; refine HWC.out.mono ?_; rintro e w3 ⟨rfl, hb3, hbl⟩; have HB3 := Lib.hid hb3; have HL3 := Lib.hid hbl; clear hb3 hbl)
      go_end0
      exact ⟨rfl, by have := HB3.out; rw [str_bytes, List.append_assoc, ← bytes_app] at this; simpa using this, HBW.out.trans HL3.out⟩
    | succ q =>
      have hlt : (k : Int) < (its.length : Int) := by omega
      obtain ⟨x, hx⟩ : ∃ x, its[k]? = some x := ⟨_, List.getElem?_eq_getElem (by omega)⟩
      obtain ⟨b1, o1, rfl, hb1, c1⟩ := HA.out (by omega)
      obtain ⟨ks, _, hks, hvx⟩ := c1 k x hx
      have HTX := Lib.hid (HIT.out k x hx)
      have HKS := Lib.hid hks
      have HVX := Lib.hid hvx
      have HB1' := Lib.hid hb1
      have hroom := HJR.out k its.length (by omega)
      have HROOM : Hid (bs.length + (1 + ((J k).length + ((if k = 0 then ([] : List UInt8) else [44]).length + ((((nm) k : List UInt8)).length + (tx k).length)))) ≤ 999999) := Lib.hid (by have := HLEN.out; simp only [List.length_append, List.length_singleton] at this; omega)
      have HJN := Lib.hid (HJS.out k)
      clear c1 hks hvx hx hroom
      obtain ⟨s1, hs1⟩ : ∃ s1, ns[k]? = some s1 := ⟨_, List.getElem?_eq_getElem (by omega)⟩
      obtain ⟨bn, on_, rfl, hbn, cn⟩ := HNA.out (by omega)
      have HCN := Lib.hid (cn k s1 hs1).1
      have HBN := Lib.hid hbn
      have hnk := HNM.out k s1 hs1
      rw [hnk] at HROOM HJN
      have hkn : (k : Int) < (ns.length : Int) := by omega
      have hnl3 : (ns.length : Int) = (its.length : Int) := by omega
      clear cn hs1 hnk hbn
      have HSZ : Hid (s1.size + 1 ≤ 1000000) := Lib.hid (by
        have h2 : s1.data.size = s1.size := rfl
        have := HROOM.out
        simp at this
        omega)
      by_cases hk0 : k = 0
      · subst hk0
        go_upto_region 18 with (fail)
        have dk := (HBW.out.cell (p := ⟨p, o, none⟩) HP.out).trans (show w.cell? ⟨p, o, none⟩ = some (.int .i64 6) from HRG.out 0 _ rfl)
        have dk5 := (HBW.out.cell (p := ⟨p, o + 5, none⟩) HP.out).trans (HRG.out 5 _ rfl)
        go_upto_region 19 with (fail)
        have HWN := Lib.hid (wstring B b _ (s1 ++ ⟨#[58]⟩) wr.drew (.inr HBB.out.drew) (by
          have h1 : (s1 ++ ⟨#[58]⟩ : ByteArray).size = s1.size + 1 := by rw [ByteArray.size_append]; rfl
          have h2 : s1.data.size = s1.size := rfl
          have := HROOM.out
          rw [h1]
          simp [Lib.byteCells, if_true] at this ⊢
          omega) (Nat.le_trans HBw.out HBW.out.size))
        clear dk dk5
        refine wp_region_ord [(0, true), (1, true), (2, true), (3, true), (4, true), (5, true), (6, true), (7, true), (8, true), (9, true), (10, true), (11, false)]
          (fun z => Below B wr z) (by kernel_rfl) (by kernel_rfl) (by kernel_rfl) rfl (by intro c a d v w h; cases d <;> exact h) ?_
        have hs : Below B wr wr.drew := (Below.refl _ wr).drew
        refine ord_move (some 79) (.pointer (some ⟨b, 0, none⟩)) _ _ rfl rfl rfl (by first | exact wanted_none rfl | exact wanted_if rfl rfl rfl rfl) hs rfl ?_
        go_frame
        refine ord_load (some 80) (.pointer (some ⟨b, 0, none⟩)) _ rfl rfl (by first | exact wanted_none rfl | exact wanted_if rfl rfl rfl rfl) hs (fun z hz => by go_simp) ?_
        go_frame
        refine ord_load (some 81) (.pointer (some ⟨b, 0, none⟩)) _ rfl rfl (by first | exact wanted_none rfl | exact wanted_if rfl rfl rfl rfl) hs (fun z hz => by go_simp) ?_
        go_frame
        refine ord_move (some 82) (.pointer (some ⟨p, o, none⟩)) _ _ rfl rfl rfl (by first | exact wanted_none rfl | exact wanted_if rfl rfl rfl rfl) hs rfl ?_
        go_frame
        refine ord_load (some 83) (.pointer (some ⟨p, o, none⟩)) _ rfl rfl (by first | exact wanted_none rfl | exact wanted_if rfl rfl rfl rfl) hs (fun z hz => by go_simp) ?_
        go_frame
        refine ord_load (some 84) (.pointer (some ⟨p, o + 4, none⟩)) _ rfl rfl (by first | exact wanted_none rfl | exact wanted_if rfl rfl rfl rfl) hs (fun z hz => by go_simp) ?_
        go_frame
        refine ord_load (some 85) (.slice (some ⟨bn, on_, none⟩) ns.length nc) _ rfl rfl (by first | exact wanted_none rfl | exact wanted_if rfl rfl rfl rfl) hs (fun z hz => by have dd := ((HBW.out.trans hz).cell (p := ⟨p, o + 4, none⟩) HP.out).trans (HRG.out 4 _ rfl); go_simp) ?_
        go_frame
        refine ord_move (some 86) (.int .i64 0) _ _ rfl rfl rfl (by first | exact wanted_none rfl | exact wanted_if rfl rfl rfl rfl) hs rfl ?_
        go_frame
        refine ord_load (some 87) (.pointer (some ⟨bn, on_, none⟩)) _ rfl rfl (by first | exact wanted_none rfl | exact wanted_if rfl rfl rfl rfl) hs (fun z hz => by go_simp) ?_
        go_frame
        refine ord_load (some 88) (.string s1) _ rfl rfl (by first | exact wanted_none rfl | exact wanted_if rfl rfl rfl rfl) hs (fun z hz => by have dd := ((HBW.out.trans hz).cell (p := ⟨bn, on_, none⟩) HBN.out).trans HCN.out; go_simp) ?_
        go_frame
        refine ord_load (some 89) (.string (s1 ++ ⟨#[58]⟩)) _ rfl rfl (by first | exact wanted_none rfl | exact wanted_if rfl rfl rfl rfl) hs (fun z hz => by have hsz := HSZ.out; go_simp; omega) ?_
        go_frame
        refine ord_to (some 90) 53 Tryz.func53 (by kernel_rfl) (by kernel_rfl) [.pointer (some ⟨b, 0, none⟩), .string (s1 ++ ⟨#[58]⟩)] _ _ _ rfl rfl rfl (by first | exact wanted_none rfl | exact wanted_if rfl rfl rfl rfl) rfl ?_
        refine HWN.out.mono ?_
        rintro e z1 ⟨rfl, hb1, hbl⟩
        have hs2 : Below B wr z1 := hs.trans hbl
        refine ⟨_, rfl, hs2, ?_⟩
        go_frame
        refine ord_end ?_
        have HL8 := Lib.hid hs2
        have HB8 := Lib.hid hb1
        clear hs hs2 hb1 hbl
        have HBW8 := Lib.hid (HBW.out.trans HL8.out)
        have dk5 := (HBW8.out.cell (p := ⟨p, o + 5, none⟩) HP.out).trans (HRG.out 5 _ rfl)
        have HCV := Lib.hid (HTX.out ks b1 o1 B b _ z1 HB1'.out (Nat.le_trans HBw.out HBW8.out.size) (rangeAt_below HKS.out HBW8.out HB1'.out) (HVX.out.under HBW8.out) (.inr HB8.out) (by have := HROOM.out; simp [Lib.byteCells, Lib.strCells, if_true] at this ⊢; omega))
        go_wp2_with (go_at_call 29; refine HCV.out.mono ?_; rintro e w9 ⟨rfl, hb9, hbl⟩; have HB9 := Lib.hid hb9; have HL9 := Lib.hid hbl; clear hb9 hbl)
        go_roundg q
        case measure => omega
        case rel => exact ⟨0 + 1, by omega, by go_num, by
          have hE : bs ++ Lib.byteCells ([123] ++ J (0 + 1)) = ((bs ++ Lib.byteCells ([123] ++ J 0)) ++ Lib.strCells (s1 ++ ⟨#[58]⟩)) ++ Lib.byteCells (tx 0) := by rw [HJN.out]; simp [Lib.byteCells, Lib.strCells, str_add, if_true]
          rw [hE]; exact HB9.out, HBW8.out.trans HL9.out⟩
      · have t1 : (0 : Int) < (k : Int) := by omega
        have HK0 := Lib.hid hk0
        have HWM := Lib.hid (wbyte B b _ 44 wr (.inr HBB.out) (by have := HROOM.out; simp [Lib.byteCells, hk0] at this ⊢; omega) (Nat.le_trans HBw.out HBW.out.size))
        go_upto_region 18 with (go_at_call 58; refine HWM.out.mono ?_; rintro e w5 ⟨rfl, hb5, hbl⟩; have HB5 := Lib.hid hb5; have HL5 := Lib.hid (HBW.out.trans hbl); clear hb5 hbl)
        have dk := (HL5.out.cell (p := ⟨p, o, none⟩) HP.out).trans (show w.cell? ⟨p, o, none⟩ = some (.int .i64 6) from HRG.out 0 _ rfl)
        have dk5 := (HL5.out.cell (p := ⟨p, o + 5, none⟩) HP.out).trans (HRG.out 5 _ rfl)
        go_upto_region 19 with (fail)
        have HWN := Lib.hid (wstring B b _ (s1 ++ ⟨#[58]⟩) w5.drew (.inr HB5.out.drew) (by
          have h1 : (s1 ++ ⟨#[58]⟩ : ByteArray).size = s1.size + 1 := by rw [ByteArray.size_append]; rfl
          have h2 : s1.data.size = s1.size := rfl
          have := HROOM.out
          rw [h1]
          simp [Lib.byteCells, HK0.out] at this ⊢
          omega) (Nat.le_trans HBw.out HL5.out.size))
        clear dk dk5
        refine wp_region_ord [(0, true), (1, true), (2, true), (3, true), (4, true), (5, true), (6, true), (7, true), (8, true), (9, true), (10, true), (11, false)]
          (fun z => Below B w5 z) (by kernel_rfl) (by kernel_rfl) (by kernel_rfl) rfl (by intro c a d v w h; cases d <;> exact h) ?_
        have hs : Below B w5 w5.drew := (Below.refl _ w5).drew
        refine ord_move (some 79) (.pointer (some ⟨b, 0, none⟩)) _ _ rfl rfl rfl (by first | exact wanted_none rfl | exact wanted_if rfl rfl rfl rfl) hs rfl ?_
        go_frame
        refine ord_load (some 80) (.pointer (some ⟨b, 0, none⟩)) _ rfl rfl (by first | exact wanted_none rfl | exact wanted_if rfl rfl rfl rfl) hs (fun z hz => by go_simp) ?_
        go_frame
        refine ord_load (some 81) (.pointer (some ⟨b, 0, none⟩)) _ rfl rfl (by first | exact wanted_none rfl | exact wanted_if rfl rfl rfl rfl) hs (fun z hz => by go_simp) ?_
        go_frame
        refine ord_move (some 82) (.pointer (some ⟨p, o, none⟩)) _ _ rfl rfl rfl (by first | exact wanted_none rfl | exact wanted_if rfl rfl rfl rfl) hs rfl ?_
        go_frame
        refine ord_load (some 83) (.pointer (some ⟨p, o, none⟩)) _ rfl rfl (by first | exact wanted_none rfl | exact wanted_if rfl rfl rfl rfl) hs (fun z hz => by go_simp) ?_
        go_frame
        refine ord_load (some 84) (.pointer (some ⟨p, o + 4, none⟩)) _ rfl rfl (by first | exact wanted_none rfl | exact wanted_if rfl rfl rfl rfl) hs (fun z hz => by go_simp) ?_
        go_frame
        refine ord_load (some 85) (.slice (some ⟨bn, on_, none⟩) ns.length nc) _ rfl rfl (by first | exact wanted_none rfl | exact wanted_if rfl rfl rfl rfl) hs (fun z hz => by have dd := ((HL5.out.trans hz).cell (p := ⟨p, o + 4, none⟩) HP.out).trans (HRG.out 4 _ rfl); go_simp) ?_
        go_frame
        refine ord_move (some 86) (.int .i64 k) _ _ rfl rfl rfl (by first | exact wanted_none rfl | exact wanted_if rfl rfl rfl rfl) hs rfl ?_
        go_frame
        refine ord_load (some 87) (.pointer (some ⟨bn, on_ + k, none⟩)) _ rfl rfl (by first | exact wanted_none rfl | exact wanted_if rfl rfl rfl rfl) hs (fun z hz => by go_simp) ?_
        go_frame
        refine ord_load (some 88) (.string s1) _ rfl rfl (by first | exact wanted_none rfl | exact wanted_if rfl rfl rfl rfl) hs (fun z hz => by have dd := ((HL5.out.trans hz).cell (p := ⟨bn, on_ + k, none⟩) HBN.out).trans HCN.out; go_simp) ?_
        go_frame
        refine ord_load (some 89) (.string (s1 ++ ⟨#[58]⟩)) _ rfl rfl (by first | exact wanted_none rfl | exact wanted_if rfl rfl rfl rfl) hs (fun z hz => by have hsz := HSZ.out; go_simp; omega) ?_
        go_frame
        refine ord_to (some 90) 53 Tryz.func53 (by kernel_rfl) (by kernel_rfl) [.pointer (some ⟨b, 0, none⟩), .string (s1 ++ ⟨#[58]⟩)] _ _ _ rfl rfl rfl (by first | exact wanted_none rfl | exact wanted_if rfl rfl rfl rfl) rfl ?_
        refine HWN.out.mono ?_
        rintro e z1 ⟨rfl, hb1, hbl⟩
        have hs2 : Below B w5 z1 := hs.trans hbl
        refine ⟨_, rfl, hs2, ?_⟩
        go_frame
        refine ord_end ?_
        have HL8 := Lib.hid hs2
        have HB8 := Lib.hid hb1
        clear hs hs2 hb1 hbl
        have HBW8 := Lib.hid (HL5.out.trans HL8.out)
        have dk5 := (HBW8.out.cell (p := ⟨p, o + 5, none⟩) HP.out).trans (HRG.out 5 _ rfl)
        have HCV := Lib.hid (HTX.out ks b1 (o1 + k * 6) B b _ z1 HB1'.out (Nat.le_trans HBw.out HBW8.out.size) (rangeAt_below HKS.out HBW8.out HB1'.out) (HVX.out.under HBW8.out) (.inr HB8.out) (by have := HROOM.out; simp [Lib.byteCells, Lib.strCells, HK0.out] at this ⊢; omega))
        go_wp2_with (go_at_call 29; refine HCV.out.mono ?_; rintro e w9 ⟨rfl, hb9, hbl⟩; have HB9 := Lib.hid hb9; have HL9 := Lib.hid hbl; clear hb9 hbl)
        go_roundg q
        case measure => omega
        case rel => exact ⟨k + 1, by omega, by go_num, by
          have hE : bs ++ Lib.byteCells ([123] ++ J (k + 1)) = ((bs ++ Lib.byteCells ([123] ++ J k) ++ [Value.int .u8 44]) ++ Lib.strCells (s1 ++ ⟨#[58]⟩)) ++ Lib.byteCells (tx k) := by rw [HJN.out]; simp [Lib.byteCells, Lib.strCells, str_add, HK0.out]
          rw [hE]; exact HB9.out, HBW8.out.trans HL9.out⟩
end Go.Proofs.YtieciegfloldhaaGreatDoor
