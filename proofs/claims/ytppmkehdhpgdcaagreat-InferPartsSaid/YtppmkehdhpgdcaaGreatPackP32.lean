/- Parts of a proof: ENamed. -/
import Derived.Test.YtppmkehdhpgdcaaGreatPackP13
import Derived.Test.YtppmkehdhpgdcaaGreatPackP31
namespace Go.Proofs.YtppmkehdhpgdcaaGreat
open Go Go.RowKit
set_option linter.unusedVariables false
set_option linter.unusedSimpArgs false
def riseF : Option ByteArray → List ByteArray → Bool
  | _, [] => true
  | none, s :: l => fieldB s && riseF (some s) l
  | some p, s :: l => fieldB s && (Op.bytesLess p.toList s.toList && riseF (some s) l)
theorem riseF_first {l : List ByteArray} {s : ByteArray} (h : l[0]? = some s) : riseF (prevK l 0) (l.drop 0) = (fieldB s && riseF (prevK l 1) (l.drop 1)) := by
  rw [drop_at h]
  show (fieldB s && riseF (some s) (l.drop 1)) = _
  unfold prevK
  simp [h]
theorem riseF_next {l : List ByteArray} {k : Nat} {p s : ByteArray} (hp : l[k]? = some p) (h : l[k + 1]? = some s) : riseF (prevK l (k + 1)) (l.drop (k + 1)) = (fieldB s && (Op.bytesLess p.toList s.toList && riseF (prevK l (k + 2)) (l.drop (k + 2)))) := by
  rw [drop_at h]
  have h1 : prevK l (k + 1) = some p := by unfold prevK; simp [hp]
  have h2 : prevK l (k + 2) = some s := by unfold prevK; simp [h]
  rw [h1, h2]
  rfl
theorem riseF_end {l : List ByteArray} : riseF (prevK l l.length) (l.drop l.length) = true := by
  rw [List.drop_eq_nil_of_le (Nat.le_refl _)]; rw [riseF]
def namedE (k : Int) (s : ByteArray) (ns : List ByteArray) (nk : Nat) : Bool :=
  if k = 2 then !wordB s && (fieldB s && ((ns.length : Int) == 0))
  else if k = 18 then fieldB s && ((ns.length : Int) == 0)
  else if k = 17 then riseF none ns && (s.toList.isEmpty && ((ns.length : Int) == (nk : Int)))
  else s.toList.isEmpty && ((ns.length : Int) == 0)
set_option maxHeartbeats 2000000 in
set_option maxRecDepth 100000 in
theorem named18 (p o : Nat) (sx : ByteArray) (v0 v1 v2 v3 v4 v5 : Value) (A K : Option Addr) (c nk kc : Nat) (l : List ByteArray) (w : World) (hr : w.rangeAt p o [.int .i64 18, .string sx, v0, v1, v2, v3, v4, v5, .slice A l.length c, .slice K nk kc]) (hv : SlAt w w.heap.size 1 StrR (.slice A l.length c) l) :
    Calls Tryz.prog 85 #[.pointer (some ⟨p, o, none⟩)] w fun e w' => e = .returned (.bool (namedE (18) sx l nk)) ∧ Below w.heap.size w w' := by
  have d0 : w.cell? ⟨p, o, none⟩ = some (.int .i64 18) := hr 0 _ rfl
  have d1 : w.cell? ⟨p, o + 1, none⟩ = some (.string sx) := hr 1 _ rfl
  have d8 : w.cell? ⟨p, o + 8, none⟩ = some (.slice A l.length c) := hr 8 _ rfl
  have d9 : w.cell? ⟨p, o + 9, none⟩ = some (.slice K nk kc) := hr 9 _ rfl
  have HPL : Hid (p < w.heap.size) := Lib.hid (cell_lt d0)
  have D8 := Lib.hid d8
  clear hr hv d8
  have d8 := D8.out
  have HFD := Lib.hid (fun w => vfield_any sx w)
  cases hf : fieldB sx with
  | false =>
    have HR : Hid (namedE 18 sx l nk = false) := Lib.hid (by unfold namedE; rw [if_neg (by decide), if_pos rfl]; rw [hf]; rfl)
    rw [hf] at HFD
    skip
    clear hf
    go_enter Tryz.func85, Tryz.ntmps85
    go_wp2_with (go_at_call 109; refine (HFD.out _).mono ?_; rintro e z ⟨rfl, hb⟩; have HB := Lib.hid hb; have e8 := (hb.cell (p := ⟨p, o + 8, none⟩) HPL.out).trans D8.out; clear hb)
    go_ret
    exact ⟨ret_bool HR.out.symm, HB.out⟩
  | true =>
    cases hl : ((l.length : Int) == 0) with
    | true =>
      have HR : Hid (namedE 18 sx l nk = true) := Lib.hid (by unfold namedE; rw [if_neg (by decide), if_pos rfl]; rw [hf, hl]; rfl)
      rw [hf] at HFD
      skip
      clear hf
      go_enter Tryz.func85, Tryz.ntmps85
      go_wp2_with (go_at_call 109; refine (HFD.out _).mono ?_; rintro e z ⟨rfl, hb⟩; have HB := Lib.hid hb; have e8 := (hb.cell (p := ⟨p, o + 8, none⟩) HPL.out).trans D8.out; clear hb)
      go_ret
      exact ⟨ret_bool HR.out.symm, HB.out⟩
    | false =>
      have HR : Hid (namedE 18 sx l nk = false) := Lib.hid (by unfold namedE; rw [if_neg (by decide), if_pos rfl]; rw [hf, hl]; rfl)
      rw [hf] at HFD
      skip
      clear hf
      go_enter Tryz.func85, Tryz.ntmps85
      go_wp2_with (go_at_call 109; refine (HFD.out _).mono ?_; rintro e z ⟨rfl, hb⟩; have HB := Lib.hid hb; have e8 := (hb.cell (p := ⟨p, o + 8, none⟩) HPL.out).trans D8.out; clear hb)
      go_ret
      exact ⟨ret_bool HR.out.symm, HB.out⟩
set_option maxHeartbeats 2000000 in
set_option maxRecDepth 100000 in
theorem named2 (p o : Nat) (sx : ByteArray) (v0 v1 v2 v3 v4 v5 : Value) (A K : Option Addr) (c nk kc : Nat) (l : List ByteArray) (w : World) (hr : w.rangeAt p o [.int .i64 2, .string sx, v0, v1, v2, v3, v4, v5, .slice A l.length c, .slice K nk kc]) (hv : SlAt w w.heap.size 1 StrR (.slice A l.length c) l) :
    Calls Tryz.prog 85 #[.pointer (some ⟨p, o, none⟩)] w fun e w' => e = .returned (.bool (namedE (2) sx l nk)) ∧ Below w.heap.size w w' := by
  have d0 : w.cell? ⟨p, o, none⟩ = some (.int .i64 2) := hr 0 _ rfl
  have d1 : w.cell? ⟨p, o + 1, none⟩ = some (.string sx) := hr 1 _ rfl
  have d8 : w.cell? ⟨p, o + 8, none⟩ = some (.slice A l.length c) := hr 8 _ rfl
  have d9 : w.cell? ⟨p, o + 9, none⟩ = some (.slice K nk kc) := hr 9 _ rfl
  have HPL : Hid (p < w.heap.size) := Lib.hid (cell_lt d0)
  have D8 := Lib.hid d8
  clear hr hv d8
  have d8 := D8.out
  have HWD := Lib.hid (fun w => vword_any sx w)
  cases hw : wordB sx with
  | true =>
    have HR : Hid (namedE 2 sx l nk = false) := Lib.hid (by unfold namedE; rw [if_pos rfl, hw]; rfl)
    rw [hw] at HWD
    clear hw
    go_enter Tryz.func85, Tryz.ntmps85
    go_wp2_with (go_at_call 108; refine (HWD.out _).mono ?_; rintro e z ⟨rfl, rfl⟩)
    go_ret
    exact ⟨ret_bool HR.out.symm, Below.refl _ _⟩
  | false =>
    have HFD := Lib.hid (fun w => vfield_any sx w)
    cases hf : fieldB sx with
    | false =>
      have HR : Hid (namedE 2 sx l nk = false) := Lib.hid (by unfold namedE; rw [if_pos rfl]; rw [hw, hf]; rfl)
      rw [hf] at HFD
      rw [hw] at HWD
      clear hf hw
      go_enter Tryz.func85, Tryz.ntmps85
      go_wp2_with (first | (go_at_call 109; refine (HFD.out _).mono ?_; rintro e z ⟨rfl, hb⟩; have HB := Lib.hid hb; have e8 := (hb.cell (p := ⟨p, o + 8, none⟩) HPL.out).trans D8.out; clear hb) | (go_at_call 108; refine (HWD.out _).mono ?_; rintro e z ⟨rfl, rfl⟩))
      go_ret
      exact ⟨ret_bool HR.out.symm, HB.out⟩
    | true =>
      cases hl : ((l.length : Int) == 0) with
      | true =>
        have HR : Hid (namedE 2 sx l nk = true) := Lib.hid (by unfold namedE; rw [if_pos rfl]; rw [hw, hf, hl]; rfl)
        rw [hf] at HFD
        rw [hw] at HWD
        clear hf hw
        go_enter Tryz.func85, Tryz.ntmps85
        go_wp2_with (first | (go_at_call 109; refine (HFD.out _).mono ?_; rintro e z ⟨rfl, hb⟩; have HB := Lib.hid hb; have e8 := (hb.cell (p := ⟨p, o + 8, none⟩) HPL.out).trans D8.out; clear hb) | (go_at_call 108; refine (HWD.out _).mono ?_; rintro e z ⟨rfl, rfl⟩))
        go_ret
        exact ⟨ret_bool HR.out.symm, HB.out⟩
      | false =>
        have HR : Hid (namedE 2 sx l nk = false) := Lib.hid (by unfold namedE; rw [if_pos rfl]; rw [hw, hf, hl]; rfl)
        rw [hf] at HFD
        rw [hw] at HWD
        clear hf hw
        go_enter Tryz.func85, Tryz.ntmps85
        go_wp2_with (first | (go_at_call 109; refine (HFD.out _).mono ?_; rintro e z ⟨rfl, hb⟩; have HB := Lib.hid hb; have e8 := (hb.cell (p := ⟨p, o + 8, none⟩) HPL.out).trans D8.out; clear hb) | (go_at_call 108; refine (HWD.out _).mono ?_; rintro e z ⟨rfl, rfl⟩))
        go_ret
        exact ⟨ret_bool HR.out.symm, HB.out⟩
set_option maxHeartbeats 2000000 in
set_option maxRecDepth 100000 in
theorem named0 (k : Int) (h2 : k ≠ 2) (h17 : k ≠ 17) (h18 : k ≠ 18) (p o : Nat) (sx : ByteArray) (v0 v1 v2 v3 v4 v5 : Value) (A K : Option Addr) (c nk kc : Nat) (l : List ByteArray) (w : World) (hr : w.rangeAt p o [.int .i64 k, .string sx, v0, v1, v2, v3, v4, v5, .slice A l.length c, .slice K nk kc]) (hv : SlAt w w.heap.size 1 StrR (.slice A l.length c) l) :
    Calls Tryz.prog 85 #[.pointer (some ⟨p, o, none⟩)] w fun e w' => e = .returned (.bool (namedE k sx l nk)) ∧ Below w.heap.size w w' := by
  have d0 : w.cell? ⟨p, o, none⟩ = some (.int .i64 k) := hr 0 _ rfl
  have d1 : w.cell? ⟨p, o + 1, none⟩ = some (.string sx) := hr 1 _ rfl
  have d8 : w.cell? ⟨p, o + 8, none⟩ = some (.slice A l.length c) := hr 8 _ rfl
  have d9 : w.cell? ⟨p, o + 9, none⟩ = some (.slice K nk kc) := hr 9 _ rfl
  have HPL : Hid (p < w.heap.size) := Lib.hid (cell_lt d0)
  have D8 := Lib.hid d8
  have e2 : (k == 2) = false := by rw [beq_eq_false_iff_ne]; exact h2
  have e17 : (k == 17) = false := by rw [beq_eq_false_iff_ne]; exact h17
  have e18 : (k == 18) = false := by rw [beq_eq_false_iff_ne]; exact h18
  have HU : Hid (namedE k sx l nk = (sx.toList.isEmpty && ((l.length : Int) == 0))) := Lib.hid (by unfold namedE; rw [if_neg h2, if_neg h18, if_neg h17])
  clear hr hv h2 h17 h18
  cases hs : sx.toList.isEmpty with
  | false =>
    have HR := Lib.hid (HU.out.trans (by rw [hs]; rfl : _ = false))
    go_enter Tryz.func85, Tryz.ntmps85
    go_wp2
    go_ret
    exact ⟨ret_bool HR.out.symm, Below.refl _ _⟩
  | true =>
    cases hl : ((l.length : Int) == 0) with
    | false =>
      have HR := Lib.hid (HU.out.trans (by rw [hs, hl]; rfl : _ = false))
      go_enter Tryz.func85, Tryz.ntmps85
      go_wp2
      go_ret
      exact ⟨ret_bool HR.out.symm, Below.refl _ _⟩
    | true =>
      have HR := Lib.hid (HU.out.trans (by rw [hs, hl]; rfl : _ = true))
      go_enter Tryz.func85, Tryz.ntmps85
      go_wp2
      go_ret
      exact ⟨ret_bool HR.out.symm, Below.refl _ _⟩
set_option maxHeartbeats 2000000 in
set_option maxRecDepth 100000 in
theorem named17 (p o : Nat) (sx : ByteArray) (v0 v1 v2 v3 v4 v5 : Value) (A K : Option Addr) (c nk kc : Nat) (l : List ByteArray) (w : World) (hr : w.rangeAt p o [.int .i64 17, .string sx, v0, v1, v2, v3, v4, v5, .slice A l.length c, .slice K nk kc]) (hv : SlAt w w.heap.size 1 StrR (.slice A l.length c) l) :
    Calls Tryz.prog 85 #[.pointer (some ⟨p, o, none⟩)] w fun e w' => e = .returned (.bool (namedE (17) sx l nk)) ∧ Below w.heap.size w w' := by
  have d0 : w.cell? ⟨p, o, none⟩ = some (.int .i64 17) := hr 0 _ rfl
  have d1 : w.cell? ⟨p, o + 1, none⟩ = some (.string sx) := hr 1 _ rfl
  have d8 : w.cell? ⟨p, o + 8, none⟩ = some (.slice A l.length c) := hr 8 _ rfl
  have d9 : w.cell? ⟨p, o + 9, none⟩ = some (.slice K nk kc) := hr 9 _ rfl
  have HPL : Hid (p < w.heap.size) := Lib.hid (cell_lt d0)
  have D8 := Lib.hid d8
  obtain ⟨_, hl, ha⟩ := str_at hv
  have HA := Lib.hid ha
  have H1 := Lib.hid (fun s => riseF_first (l := l) (s := s))
  have H2 := Lib.hid (fun k p s => riseF_next (l := l) (k := k) (p := p) (s := s))
  have HE := Lib.hid (riseF_end (l := l))
  have HU : Hid (namedE 17 sx l nk = (riseF none l && (sx.toList.isEmpty && ((l.length : Int) == (nk : Int))))) := Lib.hid (by unfold namedE; rw [if_neg (by decide), if_neg (by decide), if_pos rfl])
  have H0 : Hid (riseF (prevK l 0) (l.drop 0) = riseF none l) := Lib.hid rfl
  have hl2 : (l.length : Int) ≤ 9223372036854775807 := by omega
  have D1 := Lib.hid d1
  have D9 := Lib.hid d9
  clear ha hv hr
  obtain ⟨res, hres0⟩ : ∃ res, riseF none l = res := ⟨_, rfl⟩
  have HRES := Lib.hid hres0
  rw [hres0] at H0
  clear hres0
  go_enter Tryz.func85, Tryz.ntmps85
  go_upto_region 9 with (fail)
  go_loopg [38] l.length (fun q x u => ∃ k : Nat, k + q = l.length ∧ x = .int .i64 k ∧ Below w.heap.size w u ∧ riseF (prevK l k) (l.drop k) = res)
  case atStart => exact ⟨0, by omega, rfl, Below.refl _ _, H0.out⟩
  case round =>
    obtain ⟨k, hk, rfl, hb, hres⟩ := hrel
    have HR := Lib.hid hres
    have HBK := Lib.hid hb
    clear hres hb
    cases gk with
    | zero =>
      obtain rfl : k = l.length := by omega
      have hge : ¬ ((l.length : Int) < (l.length : Int)) := by omega
      have HV := Lib.hid (HR.out.symm.trans HE.out)
      have x1 := (HBK.out.cell (p := ⟨p, o + 1, none⟩) HPL.out).trans D1.out
      have x8 := (HBK.out.cell (p := ⟨p, o + 8, none⟩) HPL.out).trans D8.out
      have x9 := (HBK.out.cell (p := ⟨p, o + 9, none⟩) HPL.out).trans D9.out
      clear HR
      cases hs : sx.toList.isEmpty with
      | false =>
        have HR2 : Hid (namedE 17 sx l nk = false) := Lib.hid (by rw [HU.out, HRES.out, HV.out, hs]; rfl)
        go_upto_region 14 with (fail)
        go_quiet (fail)
        go_wp2
        go_ret
        exact ⟨ret_bool HR2.out.symm, HBK.out.trans ⟨rfl, rfl, rfl, Nat.le_refl _, fun _ _ => rfl⟩⟩
      | true =>
        cases hl : ((l.length : Int) == (nk : Int)) with
        | false =>
          have HR2 : Hid (namedE 17 sx l nk = false) := Lib.hid (by rw [HU.out, HRES.out, HV.out, hs, hl]; rfl)
          go_upto_region 14 with (fail)
          go_quiet (fail)
          go_wp2
          go_ret
          exact ⟨ret_bool HR2.out.symm, HBK.out.trans ⟨rfl, rfl, rfl, Nat.le_refl _, fun _ _ => rfl⟩⟩
        | true =>
          have HR2 : Hid (namedE 17 sx l nk = true) := Lib.hid (by rw [HU.out, HRES.out, HV.out, hs, hl]; rfl)
          go_upto_region 14 with (fail)
          go_quiet (fail)
          go_wp2
          go_ret
          exact ⟨ret_bool HR2.out.symm, HBK.out.trans ⟨rfl, rfl, rfl, Nat.le_refl _, fun _ _ => rfl⟩⟩
    | succ q =>
      have hlt : (k : Int) < (l.length : Int) := by omega
      obtain ⟨s, hs⟩ : ∃ s, l[k]? = some s := ⟨_, List.getElem?_eq_getElem (by omega)⟩
      obtain ⟨b, oo, rfl, hbl, hc⟩ := HA.out (by omega)
      have HCC := Lib.hid (fun i x hx => (hc i x hx).1)
      have HBL := Lib.hid hbl
      have ds := (HBK.out.cell (p := ⟨b, oo + k, none⟩) hbl).trans (hc k s hs).1
      have HNM := Lib.hid (vfield_any s wr)
      have HSK := Lib.hid hs
      clear hc hbl hs
      rcases Nat.eq_zero_or_pos k with hk0 | hk0
      · subst hk0
        have ds0 : wr.cell? ⟨b, oo, none⟩ = some (.string s) := ds
        have hlt0 : (0 : Int) < (l.length : Int) := by omega
        have HV := Lib.hid (HR.out.symm.trans (H1.out s HSK.out))
        clear HR
        generalize fieldB s = nb at *
        cases nb with
        | false =>
          have HV2 : Hid (res = false) := Lib.hid (HV.out.trans (Bool.false_and _))
          clear HV
          go_wp2_with (go_at_call 109; refine HNM.out.mono ?_; rintro e z ⟨rfl, hbz⟩; have HB3 := Lib.hid hbz; clear hbz)
          go_ret
          exact ⟨ret_bool (by rw [HU.out, HRES.out, HV2.out]; rfl), HBK.out.trans (HB3.out.mono HBK.out.size)⟩
        | true =>
          have HV2 := Lib.hid (HV.out.trans (Bool.true_and _))
          clear HV
          go_wp2_with (go_at_call 109; refine HNM.out.mono ?_; rintro e z ⟨rfl, hbz⟩; have HB3 := Lib.hid hbz; clear hbz)
          go_roundg q
          case measure => omega
          case rel => exact ⟨1, by omega, by go_num, HBK.out.trans (HB3.out.mono HBK.out.size), HV2.out.symm⟩
      · obtain ⟨j, rfl⟩ : ∃ j, k = j + 1 := ⟨k - 1, by omega⟩
        obtain ⟨pn, hp⟩ : ∃ pn, l[j]? = some pn := ⟨_, List.getElem?_eq_getElem (by omega)⟩
        have HV := Lib.hid (HR.out.symm.trans (H2.out j pn s hp HSK.out))
        have HDP := Lib.hid (HCC.out j pn hp)
        have hpos : (0 : Int) < ((j + 1 : Nat) : Int) := by omega
        have hj2 : (j : Int) < (l.length : Int) := by omega
        clear HR hp
        generalize fieldB s = nb at *
        cases nb with
        | false =>
          have HV2 : Hid (res = false) := Lib.hid (HV.out.trans (Bool.false_and _))
          clear HV
          go_wp2_with (go_at_call 109; refine HNM.out.mono ?_; rintro e z ⟨rfl, hbz⟩; have HB3 := Lib.hid hbz; clear hbz)
          go_ret
          exact ⟨ret_bool (by rw [HU.out, HRES.out, HV2.out]; rfl), HBK.out.trans (HB3.out.mono HBK.out.size)⟩
        | true =>
          have HV2 := Lib.hid (HV.out.trans (Bool.true_and _))
          clear HV
          cases hlt3 : Op.bytesLess pn.toList s.toList with
          | false =>
            have HV3 : Hid (res = false) := Lib.hid (HV2.out.trans (by rw [hlt3]; exact Bool.false_and _))
            go_wp2_with (go_at_call 109; refine HNM.out.mono ?_; rintro e z ⟨rfl, hbz⟩; have HB3 := Lib.hid hbz; have x8 := ((HBK.out.trans (hbz.mono HBK.out.size)).cell (p := ⟨p, o + 8, none⟩) HPL.out).trans D8.out; have dp := (((HBK.out.trans (hbz.mono HBK.out.size)).cell (p := ⟨b, oo + j, none⟩) HBL.out)).trans HDP.out; clear hbz)
            go_ret
            exact ⟨ret_bool (by rw [HU.out, HRES.out, HV3.out]; rfl), HBK.out.trans (HB3.out.mono HBK.out.size)⟩
          | true =>
            have HV3 := Lib.hid (HV2.out.trans (by rw [hlt3, Bool.true_and]))
            go_wp2_with (go_at_call 109; refine HNM.out.mono ?_; rintro e z ⟨rfl, hbz⟩; have HB3 := Lib.hid hbz; have x8 := ((HBK.out.trans (hbz.mono HBK.out.size)).cell (p := ⟨p, o + 8, none⟩) HPL.out).trans D8.out; have dp := (((HBK.out.trans (hbz.mono HBK.out.size)).cell (p := ⟨b, oo + j, none⟩) HBL.out)).trans HDP.out; clear hbz)
            go_roundg q
            case measure => omega
            case rel => exact ⟨j + 2, by omega, by go_num, HBK.out.trans (HB3.out.mono HBK.out.size), HV3.out.symm⟩
theorem named_any (k : Int) (p o : Nat) (sx : ByteArray) (v0 v1 v2 v3 v4 v5 : Value) (A K : Option Addr) (c nk kc : Nat) (l : List ByteArray) (w : World) (hr : w.rangeAt p o [.int .i64 k, .string sx, v0, v1, v2, v3, v4, v5, .slice A l.length c, .slice K nk kc]) (hv : SlAt w w.heap.size 1 StrR (.slice A l.length c) l) :
    Calls Tryz.prog 85 #[.pointer (some ⟨p, o, none⟩)] w fun e w' => e = .returned (.bool (namedE k sx l nk)) ∧ Below w.heap.size w w' := by
  rcases Classical.em (k = 2) with rfl | h2
  · exact named2 p o sx v0 v1 v2 v3 v4 v5 A K c nk kc l w hr hv
  rcases Classical.em (k = 17) with rfl | h17
  · exact named17 p o sx v0 v1 v2 v3 v4 v5 A K c nk kc l w hr hv
  rcases Classical.em (k = 18) with rfl | h18
  · exact named18 p o sx v0 v1 v2 v3 v4 v5 A K c nk kc l w hr hv
  exact named0 k h2 h17 h18 p o sx v0 v1 v2 v3 v4 v5 A K c nk kc l w hr hv
end Go.Proofs.YtppmkehdhpgdcaaGreat
