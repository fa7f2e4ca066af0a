/- Parts of a proof: Gath. -/
import Derived.Maps.OwnOps
import Derived.StringKeys
import Derived.Test.YtppmkehdhpgdcaaGreatPackP13
import Derived.Test.YtppmkehdhpgdcaaGreatPackP20
namespace Go.Proofs.YtppmkehdhpgdcaaGreat
open Go Go.RowKit
set_option linter.unusedVariables false
set_option linter.unusedSimpArgs false
theorem law9 : Go.Maps.Keyed Tryz.prog 9 := Go.Maps.string_keyed Tryz.underlying9
theorem zero3g (w : World) : (zeroValue 3).run Tryz.prog w = .ok (.int .i64 0) w := by kernel_rfl
def MapK (w : World) (mb q : Nat) (S : List (List UInt8)) : Prop := ∃ D : DataW Unit, w.ownsMap Tryz.prog 9 (Go.plainElem Tryz.prog 3) mb q D ∧ ∀ x, Go.Maps.has D (.string x) = true ↔ x ∈ S
theorem cntEL_far {l : List ET} {n : Nat} (h : 500 ≤ n) : cntEL l n = n := by
  cases l with
  | nil => rw [cntEL]
  | cons a l => rw [cntEL, if_pos h]
open Go.Maps in
theorem has_snoc {D : DataW Unit} (hD : IsMap D) {S : List (List UInt8)} (h : ∀ x, has D (.string x) = true ↔ x ∈ S) (s : List UInt8) (d : DataW Unit) : ∀ x, has (D.put (.string s) d) (.string x) = true ↔ x ∈ S ++ [s] := fun x => by
  rw [List.mem_append, List.mem_singleton]
  by_cases he : x = s
  · subst he
    exact ⟨fun _ => Or.inr rfl, fun _ => has_put_same (k := Lit.string x) hD trivial d⟩
  · rw [has_put_other (by intro h2; injection h2 with h2; exact he h2), h]
    exact ⟨Or.inl, fun h2 => h2.resolve_right he⟩
set_option maxHeartbeats 4000000 in
set_option maxRecDepth 100000 in
theorem gather_any : ∀ (t : ET) (n : Nat) (cs : List Value) (p o mb : Nat) (S : List (List UInt8)) (w : World), n < 500 → w.rangeAt p o cs → p < mb → ExpAt w mb cs t → MapK w mb n S →
    Calls Tryz.prog 39 #[.pointer (some ⟨p, o, none⟩), .map (some mb), .int .i64 n] w fun e w' => e = .returned (.int .i64 (cntE t n : Nat)) ∧ MapK w' mb (cntE t n) (S ++ (visE t n).map fun s => s.data.toList) ∧ Below mb w w' := by
  intro t
  induction t using ET.ind with
  | h k s v ns its ih =>
    intro n cs p o mb S w hn hr hp hv hmk
    have IH := Lib.hid ih
    obtain ⟨v0, v1, v2, v3, v4, v5, vn, vi, rfl, _, hs, _, _, hil, hi⟩ := hv.inv
    obtain ⟨_, A, c, rfl, hA⟩ := hi
    have HA := Lib.hid hA
    have d0 : w.cell? ⟨p, o, none⟩ = some (.int .i64 k) := hr 0 _ rfl
    have d1 : w.cell? ⟨p, o + 1, none⟩ = some (.string s) := hr 1 _ rfl
    have d9 : w.cell? ⟨p, o + 9, none⟩ = some (.slice A its.length c) := hr 9 _ rfl
    have D9 := Lib.hid d9
    have HPL := Lib.hid hp
    unfold maxLen at hil
    have H0 : Hid (cntEL (its.drop 0) (n + 1) = cntE (.mk k s v ns its) n) := Lib.hid (by rw [cntE]; rfl)
    have HVD : Hid (visE (.mk k s v ns its) n = (if k = 2 then [s] else []) ++ visEL (its.drop 0) (n + 1)) := Lib.hid (by rw [visE]; rfl)
    have hn2 : (n : Int) < 500 := by omega
    generalize cntE (.mk k s v ns its) n = res at *
    generalize visE (.mk k s v ns its) n = vis at *
    by_cases hk : k = 2
    · subst hk
      obtain ⟨D, hown, hhas⟩ := hmk
      have HOWN := Lib.hid hown
      have HHAS := Lib.hid hhas
      have HKEY : Hid (keyOf Tryz.prog 9 (.string s) = some (.string s.data.toList)) := Lib.hid (Go.WideMaps.keyOf_string_mk Tryz.underlying9 hs)
      have HNM : Hid (n < maxLen) := Lib.hid (by unfold maxLen; omega)
      have HVS : Hid ([s] ++ visEL (its.drop 0) (n + 1) = vis) := Lib.hid (by have := HVD.out; rw [if_pos rfl] at this; exact this.symm)
      clear ih hA hr hv hp hs hown hhas
      go_enter Tryz.func39, Tryz.ntmps39
      go_upto_region 4 with (first | (at_lookup; refine wpList_lookup_own_int _ rfl _ _ 83 rfl 9 3 .i64 law9 Tryz.underlying83 Tryz.underlying3 (zero3g _) mb n D rfl HOWN.out _ _ rfl HKEY.out ?_; intro cc hat hwc; clear hat hwc) | (at_mapUpdate; refine wpList_mapUpdate_own _ rfl _ _ _ 83 rfl 9 3 law9 Tryz.underlying83 _ mb n _ rfl HOWN.out HNM.out _ _ _ rfl rfl HKEY.out _ [] (plainElem_int Tryz.underlying3 (wrap64_wf _)) ?_; intro w1 hown1 hgrow1; have HM1 := Lib.hid hown1; have HG1 := Lib.hid hgrow1; clear hown1 hgrow1))
      have HBS : Hid (Below mb w w1) := Lib.hid ((Below.refl mb w).grown HG1.out (Nat.le_of_lt HOWN.out.lt) (fun j hj => by cases hj; exact Nat.le_refl _))
      have HMS : Hid (MapK w1 mb (n + 1) (S ++ [s].map fun s => s.data.toList)) := Lib.hid ⟨_, HM1.out, has_snoc HOWN.out.isMap HHAS.out _ _⟩
      have d9 := (HBS.out.cell (p := ⟨p, o + 9, none⟩) HPL.out).trans D9.out
      clear d0 d1
      go_upto_region 5 with (fail)
      go_loopg [2, 27] its.length (fun g u i wr => ∃ (j m : Nat) (L : List ByteArray), j + g = its.length ∧ i = .int .i64 j ∧ u = .int .i64 m ∧ m ≤ 500 ∧ Below mb w wr ∧ cntEL (its.drop j) m = res ∧ MapK wr mb m (S ++ L.map fun s => s.data.toList) ∧ L ++ visEL (its.drop j) m = vis)
      case atStart => exact ⟨0, n + 1, [s], by omega, rfl, by go_num, by omega, HBS.out, H0.out, HMS.out, HVS.out⟩
      case round =>
        obtain ⟨j, m, L, hj, rfl, rfl, hm5, hb, hres, hmk, hvis⟩ := hrel
        have HB1 := Lib.hid hb
        have HR := Lib.hid hres
        have HMK := Lib.hid hmk
        have HVI := Lib.hid hvis
        have d9 := (hb.cell (p := ⟨p, o + 9, none⟩) HPL.out).trans D9.out
        clear hb hres hmk hvis
        have hm5' : (m : Int) ≤ 500 := by omega
        cases gk with
        | zero =>
          obtain rfl : j = its.length := by omega
          have hge : ¬ ((its.length : Int) < (its.length : Int)) := by omega
          have HV := Lib.hid (HR.out.symm.trans (cntEL_end (l := its) (m := m)))
          have HL : Hid (L = vis) := Lib.hid (by have := HVI.out; rw [visEL_end, List.append_nil] at this; exact this)
          go_wp2
          go_ret
          exact ⟨by rw [HV.out]; rfl, by rw [HV.out, ← HL.out]; exact HMK.out, HB1.out⟩
        | succ g =>
          have hlt : (j : Int) < (its.length : Int) := by omega
          by_cases h0 : m < 500
          · obtain ⟨y, hy⟩ : ∃ y, its[j]? = some y := ⟨_, List.getElem?_eq_getElem (by omega)⟩
            obtain ⟨b, ob, rfl, hbb, hc⟩ := HA.out (by omega)
            obtain ⟨cs, hcl, hr, hR⟩ := hc j y hy
            have HV2 := Lib.hid (HR.out.symm.trans ((cntEL_step hy).trans (if_neg (by omega))))
            have HVI2 : Hid ((L ++ visE y m) ++ visEL (its.drop (j + 1)) (cntE y m) = vis) := Lib.hid (by have h1 := visEL_step (n := m) hy; rw [if_neg (by omega)] at h1; rw [List.append_assoc, ← h1]; exact HVI.out)
            have HC := Lib.hid (IH.out y (List.mem_of_getElem? hy) m cs b (ob + j * 10) mb (S ++ L.map fun s => s.data.toList) wr h0 (rangeAt_below hr HB1.out hbb) hbb (hR.under HB1.out) HMK.out)
            have hle := cntE_le y m h0
            have h0' : ¬ ((500 : Int) ≤ (m : Int)) := by omega
            clear hc hr hR hy hcl h0
            go_wp2_with (go_at_call 39; refine HC.out.mono ?_; rintro e w4 ⟨rfl, h1, h2⟩; have HM4 := Lib.hid h1; have HB4 := Lib.hid h2; clear h1 h2)
            go_roundg g
            case measure => omega
            case rel => exact ⟨j + 1, _, L ++ visE y m, by omega, by go_num, rfl, hle, HB1.out.trans HB4.out, HV2.out.symm, by have := HM4.out; rw [List.map_append, ← List.append_assoc]; exact this, HVI2.out⟩
          · have hm500 : m = 500 := by omega
            subst hm500
            have HV2 : Hid (res = 500) := Lib.hid (HR.out.symm.trans (cntEL_far (by omega)))
            have HL : Hid (L = vis) := Lib.hid (by have := HVI.out; rw [visEL_far (by omega), List.append_nil] at this; exact this)
            clear h0 hm5'
            go_wp2
            go_ret
            exact ⟨by rw [HV2.out]; rfl, by rw [HV2.out, ← HL.out]; exact HMK.out, HB1.out⟩
    · have hkn : ¬ k = 2 := hk
      have hkb : (k == 2) = false := by rw [beq_eq_false_iff_ne]; exact hk
      have HVS : Hid ([] ++ visEL (its.drop 0) (n + 1) = vis) := Lib.hid (by have := HVD.out; rw [if_neg hk] at this; exact this.symm)
      have HBS : Hid (Below mb w w) := Lib.hid (Below.refl _ _)
      have HMS : Hid (MapK w mb (n + 1) (S ++ ([] : List ByteArray).map fun s => s.data.toList)) := Lib.hid (by
        obtain ⟨D, hown, hhas⟩ := hmk
        exact ⟨D, hown.mono (by omega), by rw [List.map_nil, List.append_nil]; exact hhas⟩)
      clear ih hA hr hv hp hs hk hmk
      go_enter Tryz.func39, Tryz.ntmps39
      go_upto_region 5 with (fail)
      go_loopg [2, 27] its.length (fun g u i wr => ∃ (j m : Nat) (L : List ByteArray), j + g = its.length ∧ i = .int .i64 j ∧ u = .int .i64 m ∧ m ≤ 500 ∧ Below mb w wr ∧ cntEL (its.drop j) m = res ∧ MapK wr mb m (S ++ L.map fun s => s.data.toList) ∧ L ++ visEL (its.drop j) m = vis)
      case atStart => exact ⟨0, n + 1, [], by omega, rfl, by go_num, by omega, HBS.out, H0.out, HMS.out, HVS.out⟩
      case round =>
        obtain ⟨j, m, L, hj, rfl, rfl, hm5, hb, hres, hmk, hvis⟩ := hrel
        have HB1 := Lib.hid hb
        have HR := Lib.hid hres
        have HMK := Lib.hid hmk
        have HVI := Lib.hid hvis
        have d9 := (hb.cell (p := ⟨p, o + 9, none⟩) HPL.out).trans D9.out
        clear hb hres hmk hvis
        have hm5' : (m : Int) ≤ 500 := by omega
        cases gk with
        | zero =>
          obtain rfl : j = its.length := by omega
          have hge : ¬ ((its.length : Int) < (its.length : Int)) := by omega
          have HV := Lib.hid (HR.out.symm.trans (cntEL_end (l := its) (m := m)))
          have HL : Hid (L = vis) := Lib.hid (by have := HVI.out; rw [visEL_end, List.append_nil] at this; exact this)
          go_wp2
          go_ret
          exact ⟨by rw [HV.out]; rfl, by rw [HV.out, ← HL.out]; exact HMK.out, HB1.out⟩
        | succ g =>
          have hlt : (j : Int) < (its.length : Int) := by omega
          by_cases h0 : m < 500
          · obtain ⟨y, hy⟩ : ∃ y, its[j]? = some y := ⟨_, List.getElem?_eq_getElem (by omega)⟩
            obtain ⟨b, ob, rfl, hbb, hc⟩ := HA.out (by omega)
            obtain ⟨cs, hcl, hr, hR⟩ := hc j y hy
            have HV2 := Lib.hid (HR.out.symm.trans ((cntEL_step hy).trans (if_neg (by omega))))
            have HVI2 : Hid ((L ++ visE y m) ++ visEL (its.drop (j + 1)) (cntE y m) = vis) := Lib.hid (by have h1 := visEL_step (n := m) hy; rw [if_neg (by omega)] at h1; rw [List.append_assoc, ← h1]; exact HVI.out)
            have HC := Lib.hid (IH.out y (List.mem_of_getElem? hy) m cs b (ob + j * 10) mb (S ++ L.map fun s => s.data.toList) wr h0 (rangeAt_below hr HB1.out hbb) hbb (hR.under HB1.out) HMK.out)
            have hle := cntE_le y m h0
            have h0' : ¬ ((500 : Int) ≤ (m : Int)) := by omega
            clear hc hr hR hy hcl h0
            go_wp2_with (go_at_call 39; refine HC.out.mono ?_; rintro e w4 ⟨rfl, h1, h2⟩; have HM4 := Lib.hid h1; have HB4 := Lib.hid h2; clear h1 h2)
            go_roundg g
            case measure => omega
            case rel => exact ⟨j + 1, _, L ++ visE y m, by omega, by go_num, rfl, hle, HB1.out.trans HB4.out, HV2.out.symm, by have := HM4.out; rw [List.map_append, ← List.append_assoc]; exact this, HVI2.out⟩
          · have hm500 : m = 500 := by omega
            subst hm500
            have HV2 : Hid (res = 500) := Lib.hid (HR.out.symm.trans (cntEL_far (by omega)))
            have HL : Hid (L = vis) := Lib.hid (by have := HVI.out; rw [visEL_far (by omega), List.append_nil] at this; exact this)
            clear h0 hm5'
            go_wp2
            go_ret
            exact ⟨by rw [HV2.out]; rfl, by rw [HV2.out, ← HL.out]; exact HMK.out, HB1.out⟩
end Go.Proofs.YtppmkehdhpgdcaaGreat
