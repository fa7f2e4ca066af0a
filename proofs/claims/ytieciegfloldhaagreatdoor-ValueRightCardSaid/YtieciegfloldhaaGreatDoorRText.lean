/- The document's text of a value: ref04.Quote, ref04.Text. -/
import Derived.Test.YtieciegfloldhaaGreatDoorRDig
import Derived.Test.YtieciegfloldhaaGreatDoorTop2
import Derived.Test.YtieciegfloldhaaGreatDoorRName
namespace Go.Proofs.YtieciegfloldhaaGreatDoor
open Go Go.RowKit
set_option linter.unusedVariables false
set_option linter.unusedSimpArgs false

theorem row_slice {w : World} {B : Nat} {e : TypeId} {v : Value} {n : Nat} {xs : List Value} (h : w.ownsRow B e 1 v n xs) (h0 : n ≠ 0) : ∃ g cap, v = .slice (some ⟨g, 0, none⟩) n cap := by
  rcases h.2 with ⟨_, h1⟩ | ⟨g, cap, cur, hv, _⟩
  · exact (h0 h1).elim
  · exact ⟨g, cap, hv⟩
theorem row_new (w : World) (e : TypeId) (u : Value) : (w.alloc (.cells #[u] e)).ownsRow w.heap.size e 1 (.slice (some ⟨w.heap.size, 0, none⟩) 1 1) 1 [u] :=
  ⟨rfl, .inr ⟨w.heap.size, 1, #[u], rfl, Nat.le_refl _, heap_alloc_new w _, Nat.le_refl _, by unfold maxLen; decide, rfl, rfl⟩⟩
set_option maxHeartbeats 4000000 in
set_option maxRecDepth 100000 in
theorem quote_any (s : ByteArray) (hsz : s.size ≤ 200) (w : World) : Calls Tryz.prog 37 #[.string s] w fun e w' => e = .returned (.string ⟨(quoteL s.data.toList).toArray⟩) ∧ Below w.heap.size w w' := by
  obtain ⟨i0, hi, hz0, hz1, hz2⟩ := info_parts info_u8
  have HLN : Hid (s.data.toList.length = s.size) := Lib.hid (by cases s; rfl)
  have HES := Lib.hid (fun (k : Nat) (c : UInt8) => esc_take (l := s.data.toList) (k := k) (c := c))
  have HER := Lib.hid (fun (k : Nat) => esc_room s.data.toList k)
  have HEF : Hid (escL (s.data.toList.take s.size) = escL s.data.toList) := Lib.hid (by rw [List.take_of_length_le (Nat.le_of_eq HLN.out)])
  have HQ : Hid (quoteL s.data.toList = [34] ++ (escL s.data.toList ++ [34])) := Lib.hid rfl
  have HSZ := Lib.hid hsz
  have hs2 : (s.size : Int) ≤ 200 := by omega
  have HR0 := Lib.hid (row_new w 5 (.int .u8 34))
  have HB0 := Lib.hid (box_below w (.cells #[.int .u8 34] 5))
  clear hsz
  go_enter Tryz.func37, Tryz.ntmps37
  go_upto_region 2 with (fail)
  generalize w.alloc (.cells #[.int .u8 34] 5) = W1 at *
  go_wp2
  go_loopg [3, 4] s.size (fun q x y u => ∃ k : Nat, k + q = s.size ∧ y = .int .i64 k ∧ ∃ n : Nat, n = 1 + (escL (s.data.toList.take k)).length ∧ u.ownsRow w.heap.size 5 1 x n (Lib.byteCells ([34] ++ escL (s.data.toList.take k))) ∧ Below w.heap.size w u)
  case atStart => exact ⟨0, by omega, rfl, 1, rfl, HR0.out, HB0.out⟩
  case round =>
    obtain ⟨k, hk, rfl, n, hn, hown, hbw⟩ := hrel
    have HKR := Lib.hid (HER.out k)
    have HL : Hid (1 ≤ n ∧ n ≤ 1 + 2 * k) := Lib.hid (by have := HKR.out; omega)
    have HNN := Lib.hid hn
    have HOWN := Lib.hid hown
    have HBW := Lib.hid hbw
    obtain ⟨g, cap, rfl⟩ := row_slice hown (by have := HL.out; omega)
    clear hown hbw hn
    cases gk with
    | zero =>
      obtain rfl : k = s.size := by omega
      have hge : ¬ ((s.size : Int) < (s.size : Int)) := by omega
      go_wp2_with (at_builtin; refine wpList_append_own _ rfl _ _ 51 rfl w.heap.size 5 i0 (.int .u8 0) 1 1 Tryz.underlying51 hi hz0 hz1 hz2 rfl (by decide) _ _ _ rfl (HOWN.out.alloc _) ⟨wr.heap.size, 0, none⟩ 1 1 [.int .u8 34] rfl rfl ?c1a ?c2a ?c3a ?c4a ?c5a ?_)
      try case c1a =>
        intro j u hj
        match j, hj with
        | 0, hj => simp at hj; subst hj; simp [Addr.add]
      case c2a => first | rfl | (intro u hu; simp at hu; subst hu; rfl)
      case c3a => have h1 := And.intro HL.out HSZ.out; unfold maxLen; omega
      case c4a => have h1 := And.intro HL.out HSZ.out; omega
      case c5a => have h1 := HBW.out.size; simp; omega
      intro v' w2 hown' hgrow _
      have hcv : (convert 51 9 v').run Tryz.prog w2 = .ok (.string ⟨(quoteL s.data.toList).toArray⟩) w2 := by
        obtain ⟨g', cap', rfl⟩ := row_slice hown' (by omega)
        have hq : quoteL s.data.toList = [34] ++ (escL (s.data.toList.take s.size) ++ [34]) := by rw [HEF.out]; exact HQ.out
        have hln : (quoteL s.data.toList).length = n + 1 := by rw [hq]; have := HNN.out; simp only [List.length_append, List.length_cons, List.length_nil]; omega
        have h := run_convert_bytes_back (P := Tryz.prog) w2 51 9 5 ⟨g', 0, none⟩ cap' (quoteL s.data.toList) Tryz.underlying51 Tryz.underlying5 Tryz.underlying9 (fun j hj => by
          have hx : (Lib.byteCells ([34] ++ escL (s.data.toList.take s.size)) ++ [Value.int .u8 34])[j]? = some (.int .u8 ((quoteL s.data.toList)[j].toNat : Int)) := by
            have e : Lib.byteCells ([34] ++ escL (s.data.toList.take s.size)) ++ [Value.int .u8 34] = Lib.byteCells (quoteL s.data.toList) := by rw [hq]; simp [Lib.byteCells]
            rw [e]; simp [Lib.byteCells, hj]
          exact hown'.cells (g := g') rfl j _ hx)
        rw [hln] at h
        exact h
      have HB2 : Hid (Below w.heap.size w w2) := Lib.hid ((HBW.out.alloc HBW.out.size _).grown hgrow (by have := HBW.out.size; simp; omega) (fun k hk => (HOWN.out.lt k hk).1))
      obtain ⟨g', cap', rfl⟩ := row_slice hown' (by omega)
      clear hown' hgrow
      go_wp2
      go_ret
      exact ⟨rfl, HB2.out⟩
    | succ q =>
      have hlt : (k : Int) < (s.size : Int) := by omega
      obtain ⟨c, hc⟩ : ∃ c, s.data.toList[k]? = some c := ⟨_, List.getElem?_eq_getElem (by rw [HLN.out]; omega)⟩
      have dk := fun h => byte_at (k := k) (c := c) hc h
      have HE := Lib.hid (HES.out k c hc)
      clear hc
      by_cases hq : c = 34 ∨ c = 92
      · rw [if_pos hq] at HE
        have HCQ := Lib.hid hq
        obtain ⟨e34, he34⟩ : ∃ b, b = ((c.toNat : Int) == 34) := ⟨_, rfl⟩
        have hor : ((c.toNat : Int) == 34) = true ∨ (((c.toNat : Int) == 34) = false ∧ ((c.toNat : Int) == 92) = true) := by
          rcases hq with rfl | rfl
          · exact .inl rfl
          · exact .inr ⟨rfl, rfl⟩
        clear hq he34
        rcases hor with e34 | ⟨e34, e92⟩
        · go_upto_region 6 with (fail)
          go_wp2_with (at_builtin; refine wpList_append_own _ rfl _ _ 51 rfl w.heap.size 5 i0 (.int .u8 0) 1 1 Tryz.underlying51 hi hz0 hz1 hz2 rfl (by decide) _ _ _ rfl (HOWN.out.alloc _) ⟨wr.heap.size, 0, none⟩ 1 1 [.int .u8 92] rfl rfl ?c1c ?c2c ?c3c ?c4c ?c5c ?_)
          try case c1c =>
            intro j u hj
            match j, hj with
            | 0, hj => simp at hj; subst hj; simp [Addr.add]
          case c2c => first | rfl | (intro u hu; simp at hu; subst hu; rfl)
          case c3c => have h1 := And.intro HL.out HSZ.out; unfold maxLen; omega
          case c4c => have h1 := And.intro HL.out HSZ.out; omega
          case c5c => have h1 := HBW.out.size; simp; omega
          intro v' w2 hown' hgrow _
          have HB2 : Hid (Below w.heap.size w w2) := Lib.hid ((HBW.out.alloc HBW.out.size _).grown hgrow (by have := HBW.out.size; simp; omega) (fun k hk => (HOWN.out.lt k hk).1))
          have HO2 := Lib.hid hown'
          obtain ⟨g', cap', rfl⟩ := row_slice hown' (by omega)
          clear hown' hgrow
          go_wp2_with (at_builtin; refine wpList_append_own _ rfl _ _ 51 rfl w.heap.size 5 i0 (.int .u8 0) 1 1 Tryz.underlying51 hi hz0 hz1 hz2 rfl (by decide) _ _ _ rfl (HO2.out.alloc _) ⟨w2.heap.size, 0, none⟩ 1 1 [.int .u8 (c.toNat : Int)] rfl rfl ?c1d ?c2d ?c3d ?c4d ?c5d ?_)
          try case c1d =>
            intro j u hj
            match j, hj with
            | 0, hj => simp at hj; subst hj; simp [Addr.add]
          case c2d => first | rfl | (intro u hu; simp at hu; subst hu; rfl)
          case c3d => have h1 := And.intro HL.out HSZ.out; unfold maxLen; omega
          case c4d => have h1 := And.intro HL.out HSZ.out; omega
          case c5d => have h1 := HB2.out.size; simp; omega
          intro v'' w3 hown' hgrow _
          have HB3 : Hid (Below w.heap.size w w3) := Lib.hid ((HB2.out.alloc HB2.out.size _).grown hgrow (by have := HB2.out.size; simp; omega) (fun k hk => (HO2.out.lt k hk).1))
          have HO3 : Hid (w3.ownsRow w.heap.size 5 1 v'' (n + 1 + 1) (Lib.byteCells ([34] ++ escL (s.data.toList.take (k + 1))))) := Lib.hid (by rw [HE.out]; have := hown'; simpa [Lib.byteCells] using this)
          clear hown' hgrow
          go_wp2
          go_roundg q
          case measure => omega
          case rel => exact ⟨k + 1, by omega, by go_num, n + 1 + 1, by rw [HE.out]; have := HNN.out; simp only [List.length_append, List.length_cons, List.length_nil]; omega, HO3.out, HB3.out⟩
        · go_upto_region 6 with (fail)
          go_wp2_with (at_builtin; refine wpList_append_own _ rfl _ _ 51 rfl w.heap.size 5 i0 (.int .u8 0) 1 1 Tryz.underlying51 hi hz0 hz1 hz2 rfl (by decide) _ _ _ rfl (HOWN.out.alloc _) ⟨wr.heap.size, 0, none⟩ 1 1 [.int .u8 92] rfl rfl ?c1cx ?c2cx ?c3cx ?c4cx ?c5cx ?_)
          try case c1cx =>
            intro j u hj
            match j, hj with
            | 0, hj => simp at hj; subst hj; simp [Addr.add]
          case c2cx => first | rfl | (intro u hu; simp at hu; subst hu; rfl)
          case c3cx => have h1 := And.intro HL.out HSZ.out; unfold maxLen; omega
          case c4cx => have h1 := And.intro HL.out HSZ.out; omega
          case c5cx => have h1 := HBW.out.size; simp; omega
          intro v' w2 hown' hgrow _
          have HB2 : Hid (Below w.heap.size w w2) := Lib.hid ((HBW.out.alloc HBW.out.size _).grown hgrow (by have := HBW.out.size; simp; omega) (fun k hk => (HOWN.out.lt k hk).1))
          have HO2 := Lib.hid hown'
          obtain ⟨g', cap', rfl⟩ := row_slice hown' (by omega)
          clear hown' hgrow
          go_wp2_with (at_builtin; refine wpList_append_own _ rfl _ _ 51 rfl w.heap.size 5 i0 (.int .u8 0) 1 1 Tryz.underlying51 hi hz0 hz1 hz2 rfl (by decide) _ _ _ rfl (HO2.out.alloc _) ⟨w2.heap.size, 0, none⟩ 1 1 [.int .u8 (c.toNat : Int)] rfl rfl ?c1dx ?c2dx ?c3dx ?c4dx ?c5dx ?_)
          try case c1dx =>
            intro j u hj
            match j, hj with
            | 0, hj => simp at hj; subst hj; simp [Addr.add]
          case c2dx => first | rfl | (intro u hu; simp at hu; subst hu; rfl)
          case c3dx => have h1 := And.intro HL.out HSZ.out; unfold maxLen; omega
          case c4dx => have h1 := And.intro HL.out HSZ.out; omega
          case c5dx => have h1 := HB2.out.size; simp; omega
          intro v'' w3 hown' hgrow _
          have HB3 : Hid (Below w.heap.size w w3) := Lib.hid ((HB2.out.alloc HB2.out.size _).grown hgrow (by have := HB2.out.size; simp; omega) (fun k hk => (HO2.out.lt k hk).1))
          have HO3 : Hid (w3.ownsRow w.heap.size 5 1 v'' (n + 1 + 1) (Lib.byteCells ([34] ++ escL (s.data.toList.take (k + 1))))) := Lib.hid (by rw [HE.out]; have := hown'; simpa [Lib.byteCells] using this)
          clear hown' hgrow
          go_wp2
          go_roundg q
          case measure => omega
          case rel => exact ⟨k + 1, by omega, by go_num, n + 1 + 1, by rw [HE.out]; have := HNN.out; simp only [List.length_append, List.length_cons, List.length_nil]; omega, HO3.out, HB3.out⟩
      · rw [if_neg hq] at HE
        have t34 : ¬ ((c.toNat : Int) = 34) := fun h => hq (.inl (UInt8.toNat_inj.1 (by simpa using (by omega : c.toNat = 34))))
        have t92 : ¬ ((c.toNat : Int) = 92) := fun h => hq (.inr (UInt8.toNat_inj.1 (by simpa using (by omega : c.toNat = 92))))
        have e34 : ((c.toNat : Int) == 34) = false := by rw [beq_eq_false_iff_ne]; exact t34
        have e92 : ((c.toNat : Int) == 92) = false := by rw [beq_eq_false_iff_ne]; exact t92
        clear hq t34 t92
        go_wp2_with (at_builtin; refine wpList_append_own _ rfl _ _ 51 rfl w.heap.size 5 i0 (.int .u8 0) 1 1 Tryz.underlying51 hi hz0 hz1 hz2 rfl (by decide) _ _ _ rfl (HOWN.out.alloc _) ⟨wr.heap.size, 0, none⟩ 1 1 [.int .u8 (c.toNat : Int)] rfl rfl ?c1b ?c2b ?c3b ?c4b ?c5b ?_)
        try case c1b =>
          intro j u hj
          match j, hj with
          | 0, hj => simp at hj; subst hj; simp [Addr.add]
        case c2b => first | rfl | (intro u hu; simp at hu; subst hu; rfl)
        case c3b => have h1 := And.intro HL.out HSZ.out; unfold maxLen; omega
        case c4b => have h1 := And.intro HL.out HSZ.out; omega
        case c5b => have h1 := HBW.out.size; simp; omega
        intro v' w2 hown' hgrow _
        have HB2 : Hid (Below w.heap.size w w2) := Lib.hid ((HBW.out.alloc HBW.out.size _).grown hgrow (by have := HBW.out.size; simp; omega) (fun k hk => (HOWN.out.lt k hk).1))
        have HO2 : Hid (w2.ownsRow w.heap.size 5 1 v' (n + 1) (Lib.byteCells ([34] ++ escL (s.data.toList.take (k + 1))))) := Lib.hid (by rw [HE.out]; have := hown'; simpa [Lib.byteCells] using this)
        clear hown' hgrow
        go_wp2
        go_roundg q
        case measure => omega
        case rel => exact ⟨k + 1, by omega, by go_num, n + 1, by rw [HE.out]; have := HNN.out; simp only [List.length_append, List.length_cons, List.length_nil]; omega, HO2.out, HB2.out⟩
end Go.Proofs.YtieciegfloldhaaGreatDoor
