/- Parts of a proof: RPut. -/
import Derived.Test.YtppmkehdhpgdcaaGreatPack16
import Derived.Test.YtppmkehdhpgdcaaGreatPack39
namespace Go.Proofs.YtppmkehdhpgdcaaGreat
open Go Go.RowKit
set_option linter.unusedVariables false
set_option linter.unusedSimpArgs false
def encB (s : ByteArray) : List Value := [.string s]
theorem encB_len (x : ByteArray) : (encB x).length = 1 := rfl
theorem encB_one (x : ByteArray) : ∀ u ∈ encB x, u.oneCell' = true := by intro u hu; simp [encB] at hu; subst hu; rfl
theorem info_str : (Tryz.prog.info? 9).map (fun i => (i.zero, i.size, i.bytes)) = some (some (.string ⟨#[]⟩), 1, 16) := by kernel_rfl
theorem flat_split {α : Type} (enc : α → List Value) (l : List α) (k : Nat) : flat enc l = flat enc (l.take k) ++ flat enc (l.drop k) := by
  unfold flat; rw [← List.flatMap_append, List.take_append_drop]
theorem rows_at {w : World} {l : List ByteArray} {A : Option Addr} {b o : Nat} (hA : A = some ⟨b, o, none⟩) (hc : ∀ (i : Nat) x, l[i]? = some x → ∃ cs : List Value, cs.length = 1 ∧ w.rangeAt b (o + i * 1) cs ∧ Enc encB cs x) (k : Nat) :
    ∀ j u, (flat encB (l.drop k))[j]? = some u → w.cell? ((⟨b, o + k, none⟩ : Addr).add j) = some u := by
  intro j u hu
  rw [Addr.add_mid]
  have hfl : ∀ l : List ByteArray, flat encB l = l.map fun s => Value.string s := fun l => by
    induction l with
    | nil => rfl
    | cons a l ih => show encB a ++ flat encB l = _; rw [ih]; rfl
  rw [hfl, List.getElem?_map] at hu
  cases hx : (l.drop k)[j]? with
  | none => rw [hx] at hu; cases hu
  | some x =>
    rw [hx] at hu
    simp at hu
    subst hu
    rw [List.getElem?_drop] at hx
    obtain ⟨cs, _, hr, he⟩ := hc _ x hx
    rw [he] at hr
    have := hr 0 _ rfl
    rw [show o + k + j = o + (k + j) * 1 + 0 by omega]; exact this
theorem exec_build_str {a : Act} {o : Oper} {w : World} (x : Operand) (ho : o.op = .buildSlice 24 1 #[(0, x)]) (s : ByteArray) (hx : a.eval x = .string s) :
    (execOp a.eval o).run Tryz.prog w = .ok (.value (.slice (some ⟨w.heap.size, 0, none⟩) 1 1)) (w.alloc (.cells #[.string s] 9)) := by
  unfold execOp
  simp only [ho, List.map_toArray, List.map_cons, List.map_nil, hx]
  go_simp
set_option maxHeartbeats 4000000 in
set_option maxRecDepth 100000 in
theorem rput_any (l : List ByteArray) (s : ByteArray) (v : Value) (w : World) (hv : SlAt w w.heap.size 1 (Enc encB) v l) (h5 : l.length ≤ 500) (hcap : ∀ A n c, v = .slice A n c → n ≤ c) :
    Calls Tryz.prog 70 #[v, .string s] w fun e w' => ∃ v', e = .returned v' ∧ SlAt w' w'.heap.size 1 (Enc encB) v' (putB l s) ∧ (∀ A n c, v' = .slice A n c → n ≤ c) ∧ Below w.heap.size w w' := by
  have HV := Lib.hid hv
  have HCAP := Lib.hid hcap
  obtain ⟨_, A, c, rfl, hA⟩ := hv
  have hcl := hcap A l.length c rfl
  have HA := Lib.hid hA
  have h5' : (l.length : Int) ≤ 500 := by omega
  clear hA hcap
  go_enter Tryz.func70, Tryz.ntmps70
  go_wp2
  go_loopg [5] l.length (fun g i wr => ∃ k : Nat, k + g = l.length ∧ i = .int .i64 k ∧ wr = w ∧ ∀ j a, j < k → l[j]? = some a → Op.bytesLess a.toList s.toList = true)
  case atStart => exact ⟨0, by omega, rfl, rfl, fun j a hj => absurd hj (by omega)⟩
  case round =>
    obtain ⟨k, hk, rfl, rfl, hlt⟩ := hrel
    have HLT := Lib.hid hlt
    clear hlt
    have HKC := Lib.hid (show k ≤ c by omega)
    have HLC := Lib.hid hcl
    clear hcl
    cases gk with
    | zero =>
      have hge : ¬ ((k : Int) < (l.length : Int)) := by omega
      have hge2 : decide ((k : Int) < (l.length : Int)) = false := decide_eq_false hge
      have hpb : putB l s = l.take k ++ ([s] ++ l.drop k) := by
        rw [putB_at s l k (by omega) HLT.out (fun a ha => by rw [List.getElem?_eq_none (by omega)] at ha; cases ha), if_neg (by rintro ⟨a, ha, _⟩; rw [List.getElem?_eq_none (by omega)] at ha; cases ha)]
      have HPB := Lib.hid hpb
      clear hpb
      go_upto_region 6 with (fail)
      obtain ⟨i0, hi, hz0, hz1, hz2⟩ := info_parts info_str
      have HK := Lib.hid (show k ≤ l.length by omega)
      obtain ⟨X, hX⟩ : ∃ X : Option Addr, (if c = k then (A) else (A : Option Addr).map (·.add (k * 1))) = X := ⟨_, rfl⟩
      have HX2 := Lib.hid hX
      clear hX
      refine wp_region_ord [(0, true), (1, true), (2, true), (3, true), (4, true), (6, true), (7, true), (8, true), (5, false), (9, false), (10, false), (11, true)] (fun _ => True) (by kernel_rfl) (by kernel_rfl) (by kernel_rfl) rfl (by intro c a d v w h; cases d <;> exact h) ?_
      have HWD : Hid (Below wr.heap.size wr wr.drew) := Lib.hid (Below.refl _ _).drew
      generalize wr.drew = wd at *
      refine ord_move (some 33) (.slice (A) l.length c) _ _ rfl rfl rfl rfl trivial rfl ?_
      go_frame
      refine ord_move (some 34) (.int .i64 k) _ _ rfl rfl rfl rfl trivial rfl ?_
      go_frame
      refine ord_move (some 35) (.int .i64 k) _ _ rfl rfl rfl rfl trivial rfl ?_
      go_frame
      refine ord_load (some 36) (.slice A k k) _ rfl rfl rfl trivial (fun z _ => exec_slice_hm 24 _ _ _ rfl Tryz.underlying24 (by kernel_rfl) (A) l.length c k rfl rfl rfl HKC.out) ?_
      go_frame
      refine ord_move (some 37) (.string s) _ _ rfl rfl rfl rfl trivial rfl ?_
      go_frame
      refine ord_move (some 39) (.slice (A) l.length c) _ _ rfl rfl rfl rfl trivial rfl ?_
      go_frame
      refine ord_move (some 40) (.int .i64 k) _ _ rfl rfl rfl rfl trivial rfl ?_
      go_frame
      refine ord_load (some 41) (.slice X (l.length - k) (c - k)) _ rfl rfl rfl trivial (fun z _ => by rw [← HX2.out]; exact exec_slice_l 24 _ _ rfl Tryz.underlying24 1 (by kernel_rfl) (A) l.length c k rfl rfl HK.out) ?_
      go_frame
      refine ord_run (some 38) (.slice (some ⟨wd.heap.size, 0, none⟩) 1 1) (wd.alloc (.cells #[.string s] 9)) _ rfl rfl rfl (exec_build_str _ rfl s rfl) trivial ?_
      go_frame
      have hown0 := own_one wd 9 (.string s) wd.heap.size (Nat.le_refl _)
      have HB1 : Hid (Below wr.heap.size wr (wd.alloc (.cells #[.string s] 9))) := Lib.hid (HWD.out.alloc HWD.out.size _)
      refine ord_app (some 42) _ _ _ 24 rfl rfl rfl rfl wd.heap.size 9 i0 (.string ⟨#[]⟩) 1 16 Tryz.underlying24 hi hz0 hz1 hz2 rfl (by decide) (.slice (some ⟨wd.heap.size, 0, none⟩) 1 1) 1 [.string s] rfl hown0 _ (l.length - k) (c - k) (flat encB (l.drop k)) rfl ?l1 ?l2 (flat_one encB_one _) ?l3 ?l4 ?l5 ?_
      case l1 => rw [flat_len encB_len, List.length_drop]
      case l2 =>
        intro h0
        obtain ⟨b, o, hAe, hbl, hc⟩ := HA.out (by omega)
        have hck : ¬ c = k := by have := HLC.out; omega
        refine ⟨⟨b, o + k, none⟩, ?_, fun j u hu => ?_⟩
        · rw [← HX2.out, if_neg hck]
          first
            | (cases hAe; simp [Addr.add]; try omega)
            | (subst hAe; simp [Addr.add]; try omega)
            | (simp [Addr.add]; try omega)
        · refine (HB1.out.cell (p := (⟨b, o + k, none⟩ : Addr).add j) ?_).trans (rows_at hAe hc k j u hu)
          rw [Addr.add_mid]; exact hbl
      case l3 => unfold maxLen; omega
      case l4 => omega
      case l5 => simp
      intro v1 w1 hown1 hg1
      refine ⟨trivial, ?_⟩
      go_frame
      have hB2 : Below wr.heap.size wr w1 := HB1.out.grown hg1 (by have := HB1.out.size; exact this) (fun j hj => by have h9 : wd.heap.size = j := (by simpa [Value.ownBlock] using hj); have := HWD.out.size; omega)
      obtain ⟨g1, c1, rfl, _, _, hgl, hcell1⟩ := own_addr hown1 (by omega)
      refine ord_app_new (some 43) _ _ _ 24 rfl rfl rfl rfl 9 i0 (.string ⟨#[]⟩) 1 16 Tryz.underlying24 hi hz0 hz1 hz2 rfl (by decide) (A) k (flat encB (l.take k)) rfl ?m1 ?m2 ?m3 ⟨g1, 0, none⟩ (1 + (l.length - k)) c1 (by omega) ([.string s] ++ flat encB (l.drop k)) rfl ?m4 hcell1 ?m5 ?m6 ?m7 ?_
      case m1 => rw [flat_len encB_len, List.length_take, Nat.min_eq_left HK.out]
      case m2 =>
        intro hn
        rcases Nat.eq_zero_or_pos k with h0 | h0
        · exact h0
        · obtain ⟨b, o, hAe, _⟩ := HA.out (by omega)
          first | (rw [hn] at hAe; cases hAe; done) | (cases hn; done)
      case m3 =>
        intro ad hAd j u hu
        have h0 : 0 < k := by
          rcases Nat.eq_zero_or_pos k with h0 | h0
          · subst h0; simp [flat] at hu
          · exact h0
        obtain ⟨b, o, hAe, hbl, hc⟩ := HA.out (by omega)
        have had : ad = ⟨b, o, none⟩ := by rw [hAd] at hAe; injection hAe
        subst had
        have hsub : (flat encB (l.drop 0))[j]? = some u := by
          rw [List.drop_zero, flat_split encB l k, List.getElem?_append_left (List.getElem?_eq_some_iff.1 hu).1]; exact hu
        refine (hB2.cell (p := (⟨b, o, none⟩ : Addr).add j) ?_).trans (rows_at hAe hc 0 j u hsub)
        rw [Addr.add_mid]; exact hbl
      case m4 => rw [List.length_append, flat_len encB_len, List.length_drop]; simp; try omega
      case m5 =>
        intro u hu
        rcases List.mem_append.1 hu with h | h
        · simp at h; subst h; rfl
        · exact flat_one encB_one _ u h
      case m6 => unfold maxLen; omega
      case m7 => omega
      intro v2 w2 hown2 hg2
      refine ⟨trivial, ?_⟩
      go_frame
      have hB3 : Below wr.heap.size wr w2 := grown_none hB2 hg2 hB2.size
      refine ord_assign (some 4) v2 _ _ rfl rfl rfl rfl trivial rfl ?_
      go_frame
      refine ord_end ?_
      have HE : Hid (OwnSl 9 1 encB w2 w1.heap.size v2 (putB l s)) := Lib.hid (by
        rw [HPB.out]; unfold OwnSl flat
        rw [List.flatMap_append, List.flatMap_append, List.length_append, List.length_append, List.length_take, List.length_drop, Nat.min_eq_left HK.out]
        exact hown2)
      have HB3 := Lib.hid hB3
      clear hown0 hown1 hown2 hg1 hg2 hcell1 hB2 hB3 hi hz0 hz1 hz2
      go_wp2
      go_ret
      refine ⟨_, rfl, HE.out.at encB_len (by have := putB_len s l; omega), ?_, HB3.out⟩
      intro A' n' c' he
      rcases HE.out.2 with ⟨h1, _⟩ | ⟨g, cap, cur, h1, _, _, h2, _⟩
      · rw [h1] at he; cases he; exact Nat.le_refl _
      · rw [h1] at he; cases he; exact h2
    | succ g =>
      have hl1 : (k : Int) < (l.length : Int) := by omega
      obtain ⟨x, hx⟩ : ∃ x, l[k]? = some x := ⟨_, List.getElem?_eq_getElem (by omega)⟩
      obtain ⟨b, o, hAe, hbl, hc⟩ := HA.out (by omega)
      obtain ⟨cs, hcl, hr, he⟩ := hc k x hx
      have hcell : wr.cell? ⟨b, o + k, none⟩ = some (.string x) := by have := hr 0 (.string x) (by rw [he]; rfl); simpa using this
      have HX := Lib.hid hx
      clear hr he hcl hc hx
      cases hb : Op.bytesLess x.toList s.toList with
      | true =>
        subst hAe
        go_wp2
        go_roundg g
        case measure => omega
        case rel => exact ⟨k + 1, by omega, by go_num, rfl, fun j a hj ha => by
          by_cases e : j = k
          · subst e
            have := HX.out
            rw [ha] at this
            injection this with this
            rw [this]; exact hb
          · exact HLT.out j a (by omega) ha⟩
      | false =>
        have hpp := putB_at s l k (by omega) HLT.out (fun a ha => by rw [HX.out] at ha; injection ha with ha; rw [← ha]; exact hb)
        cases heq : (x.toList == s.toList) with
        | true =>
          have HPB : Hid (putB l s = l) := Lib.hid (by rw [hpp, if_pos ⟨x, HX.out, heq⟩])
          clear hpp
          subst hAe
          go_wp2
          go_ret
          exact ⟨_, rfl, by rw [HPB.out]; exact HV.out, HCAP.out, Below.refl _ _⟩
        | false =>
          have hpb : putB l s = l.take k ++ ([s] ++ l.drop k) := by
            rw [hpp, if_neg]
            rintro ⟨a, ha, h2⟩
            rw [HX.out] at ha
            injection ha with ha
            rw [← ha, heq] at h2
            cases h2
          clear hpp
          subst hAe
          have HPB := Lib.hid hpb
          clear hpb
          go_upto_region 6 with (fail)
          obtain ⟨i0, hi, hz0, hz1, hz2⟩ := info_parts info_str
          have HK := Lib.hid (show k ≤ l.length by omega)
          obtain ⟨X, hX⟩ : ∃ X : Option Addr, (if c = k then ((some ⟨b, o, none⟩)) else ((some ⟨b, o, none⟩) : Option Addr).map (·.add (k * 1))) = X := ⟨_, rfl⟩
          have HX2 := Lib.hid hX
          clear hX
          refine wp_region_ord [(0, true), (1, true), (2, true), (3, true), (4, true), (6, true), (7, true), (8, true), (5, false), (9, false), (10, false), (11, true)] (fun _ => True) (by kernel_rfl) (by kernel_rfl) (by kernel_rfl) rfl (by intro c a d v w h; cases d <;> exact h) ?_
          have HWD : Hid (Below wr.heap.size wr wr.drew) := Lib.hid (Below.refl _ _).drew
          generalize wr.drew = wd at *
          refine ord_move (some 33) (.slice ((some ⟨b, o, none⟩)) l.length c) _ _ rfl rfl rfl rfl trivial rfl ?_
          go_frame
          refine ord_move (some 34) (.int .i64 k) _ _ rfl rfl rfl rfl trivial rfl ?_
          go_frame
          refine ord_move (some 35) (.int .i64 k) _ _ rfl rfl rfl rfl trivial rfl ?_
          go_frame
          refine ord_load (some 36) (.slice (some ⟨b, o, none⟩) k k) _ rfl rfl rfl trivial (fun z _ => exec_slice_hm 24 _ _ _ rfl Tryz.underlying24 (by kernel_rfl) ((some ⟨b, o, none⟩)) l.length c k rfl rfl rfl HKC.out) ?_
          go_frame
          refine ord_move (some 37) (.string s) _ _ rfl rfl rfl rfl trivial rfl ?_
          go_frame
          refine ord_move (some 39) (.slice ((some ⟨b, o, none⟩)) l.length c) _ _ rfl rfl rfl rfl trivial rfl ?_
          go_frame
          refine ord_move (some 40) (.int .i64 k) _ _ rfl rfl rfl rfl trivial rfl ?_
          go_frame
          refine ord_load (some 41) (.slice X (l.length - k) (c - k)) _ rfl rfl rfl trivial (fun z _ => by rw [← HX2.out]; exact exec_slice_l 24 _ _ rfl Tryz.underlying24 1 (by kernel_rfl) ((some ⟨b, o, none⟩)) l.length c k rfl rfl HK.out) ?_
          go_frame
          refine ord_run (some 38) (.slice (some ⟨wd.heap.size, 0, none⟩) 1 1) (wd.alloc (.cells #[.string s] 9)) _ rfl rfl rfl (exec_build_str _ rfl s rfl) trivial ?_
          go_frame
          have hown0 := own_one wd 9 (.string s) wd.heap.size (Nat.le_refl _)
          have HB1 : Hid (Below wr.heap.size wr (wd.alloc (.cells #[.string s] 9))) := Lib.hid (HWD.out.alloc HWD.out.size _)
          refine ord_app (some 42) _ _ _ 24 rfl rfl rfl rfl wd.heap.size 9 i0 (.string ⟨#[]⟩) 1 16 Tryz.underlying24 hi hz0 hz1 hz2 rfl (by decide) (.slice (some ⟨wd.heap.size, 0, none⟩) 1 1) 1 [.string s] rfl hown0 _ (l.length - k) (c - k) (flat encB (l.drop k)) rfl ?l1 ?l2 (flat_one encB_one _) ?l3 ?l4 ?l5 ?_
          case l1 => rw [flat_len encB_len, List.length_drop]
          case l2 =>
            intro h0
            obtain ⟨b, o, hAe, hbl, hc⟩ := HA.out (by omega)
            have hck : ¬ c = k := by have := HLC.out; omega
            refine ⟨⟨b, o + k, none⟩, ?_, fun j u hu => ?_⟩
            · rw [← HX2.out, if_neg hck]
              first
                | (cases hAe; simp [Addr.add]; try omega)
                | (subst hAe; simp [Addr.add]; try omega)
                | (simp [Addr.add]; try omega)
            · refine (HB1.out.cell (p := (⟨b, o + k, none⟩ : Addr).add j) ?_).trans (rows_at hAe hc k j u hu)
              rw [Addr.add_mid]; exact hbl
          case l3 => unfold maxLen; omega
          case l4 => omega
          case l5 => simp
          intro v1 w1 hown1 hg1
          refine ⟨trivial, ?_⟩
          go_frame
          have hB2 : Below wr.heap.size wr w1 := HB1.out.grown hg1 (by have := HB1.out.size; exact this) (fun j hj => by have h9 : wd.heap.size = j := (by simpa [Value.ownBlock] using hj); have := HWD.out.size; omega)
          obtain ⟨g1, c1, rfl, _, _, hgl, hcell1⟩ := own_addr hown1 (by omega)
          refine ord_app_new (some 43) _ _ _ 24 rfl rfl rfl rfl 9 i0 (.string ⟨#[]⟩) 1 16 Tryz.underlying24 hi hz0 hz1 hz2 rfl (by decide) ((some ⟨b, o, none⟩)) k (flat encB (l.take k)) rfl ?m1 ?m2 ?m3 ⟨g1, 0, none⟩ (1 + (l.length - k)) c1 (by omega) ([.string s] ++ flat encB (l.drop k)) rfl ?m4 hcell1 ?m5 ?m6 ?m7 ?_
          case m1 => rw [flat_len encB_len, List.length_take, Nat.min_eq_left HK.out]
          case m2 =>
            intro hn
            rcases Nat.eq_zero_or_pos k with h0 | h0
            · exact h0
            · obtain ⟨b, o, hAe, _⟩ := HA.out (by omega)
              first | (rw [hn] at hAe; cases hAe; done) | (cases hn; done)
          case m3 =>
            intro ad hAd j u hu
            have h0 : 0 < k := by
              rcases Nat.eq_zero_or_pos k with h0 | h0
              · subst h0; simp [flat] at hu
              · exact h0
            obtain ⟨b, o, hAe, hbl, hc⟩ := HA.out (by omega)
            have had : ad = ⟨b, o, none⟩ := by rw [hAd] at hAe; injection hAe
            subst had
            have hsub : (flat encB (l.drop 0))[j]? = some u := by
              rw [List.drop_zero, flat_split encB l k, List.getElem?_append_left (List.getElem?_eq_some_iff.1 hu).1]; exact hu
            refine (hB2.cell (p := (⟨b, o, none⟩ : Addr).add j) ?_).trans (rows_at hAe hc 0 j u hsub)
            rw [Addr.add_mid]; exact hbl
          case m4 => rw [List.length_append, flat_len encB_len, List.length_drop]; simp; try omega
          case m5 =>
            intro u hu
            rcases List.mem_append.1 hu with h | h
            · simp at h; subst h; rfl
            · exact flat_one encB_one _ u h
          case m6 => unfold maxLen; omega
          case m7 => omega
          intro v2 w2 hown2 hg2
          refine ⟨trivial, ?_⟩
          go_frame
          have hB3 : Below wr.heap.size wr w2 := grown_none hB2 hg2 hB2.size
          refine ord_assign (some 4) v2 _ _ rfl rfl rfl rfl trivial rfl ?_
          go_frame
          refine ord_end ?_
          have HE : Hid (OwnSl 9 1 encB w2 w1.heap.size v2 (putB l s)) := Lib.hid (by
            rw [HPB.out]; unfold OwnSl flat
            rw [List.flatMap_append, List.flatMap_append, List.length_append, List.length_append, List.length_take, List.length_drop, Nat.min_eq_left HK.out]
            exact hown2)
          have HB3 := Lib.hid hB3
          clear hown0 hown1 hown2 hg1 hg2 hcell1 hB2 hB3 hi hz0 hz1 hz2
          go_wp2
          go_ret
          refine ⟨_, rfl, HE.out.at encB_len (by have := putB_len s l; omega), ?_, HB3.out⟩
          intro A' n' c' he
          rcases HE.out.2 with ⟨h1, _⟩ | ⟨g, cap, cur, h1, _, _, h2, _⟩
          · rw [h1] at he; cases he; exact Nat.le_refl _
          · rw [h1] at he; cases he; exact h2
end Go.Proofs.YtppmkehdhpgdcaaGreat
