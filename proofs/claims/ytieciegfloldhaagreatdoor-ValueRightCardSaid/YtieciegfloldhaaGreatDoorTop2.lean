/- value.Text of any value. -/
import Derived.Test.YtieciegfloldhaaGreatDoorText2
import Derived.Test.YtieciegfloldhaaGreatDoorVTop
namespace Go.Proofs.YtieciegfloldhaaGreatDoor
open Go Go.RowKit
set_option linter.unusedVariables false

set_option maxHeartbeats 1000000 in
set_option maxRecDepth 100000 in
theorem text_topD (t : VT) (txt : List UInt8) (ht : TextD t txt) (h0 : txt ≠ []) (hl : txt.length ≤ 1000000) (hr : (decide (cntV t 0 ≤ 200) && rightV t 1) = true) (cs : List Value) (w : World) (htb : TabP w) (hv : ValAt w w.heap.size cs t) :
    Calls Tryz.prog 7 #[.agg ⟨cs⟩] w fun e w' => e = .returned (.tuple #[.string ⟨txt.toArray⟩, .int .i64 0]) ∧ Below w.heap.size w w' := by
  have HB1 := Lib.hid (box_below w (.cells ⟨cs⟩ 26))
  have HS1 := Lib.hid (box_size w (.cells ⟨cs⟩ 26))
  have HR1 := Lib.hid (range_box w cs 26)
  have HL := Lib.hid (val_one hv)
  have HV := Lib.hid hv
  have HT := Lib.hid ht
  have HTB := Lib.hid htb
  clear htb
  have H0 := Lib.hid (And.intro h0 hl)
  have HRT := Lib.hid (right_top t cs (w.alloc (.cells ⟨cs⟩ 26)) (hv.next HB1.out))
  rw [hr] at HRT
  clear hv ht h0 hl hr
  go_enter Tryz.func7, Tryz.ntmps7
  go_upto_region 1 with (fail)
  generalize w.alloc (.cells ⟨cs⟩ 26) = W at *
  go_upto_region 4 with (first | ((with_reducible refine wl_sload 26 _ rfl ?hwa w.heap.size 0 cs _ rfl HR1.out Tryz.underlying26 rfl ?hia ?_); (case hwa => first | exact wanted_none rfl | exact wanted_if rfl rfl rfl rfl); (case hia => rw [HL.out.1]; kernel_rfl)) | (go_at_call 8; refine HRT.out.mono ?_; rintro e w2 ⟨rfl, hb2⟩; have HB2 := Lib.hid hb2; clear hb2))
  have HBN := Lib.hid (bld_new w2)
  have HB3 := Lib.hid (box_below w2 (.cells #[.pointer none, .slice none 0 0] 55))
  have HS3 := Lib.hid (box_size w2 (.cells #[.pointer none, .slice none 0 0] 55))
  generalize w2.alloc (.cells #[.pointer none, .slice none 0 0] 55) = W3 at *
  obtain ⟨B, hB⟩ : ∃ B, w2.heap.size = B := ⟨_, rfl⟩
  rw [hB] at HBN HB3 HS3
  rw [hB]
  have HWB : Hid (w.heap.size < B) := Lib.hid (hB ▸ Nat.lt_of_lt_of_le HS1.out HB2.out.size)
  have HBW2 := Lib.hid (HB1.out.trans (HB2.out.mono HB1.out.size))
  have HBW3 := Lib.hid (HBW2.out.trans (HB3.out.mono (Nat.le_of_lt HWB.out)))
  have HR3 := Lib.hid (rangeAt_below (rangeAt_below HR1.out HB2.out HS1.out) HB3.out HWB.out)
  have HCT := Lib.hid (HT.out cs w.heap.size 0 B B [] W3 HWB.out (Nat.le_of_lt HS3.out) HR3.out ((HV.out.under HBW3.out).more (Nat.le_of_lt HWB.out)) HBN.out (by simpa using H0.out.2) ⟨w, Nat.le_of_lt HWB.out, HTB.out, HBW3.out⟩)
  clear hB HR1 HB1 HB2 HRT HT HR3 HBN
  go_wp2_with (first | (go_at_call 29; refine HCT.out.mono ?_; rintro e w4 ⟨rfl, hb4, hbl⟩; have HB4 := Lib.hid hb4; have HL4 := Lib.hid hbl; clear hb4 hbl) | (go_at_call 30; refine (bstring B B txt _ HB4.out H0.out.1).mono ?_; rintro e w5 ⟨rfl, hbl⟩; have HL5 := Lib.hid hbl; clear hbl))
  go_ret2
  exact ⟨rfl, HBW3.out.trans ((HL4.out.trans HL5.out).mono (Nat.le_of_lt HWB.out))⟩
theorem textL_snoc (r : Bool) (x : VT) : ∀ (l : List VT) (first : Bool) (ns : List ByteArray), textL r first ns (l ++ [x]) =
    textL r first ns l ++ ((if first = true ∧ l = [] then [] else [44]) ++ ((if r = true then ((ns.drop l.length).headD default).data.toList ++ [58] else []) ++ textV x))
  | [], first, ns => by
    rw [List.nil_append, textL, textL, textL]
    simp
  | a :: l, first, ns => by
    rw [List.cons_append, textL, textL_snoc r x l false ns.tail, textL]
    rw [if_neg (show ¬ (false = true ∧ l = []) by simp), if_neg (show ¬ (first = true ∧ a :: l = []) by simp)]
    rw [show (ns.tail.drop l.length) = ns.drop (a :: l).length by rw [List.drop_tail]; rfl]
    simp only [List.append_assoc]
theorem join_text (r : Bool) (ns : List ByteArray) (its : List VT) (nm tx : Nat → List UInt8) (hnm : ∀ k, k < its.length → nm k = if r = true then ((ns.drop k).headD default).data.toList ++ [58] else [])
    (htx : ∀ k x, its[k]? = some x → tx k = textV x) : ∀ k, k ≤ its.length → joinK nm tx k = textL r true ns (its.take k)
  | 0, _ => by rw [List.take_zero, textL]; rfl
  | k + 1, h => by
    obtain ⟨x, hx⟩ : ∃ x, its[k]? = some x := ⟨_, List.getElem?_eq_getElem (by omega)⟩
    have hk : (its.take k).length = k := by rw [List.length_take]; omega
    rw [List.take_add_one, hx]
    show joinK nm tx k ++ ((if k = 0 then [] else [44]) ++ (nm k ++ tx k)) = textL r true ns (its.take k ++ [x])
    rw [textL_snoc, join_text r ns its nm tx hnm htx k (by omega), hnm k (by omega), htx k x hx, hk]
    have : (true = true ∧ its.take k = []) ↔ k = 0 := by
      constructor
      · rintro ⟨_, h2⟩; rw [h2] at hk; exact hk.symm
      · rintro rfl; exact ⟨rfl, List.take_zero⟩
    by_cases h0 : k = 0
    · rw [if_pos h0, if_pos (this.2 h0)]
    · rw [if_neg h0, if_neg (fun e => h0 (this.1 e))]
theorem textV_kind (k n : Int) (f : Nat) (s : ByteArray) (ns : List ByteArray) (its : List VT) :
    (k = 1 → textV (.mk k n f s ns its) = if n = 1 then trueL else falseL) ∧ (k = 2 → textV (.mk k n f s ns its) = Lib.itoa n) ∧ (k = 3 → textV (.mk k n f s ns its) = textF f) ∧
    (k = 4 → textV (.mk k n f s ns its) = quoteL s.data.toList) ∧ (k = 5 → textV (.mk k n f s ns its) = [91] ++ (textL false true ns its ++ [93])) ∧ (k = 6 → textV (.mk k n f s ns its) = [123] ++ (textL true true ns its ++ [125])) := by
  refine ⟨?_, ?_, ?_, ?_, ?_, ?_⟩ <;> (rintro rfl; rw [textV])
  · rw [if_pos rfl]
  · rw [if_neg (by decide), if_pos rfl]
  · rw [if_neg (by decide), if_neg (by decide), if_pos rfl]
  · rw [if_neg (by decide), if_neg (by decide), if_neg (by decide), if_pos rfl]
  · rw [if_neg (by decide), if_neg (by decide), if_neg (by decide), if_neg (by decide)]; rfl
  · rw [if_neg (by decide), if_neg (by decide), if_neg (by decide), if_neg (by decide)]; rfl
theorem textD_any (t : VT) : saneV t → ∀ d, rightV t d = true → TextD t (textV t) := by
  induction t using VT.ind with
  | h k n f s ns its ih =>
    intro hs d hr
    rw [saneV] at hs
    obtain ⟨e1, e2, e3, e4, e5, e6⟩ := textV_kind k n f s ns its
    rcases right_inv hr with ⟨rfl, hn, _, _⟩ | ⟨rfl, _, _⟩ | ⟨rfl, _, _⟩ | ⟨rfl, h4, _, _⟩ | ⟨rfl, h5, h6⟩ | ⟨rfl, h5, h6, h7⟩
    · rw [e1 rfl]
      rcases hn with rfl | rfl
      · exact textD_false f s ns its
      · exact textD_true f s ns its
    · rw [e2 rfl]; exact textD_int n hs.1.1 hs.1.2 f s ns its
    · rw [e3 rfl]; exact textD_flt n f s ns its
    · rw [e4 rfl]; exact textD_str n f s h4 ns its
    · rw [e5 rfl]
      have hit : ∀ i x, its[i]? = some x → TextD x (((its[i]?).map textV).getD []) := fun i x hx => by
        rw [hx]
        have hm := List.mem_of_getElem? hx
        exact ih x hm (sane_mem hs.2.2 x hm) (d + 1) (right_mem h6 x hm)
      have h := textD_list n f s ns its (fun i => ((its[i]?).map textV).getD []) (fun _ => []) (fun _ => rfl) hit
      have hj := join_text false ns its (fun _ => []) (fun i => ((its[i]?).map textV).getD []) (fun _ _ => rfl) (fun k x hx => by simp only [hx]; rfl) its.length (Nat.le_refl _)
      rw [List.take_length] at hj
      rw [hj] at h
      exact h
    · rw [e6 rfl]
      have hit : ∀ i x, its[i]? = some x → TextD x (((its[i]?).map textV).getD []) := fun i x hx => by
        rw [hx]
        have hm := List.mem_of_getElem? hx
        exact ih x hm (sane_mem hs.2.2 x hm) (d + 1) (right_mem h7 x hm)
      have h := textD_rec n f s ns its (fun i => ((its[i]?).map textV).getD []) (fun i => ((ns.drop i).headD default).data.toList ++ [58]) h5 (fun i s1 h1 => by
        have : (ns.drop i).headD default = s1 := by rw [drop_at h1]; rfl
        rw [this]) hit
      have hj := join_text true ns its (fun i => ((ns.drop i).headD default).data.toList ++ [58]) (fun i => ((its[i]?).map textV).getD []) (fun _ _ => rfl) (fun k x hx => by simp only [hx]; rfl) its.length (Nat.le_refl _)
      rw [List.take_length] at hj
      rw [hj] at h
      exact h
theorem textV_ne {t : VT} {d : Nat} (hr : rightV t d = true) : textV t ≠ [] := by
  cases t with
  | mk k n f s ns its =>
    obtain ⟨e1, e2, e3, e4, e5, e6⟩ := textV_kind k n f s ns its
    rcases right_inv hr with ⟨rfl, hn, _, _⟩ | ⟨rfl, _, _⟩ | ⟨rfl, _, _⟩ | ⟨rfl, h4, _, _⟩ | ⟨rfl, h5, h6⟩ | ⟨rfl, h5, h6, h7⟩
    · rw [e1 rfl]; split <;> decide
    · rw [e2 rfl]
      rcases itoa_cases n with ⟨_, e⟩ | ⟨_, e⟩
      · rw [e]; exact dec_ne _
      · rw [e]; simp
    · rw [e3 rfl, textF_key]
      cases keyF f with
      | none => decide
      | some q =>
        obtain ⟨s, p⟩ := q
        obtain ⟨c, t, h, _⟩ := body_head p []
        rw [List.append_nil] at h
        show (if s = true then [45] else []) ++ bodyF p ≠ []
        rw [h]; simp
    · rw [e4 rfl]; simp [quoteL]
    · rw [e5 rfl]; simp
    · rw [e6 rfl]; simp
def rightT (t : VT) : Bool := decide (cntV t 0 ≤ 200) && rightV t 1
theorem text_any (t : VT) (cs : List Value) (w : World) (htb : TabP w) (hv : ValAt w w.heap.size cs t) :
    Calls Tryz.prog 7 #[.agg ⟨cs⟩] w fun e w' => e = .returned (.tuple (if rightT t = true then #[.string ⟨(textV t).toArray⟩, .int .i64 0] else #[.string ⟨#[]⟩, .int .i64 5])) ∧ Below w.heap.size w w' := by
  cases hr : rightT t with
  | true =>
    have hr2 := hr
    unfold rightT at hr2
    rw [Bool.and_eq_true] at hr2
    have hs := sane_of t cs hv
    exact text_topD t (textV t) (textD_any t hs 1 hr2.2) (textV_ne hr2.2) (Nat.le_trans (text_len_top hs hr) (by decide)) hr cs w htb hv
  | false => exact text_no t hr cs w hv
end Go.Proofs.YtieciegfloldhaaGreatDoor
