/- No program: two right values have one text just if they are the same. -/
import Derived.Test.YtieciegfloldhaaDoorTop2
namespace Go.Proofs.YtieciegfloldhaaDoor
open Go
set_option linter.unusedVariables false

def folP (r : List UInt8) : Prop := ∀ c t, r = c :: t → c = 44 ∨ c = 93 ∨ c = 125
theorem fol_dig {r : List UInt8} (h : folP r) : stopP digB r := by
  intro c t e
  rcases h c t e with rfl | rfl | rfl <;> decide
def clsC (c : UInt8) : Nat := if c = 116 ∨ c = 102 then 1 else if c = 34 then 4 else if c = 91 then 5 else if c = 123 then 6 else if digB c = true ∨ c = 45 ∨ c = 105 ∨ c = 110 then 2 else 0
theorem cls_dig {c : UInt8} (h : digB c = true) : clsC c = 2 := by
  have : ∀ c : UInt8, digB c = true → clsC c = 2 := by
    intro c h
    unfold clsC
    rw [if_neg, if_neg, if_neg, if_neg, if_pos (.inl h)]
    · rintro rfl; exact absurd h (by decide)
    · rintro rfl; exact absurd h (by decide)
    · rintro rfl; exact absurd h (by decide)
    · rintro (rfl | rfl) <;> exact absurd h (by decide)
  exact this c h
/-- a text's first sign tells its kind -/
theorem head_cls {k n : Int} {f : Nat} {s : ByteArray} {ns : List ByteArray} {its : List VT} {d : Nat} (hr : rightV (.mk k n f s ns its) d = true) (x : List UInt8) :
    ∃ c t, textV (.mk k n f s ns its) ++ x = c :: t ∧ ((clsC c : Nat) : Int) = if k = 3 then 2 else k := by
  obtain ⟨e1, e2, e3, e4, e5, e6⟩ := textV_kind k n f s ns its
  rcases right_inv hr with ⟨rfl, hn, _, _⟩ | ⟨rfl, _, _⟩ | ⟨rfl, _, _⟩ | ⟨rfl, h4, _, _⟩ | ⟨rfl, h5, h6⟩ | ⟨rfl, h5, h6, h7⟩
  · rw [e1 rfl]
    rcases hn with rfl | rfl
    · exact ⟨102, _, rfl, by decide⟩
    · exact ⟨116, _, rfl, by decide⟩
  · rw [e2 rfl]
    rcases itoa_cases n with ⟨_, e⟩ | ⟨_, e⟩
    · rw [e]
      obtain ⟨c, t, h1, h2⟩ := dec_head n.toNat x
      exact ⟨c, t, h1, by rw [cls_dig h2]; decide⟩
    · rw [e]; exact ⟨45, _, rfl, by decide⟩
  · rw [e3 rfl, textF_key]
    cases keyF f with
    | none => exact ⟨110, _, rfl, by decide⟩
    | some q =>
      obtain ⟨b, p⟩ := q
      cases b with
      | true => exact ⟨45, _, rfl, by decide⟩
      | false =>
        obtain ⟨c, t, h1, h2⟩ := body_head p x
        refine ⟨c, t, h1, ?_⟩
        rcases h2 with h2 | h2
        · rw [cls_dig h2]; decide
        · rw [h2]; decide
  · rw [e4 rfl]; exact ⟨34, _, rfl, by decide⟩
  · rw [e5 rfl]; exact ⟨91, _, rfl, by decide⟩
  · rw [e6 rfl]; exact ⟨123, _, rfl, by decide⟩
theorem esc_inj : ∀ (a b x y : List UInt8), escL a ++ (34 :: x) = escL b ++ (34 :: y) → a = b ∧ x = y
  | [], [], x, y, h => ⟨rfl, (List.cons.inj h).2⟩
  | [], c :: b, x, y, h => by
    exfalso
    rw [escL, escL] at h
    by_cases hc : c = 34 ∨ c = 92
    · rw [if_pos hc] at h
      exact absurd (List.cons.inj h).1 (by decide)
    · rw [if_neg hc] at h
      exact hc (.inl (List.cons.inj h).1.symm)
  | c :: a, [], x, y, h => by
    exfalso
    rw [escL, escL] at h
    by_cases hc : c = 34 ∨ c = 92
    · rw [if_pos hc] at h
      exact absurd (List.cons.inj h).1 (by decide)
    · rw [if_neg hc] at h
      exact hc (.inl (List.cons.inj h).1)
  | c :: a, d :: b, x, y, h => by
    rw [escL, escL] at h
    by_cases hc : c = 34 ∨ c = 92
    · rw [if_pos hc] at h
      by_cases hd : d = 34 ∨ d = 92
      · rw [if_pos hd] at h
        have h1 := List.cons.inj (List.cons.inj h).2
        obtain ⟨h2, h3⟩ := esc_inj a b x y h1.2
        exact ⟨by rw [h1.1, h2], h3⟩
      · rw [if_neg hd] at h
        exact (hd (.inr (List.cons.inj h).1.symm)).elim
    · rw [if_neg hc] at h
      by_cases hd : d = 34 ∨ d = 92
      · rw [if_pos hd] at h
        exact (hc (.inr (List.cons.inj h).1)).elim
      · rw [if_neg hd] at h
        have h1 := List.cons.inj h
        obtain ⟨h2, h3⟩ := esc_inj a b x y h1.2
        exact ⟨by rw [h1.1, h2], h3⟩
theorem int_flt {n : Int} {f : Nat} {x y : List UInt8} (hx : folP x) : Lib.itoa n ++ x ≠ textF f ++ y := by
  intro h
  rw [textF_key] at h
  have hd : ∀ (m : Nat) (p : Option (Nat × Int)), Lib.decDigits m ++ x ≠ bodyF p ++ y := by
    intro m p e
    cases p with
    | none =>
      obtain ⟨c, t, h1, h2⟩ := dec_head m x
      rw [h1] at e
      exact (dig_no h2).2.1 (List.cons.inj e).1
    | some q =>
      obtain ⟨a, i⟩ := q
      simp only [bodyF, List.append_assoc, List.cons_append] at e
      obtain ⟨_, h2⟩ := run_eq digB _ _ _ _ (dec_dig m) (dec_dig a) (fol_dig hx) stop_p e
      rcases hx _ _ h2 with h3 | h3 | h3 <;> exact absurd h3 (by decide)
  cases hk : keyF f with
  | none =>
    rw [hk] at h
    rcases itoa_cases n with ⟨_, e⟩ | ⟨_, e⟩
    · rw [e] at h
      obtain ⟨c, t, h1, h2⟩ := dec_head n.toNat x
      rw [h1] at h
      exact (dig_no h2).2.2 (List.cons.inj h).1
    · rw [e] at h; exact absurd (List.cons.inj h).1 (by decide)
  | some q =>
    obtain ⟨b, p⟩ := q
    rw [hk] at h
    rcases itoa_cases n with ⟨_, e⟩ | ⟨_, e⟩
    · rw [e] at h
      cases b with
      | true =>
        obtain ⟨c, t, h1, h2⟩ := dec_head n.toNat x
        rw [h1] at h
        exact (dig_no h2).1 (List.cons.inj h).1
      | false => exact hd _ p h
    · rw [e] at h
      cases b with
      | true => exact hd _ p (List.cons.inj h).2
      | false =>
        obtain ⟨c, t, h1, h2⟩ := body_head p y
        have h : 45 :: (Lib.decDigits n.natAbs ++ x) = bodyF p ++ y := h
        rw [h1] at h
        have h3 := (List.cons.inj h).1
        rcases h2 with h2 | h2
        · exact (dig_no h2).1 h3.symm
        · rw [h2] at h3; exact absurd h3 (by decide)
theorem okFrom_mem : ∀ (l : List UInt8) (i : Nat), okFrom l i = true → ∀ c ∈ l, c ≠ 58 ∧ c ≠ 93 ∧ c ≠ 125
  | [], _, _, c, hc => by simp at hc
  | a :: l, i, h, c, hc => by
    rw [okFrom, Bool.and_eq_true] at h
    rcases List.mem_cons.1 hc with rfl | hc
    · have := h.1
      refine ⟨?_, ?_, ?_⟩ <;> (rintro rfl; simp [okC] at this)
    · exact okFrom_mem l (i + 1) h.2 c hc
theorem name_chars {s : ByteArray} (h : nameB s = true) : (∀ c ∈ s.data.toList, c ≠ 58 ∧ c ≠ 93 ∧ c ≠ 125) ∧ s.data.toList ≠ [] := by
  unfold nameB at h
  simp only [Bool.and_eq_true, decide_eq_true_eq] at h
  refine ⟨okFrom_mem _ _ h.2, fun e => ?_⟩
  have h1 : s.data.toList.length = s.size := Array.length_toList
  rw [e] at h1
  have := h.1.1
  simp at h1
  omega
theorem cmpS_eq {a b : ByteArray} (h : a = b) : cmpS a b = 0 := by subst h; exact cmpS_good.refl a
theorem names_eq : ∀ {a b : List ByteArray}, a = b → listC cmpS a b = 0 := by
  rintro a _ rfl; exact cmpS_good.list.refl a
theorem first_no {r first : Bool} {ns : List ByteArray} {a : VT} {l : List VT} {d : Nat} {e : UInt8} (he : e = 93 ∨ e = 125) (hr : rightV a d = true) (hn : r = true → ∃ s t, ns = s :: t ∧ nameB s = true)
    (x y : List UInt8) : textL r first ns (a :: l) ++ x ≠ e :: y := by
  intro h
  rw [textL] at h
  cases first with
  | false =>
    have := (List.cons.inj h).1
    rcases he with rfl | rfl <;> exact absurd this (by decide)
  | true =>
    simp only [if_true, List.nil_append] at h
    cases r with
    | true =>
      obtain ⟨s, t, rfl, h1⟩ := hn rfl
      obtain ⟨h2, h3⟩ := name_chars h1
      have hd : (s :: t).headD default = s := rfl
      rw [hd] at h
      cases hs : s.data.toList with
      | nil => exact h3 hs
      | cons c u =>
        rw [hs] at h h2
        have h4 := (List.cons.inj h).1
        have h5 := h2 c (List.mem_cons_self ..)
        rcases he with rfl | rfl
        · exact h5.2.1 h4
        · exact h5.2.2 h4
    | false =>
      cases a with
      | mk k n f s ns' its' =>
        simp only [Bool.false_eq_true, if_false, List.nil_append, List.append_assoc] at h
        obtain ⟨c, t, h1, h2⟩ := head_cls hr (textL false false ns.tail l ++ x)
        rw [h1] at h
        have h3 := (List.cons.inj h).1
        rw [h3] at h2
        rcases right_inv hr with ⟨rfl, _⟩ | ⟨rfl, _⟩ | ⟨rfl, _⟩ | ⟨rfl, _⟩ | ⟨rfl, _⟩ | ⟨rfl, _⟩ <;> rcases he with rfl | rfl <;> exact absurd h2 (by decide)
theorem fol_rest {r : Bool} {ns : List ByteArray} {l : List VT} {e : UInt8} (he : e = 93 ∨ e = 125) (x : List UInt8) : folP (textL r false ns l ++ e :: x) := by
  intro c t h
  cases l with
  | nil =>
    rw [textL] at h
    have := (List.cons.inj h).1
    rcases he with rfl | rfl
    · exact .inr (.inl this.symm)
    · exact .inr (.inr this.symm)
  | cons a l =>
    rw [textL] at h
    exact .inl (List.cons.inj h).1.symm
theorem textL_inj : ∀ (l : List VT), (∀ a ∈ l, ∀ b d d' x y, saneV b → rightV a d = true → rightV b d' = true → folP x → folP y → textV a ++ x = textV b ++ y → ordV a b = 0 ∧ x = y) →
    ∀ (l' : List VT) (r first : Bool) (ns ns' : List ByteArray) (d d' : Nat) (e : UInt8) (x y : List UInt8), (e = 93 ∨ e = 125) → saneL l' → rightL l d = true → rightL l' d' = true →
    (r = true → ns.length = l.length ∧ ns'.length = l'.length ∧ (∀ s ∈ ns, nameB s = true) ∧ (∀ s ∈ ns', nameB s = true)) →
    textL r first ns l ++ (e :: x) = textL r first ns' l' ++ (e :: y) → listC ordV l l' = 0 ∧ (r = true → ns = ns') ∧ x = y
  | [], _, [], r, first, ns, ns', d, d', e, x, y, he, _, _, _, hn, h => by
    rw [textL, textL] at h
    refine ⟨rfl, fun hr => ?_, (List.cons.inj h).2⟩
    obtain ⟨h1, h2, _⟩ := hn hr
    rw [List.eq_nil_of_length_eq_zero h1, List.eq_nil_of_length_eq_zero h2]
  | [], _, b :: l', r, first, ns, ns', d, d', e, x, y, he, _, _, hr', hn, h => by
    exfalso
    rw [rightL, Bool.and_eq_true] at hr'
    refine first_no (ns := ns') (r := r) (first := first) (l := l') he hr'.1 (fun hr => ?_) (e :: y) x (h.symm.trans (by rw [textL]; rfl))
    obtain ⟨_, h2, _, h4⟩ := hn hr
    cases ns' with
    | nil => cases h2
    | cons s t => exact ⟨s, t, rfl, h4 s (List.mem_cons_self ..)⟩
  | a :: l, _, [], r, first, ns, ns', d, d', e, x, y, he, _, hr', _, hn, h => by
    exfalso
    rw [rightL, Bool.and_eq_true] at hr'
    refine first_no (ns := ns) (r := r) (first := first) (l := l) he hr'.1 (fun hr => ?_) (e :: x) y (h.trans (by rw [textL]; rfl))
    obtain ⟨h2, _, h4, _⟩ := hn hr
    cases ns with
    | nil => cases h2
    | cons s t => exact ⟨s, t, rfl, h4 s (List.mem_cons_self ..)⟩
  | a :: l, ih, b :: l', r, first, ns, ns', d, d', e, x, y, he, hs, hr, hr', hn, h => by
    rw [rightL, Bool.and_eq_true] at hr hr'
    rw [saneL] at hs
    rw [textL, textL] at h
    simp only [List.append_assoc] at h
    have h1 := List.append_cancel_left h
    have hrec : ∀ (u v : List ByteArray), (r = true → u.length = l.length ∧ v.length = l'.length ∧ (∀ s ∈ u, nameB s = true) ∧ (∀ s ∈ v, nameB s = true)) →
        textV a ++ (textL r false u l ++ e :: x) = textV b ++ (textL r false v l' ++ e :: y) → ordV a b = 0 ∧ listC ordV l l' = 0 ∧ (r = true → u = v) ∧ x = y := by
      intro u v huv h2
      obtain ⟨h3, h4⟩ := ih a (List.mem_cons_self ..) b d d' _ _ hs.1 hr.1 hr'.1 (fol_rest he x) (fol_rest he y) h2
      obtain ⟨h5, h6, h7⟩ := textL_inj l (fun a ha => ih a (List.mem_cons_of_mem _ ha)) l' r false u v d d' e x y he hs.2 hr.2 hr'.2 huv h4
      exact ⟨h3, h5, h6, h7⟩
    cases r with
    | false =>
      simp only [Bool.false_eq_true, if_false, List.nil_append] at h1
      obtain ⟨h3, h5, _, h7⟩ := hrec ns.tail ns'.tail (fun e => by cases e) h1
      refine ⟨?_, (fun e => by cases e), h7⟩
      unfold listC
      rw [if_neg (by omega)]; exact h5
    | true =>
      obtain ⟨g1, g2, g3, g4⟩ := hn rfl
      cases ns with
      | nil => cases g1
      | cons s t =>
        cases ns' with
        | nil => cases g2
        | cons s' t' =>
          simp only [if_true, List.append_assoc, List.headD_cons, List.tail_cons, List.cons_append, List.nil_append] at h1
          have c1 := name_chars (g3 s (List.mem_cons_self ..))
          have c2 := name_chars (g4 s' (List.mem_cons_self ..))
          have st : ∀ z : List UInt8, stopP (fun c => c != 58) (58 :: z) := by
            intro z c t e; obtain ⟨rfl, _⟩ := List.cons.inj e; rfl
          obtain ⟨e1, e2⟩ := run_eq (fun c => c != 58) _ _ _ _ (fun c hc => by simpa using (c1.1 c hc).1) (fun c hc => by simpa using (c2.1 c hc).1) (st _) (st _) h1
          obtain ⟨h3, h5, h6, h7⟩ := hrec t t' (fun _ => ⟨by simpa using g1, by simpa using g2, fun s hs => g3 s (List.mem_cons_of_mem _ hs), fun s hs => g4 s (List.mem_cons_of_mem _ hs)⟩) (List.cons.inj e2).2
          refine ⟨?_, fun _ => ?_, h7⟩
          · unfold listC
            rw [if_neg (by omega)]; exact h5
          · rw [h6 rfl, show s = s' from ByteArray.ext (Array.toList_inj.1 e1)]
theorem ordV_of {k n n' : Int} {f f' : Nat} {s s' : ByteArray} {ns ns' : List ByteArray} {its its' : List VT} (h : rowV k n n' f f' s s' ns ns' = 0) (h2 : leafK k = false → listC ordV its its' = 0) :
    ordV (.mk k n f s ns its) (.mk k n' f' s' ns' its') = 0 := by
  rw [ordV, if_neg (by rw [cmpI_zero rfl]; simp), ordL_eq]
  by_cases hl : leafK k = true
  · rw [if_pos (.inr hl)]; exact h
  · rw [if_neg]
    · exact h2 (by simpa using hl)
    · rintro (e | e)
      · exact e h
      · exact hl e
theorem text_inj (a : VT) : saneV a → ∀ b d d' x y, saneV b → rightV a d = true → rightV b d' = true → folP x → folP y → textV a ++ x = textV b ++ y → ordV a b = 0 ∧ x = y := by
  induction a using VT.ind with
  | h k n f s ns its ih =>
    intro hs b
    cases b with
    | mk k' n' f' s' ns' its' =>
      intro d d' x y hs' hr hr' hx hy h
      obtain ⟨c, t, h1, h2⟩ := head_cls hr x
      obtain ⟨c', t', h1', h2'⟩ := head_cls hr' y
      have hc : c = c' := by rw [h1, h1'] at h; exact (List.cons.inj h).1
      rw [hc, h2'] at h2
      rw [saneV] at hs hs'
      obtain ⟨e1, e2, e3, e4, e5, e6⟩ := textV_kind k n f s ns its
      obtain ⟨e1', e2', e3', e4', e5', e6'⟩ := textV_kind k' n' f' s' ns' its'
      have ihl : ∀ a ∈ its, ∀ b d d' x y, saneV b → rightV a d = true → rightV b d' = true → folP x → folP y → textV a ++ x = textV b ++ y → ordV a b = 0 ∧ x = y := fun a ha => ih a ha (sane_mem hs.2.2 a ha)
      rcases right_inv hr with ⟨rfl, hn, _, _⟩ | ⟨rfl, _, _⟩ | ⟨rfl, _, _⟩ | ⟨rfl, h4, _, _⟩ | ⟨rfl, h5, h6⟩ | ⟨rfl, h5, h6, h7⟩ <;>
        rcases right_inv hr' with ⟨rfl, hn', _, _⟩ | ⟨rfl, _, _⟩ | ⟨rfl, _, _⟩ | ⟨rfl, h4', _, _⟩ | ⟨rfl, h5', h6'⟩ | ⟨rfl, h5', h6', h7'⟩ <;>
        first | (exfalso; revert h2; decide) | skip
      · rw [e1 rfl, e1' rfl] at h
        rcases hn with rfl | rfl <;> rcases hn' with rfl | rfl
        · exact ⟨ordV_of rfl (fun e => by cases e), List.append_cancel_left h⟩
        · exact absurd (List.cons.inj h).1 (by decide)
        · exact absurd (List.cons.inj h).1 (by decide)
        · exact ⟨ordV_of rfl (fun e => by cases e), List.append_cancel_left h⟩
      · rw [e2 rfl, e2' rfl] at h
        obtain ⟨h3, h4⟩ := itoa_run (fol_dig hx) (fol_dig hy) h
        exact ⟨ordV_of (cmpI_zero h3) (fun e => by cases e), h4⟩
      · rw [e2 rfl, e3' rfl] at h; exact (int_flt hx h).elim
      · rw [e3 rfl, e2' rfl] at h; exact (int_flt hy h.symm).elim
      · rw [e3 rfl, e3' rfl] at h
        obtain ⟨h3, h4⟩ := textF_inj hs.2.1 hs'.2.1 (fol_dig hx) (fol_dig hy) h
        exact ⟨ordV_of h3 (fun e => by cases e), h4⟩
      · rw [e4 rfl, e4' rfl] at h
        unfold quoteL at h
        simp only [List.cons_append, List.append_assoc, List.nil_append] at h
        obtain ⟨h3, h4⟩ := esc_inj _ _ _ _ (List.cons.inj h).2
        exact ⟨ordV_of (cmpS_eq (ByteArray.ext (Array.toList_inj.1 h3))) (fun e => by cases e), h4⟩
      · rw [e5 rfl, e5' rfl] at h
        simp only [List.cons_append, List.append_assoc, List.nil_append] at h
        obtain ⟨h3, _, h4⟩ := textL_inj its ihl its' false true ns ns' (d + 1) (d' + 1) 93 x y (.inl rfl) hs'.2.2 h6 h6' (fun e => by cases e) (List.cons.inj h).2
        exact ⟨ordV_of rfl (fun _ => h3), h4⟩
      · rw [e6 rfl, e6' rfl] at h
        simp only [List.cons_append, List.append_assoc, List.nil_append] at h
        obtain ⟨h3, h8, h4⟩ := textL_inj its ihl its' true true ns ns' (d + 1) (d' + 1) 125 x y (.inr rfl) hs'.2.2 h7 h7' (fun _ => ⟨h5, h5', h6, h6'⟩) (List.cons.inj h).2
        exact ⟨ordV_of (names_eq (h8 rfl)) (fun _ => h3), h4⟩
theorem cmpS_val {a b : ByteArray} (h : cmpS a b = 0) : a = b := by
  have h1 := ((less_cmp a.data.toList b.data.toList).2).2 h
  exact ByteArray.ext (Array.toList_inj.1 (eq_of_beq h1))
theorem names_val : ∀ {a b : List ByteArray}, listC cmpS a b = 0 → a = b
  | [], [], _ => rfl
  | [], _ :: _, h => by cases h
  | _ :: _, [], h => by cases h
  | x :: a, y :: b, h => by
    unfold listC at h
    by_cases h1 : cmpS x y = 0
    · rw [if_neg (by omega)] at h
      rw [cmpS_val h1, names_val h]
    · rw [if_pos h1] at h; exact (h1 h).elim
theorem ordV_inv {k k' n n' : Int} {f f' : Nat} {s s' : ByteArray} {ns ns' : List ByteArray} {its its' : List VT} (h : ordV (.mk k n f s ns its) (.mk k' n' f' s' ns' its') = 0) :
    k = k' ∧ rowV k n n' f f' s s' ns ns' = 0 ∧ (leafK k = false → listC ordV its its' = 0) := by
  rw [ordV, ordL_eq] at h
  have hk := cmpI_val k k'
  by_cases h0 : cmpI k k' = 0
  · rw [if_neg (by omega)] at h
    refine ⟨by omega, ?_⟩
    by_cases h1 : rowV k n n' f f' s s' ns ns' = 0
    · refine ⟨h1, fun hl => ?_⟩
      rw [if_neg] at h
      · exact h
      · rintro (e | e)
        · exact e h1
        · rw [hl] at e; cases e
    · rw [if_pos (.inl h1)] at h; exact (h1 h).elim
  · rw [if_pos h0] at h; exact (h0 h).elim
theorem textL_same : ∀ (l l' : List VT) (r first : Bool) (ns : List ByteArray) (d d' : Nat), (∀ a ∈ l, ∀ b d d', saneV b → rightV a d = true → rightV b d' = true → ordV a b = 0 → textV a = textV b) →
    saneL l' → rightL l d = true → rightL l' d' = true → listC ordV l l' = 0 → textL r first ns l = textL r first ns l'
  | [], [], r, first, ns, d, d', _, _, _, _, _ => rfl
  | [], _ :: _, r, first, ns, d, d', _, _, _, _, h => by cases h
  | _ :: _, [], r, first, ns, d, d', _, _, _, _, h => by cases h
  | a :: l, b :: l', r, first, ns, d, d', ih, hs, hr, hr', h => by
    unfold listC at h
    rw [rightL, Bool.and_eq_true] at hr hr'
    rw [saneL] at hs
    by_cases h1 : ordV a b = 0
    · rw [if_neg (by omega)] at h
      rw [textL, textL, ih a (List.mem_cons_self ..) b d d' hs.1 hr.1 hr'.1 h1, textL_same l l' r false ns.tail d d' (fun a ha => ih a (List.mem_cons_of_mem _ ha)) hs.2 hr.2 hr'.2 h]
    · rw [if_pos h1] at h; exact (h1 h).elim
theorem text_same (a : VT) : saneV a → ∀ b d d', saneV b → rightV a d = true → rightV b d' = true → ordV a b = 0 → textV a = textV b := by
  induction a using VT.ind with
  | h k n f s ns its ih =>
    intro hs b
    cases b with
    | mk k' n' f' s' ns' its' =>
      intro d d' hs' hr hr' h
      obtain ⟨rfl, h1, h2⟩ := ordV_inv h
      rw [saneV] at hs hs'
      obtain ⟨e1, e2, e3, e4, e5, e6⟩ := textV_kind k n f s ns its
      obtain ⟨e1', e2', e3', e4', e5', e6'⟩ := textV_kind k n' f' s' ns' its'
      have ihl : ∀ a ∈ its, ∀ b d d', saneV b → rightV a d = true → rightV b d' = true → ordV a b = 0 → textV a = textV b := fun a ha => ih a ha (sane_mem hs.2.2 a ha)
      rcases right_inv hr with ⟨rfl, hn, _, _⟩ | ⟨rfl, _, _⟩ | ⟨rfl, _, _⟩ | ⟨rfl, h4, _, _⟩ | ⟨rfl, h5, h6⟩ | ⟨rfl, h5, h6, h7⟩
      · have h3 : cmpI n n' = 0 := h1
        have := cmpI_val n n'
        rw [e1 rfl, e1' rfl, show n = n' by omega]
      · have h3 : cmpI n n' = 0 := h1
        have := cmpI_val n n'
        rw [e2 rfl, e2' rfl, show n = n' by omega]
      · have h3 : cmpF f f' = 0 := h1
        rw [e3 rfl, e3' rfl, textF_same hs.2.1 hs'.2.1 h3]
      · have h3 : cmpS s s' = 0 := h1
        rw [e4 rfl, e4' rfl, cmpS_val h3]
      · rcases right_inv hr' with ⟨e, _⟩ | ⟨e, _⟩ | ⟨e, _⟩ | ⟨e, _⟩ | ⟨_, h5', h6'⟩ | ⟨e, _⟩
        · cases e
        · cases e
        · cases e
        · cases e
        · rw [e5 rfl, e5' rfl, h5, h5', textL_same its its' false true [] (d + 1) (d' + 1) ihl hs'.2.2 h6 h6' (h2 rfl)]
        · cases e
      · rcases right_inv hr' with ⟨e, _⟩ | ⟨e, _⟩ | ⟨e, _⟩ | ⟨e, _⟩ | ⟨e, _⟩ | ⟨_, h5', h6', h7'⟩
        · cases e
        · cases e
        · cases e
        · cases e
        · cases e
        · have h3 : listC cmpS ns ns' = 0 := h1
          rw [e6 rfl, e6' rfl, names_val h3, textL_same its its' true true ns' (d + 1) (d' + 1) ihl hs'.2.2 h7 h7' (h2 rfl)]
theorem texts_iff {a b : VT} (hs : saneV a) (hs' : saneV b) (hr : rightT a = true) (hr' : rightT b = true) : textV a = textV b ↔ ordV a b = 0 := by
  unfold rightT at hr hr'
  rw [Bool.and_eq_true] at hr hr'
  constructor
  · intro h
    have hf : folP [] := fun c t e => by cases e
    exact (text_inj a hs b 1 1 [] [] hs' hr.2 hr'.2 hf hf (by rw [h])).1
  · exact text_same a hs b 1 1 hs' hr.2 hr'.2
end Go.Proofs.YtieciegfloldhaaDoor
