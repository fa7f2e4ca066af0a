/- list, Below, Above: a row as a list of its own. -/
import Derived.Test.YtpikafadfailkaaLatRead4
import Derived.KernelRfl
namespace Go.Proofs.Ytpikafadfailkaa
open Go.RowKit P

theorem info_int : (Try.prog.info? 3).map (fun i => (i.zero, i.size, i.bytes)) = some (some (.int .i64 0), 1, 8) := by kernel_rfl

/-- the bits of a row below c, rising -/
def listTo (S : Nat → Bool) (c : Nat) : List Int := ((List.range c).filter S).map fun i : Nat => (i : Int)
def ints (l : List Int) : List Value := l.map fun i => .int .i64 i
theorem listTo_skip (S : Nat → Bool) (c d : Nat) (hcd : c ≤ d) (h : ∀ i, c ≤ i → i < d → S i = false) : listTo S d = listTo S c := by
  obtain ⟨k, rfl⟩ : ∃ k, d = c + k := ⟨d - c, by omega⟩
  induction k with
  | zero => rfl
  | succ k ih =>
    rw [← ih (by omega) (fun i h1 h2 => h i h1 (by omega))]
    unfold listTo
    rw [show c + (k + 1) = (c + k) + 1 from rfl, List.range_succ, List.filter_append]
    simp [h (c + k) (by omega) (by omega)]
theorem listTo_hit (S : Nat → Bool) (d : Nat) (h : S d = true) : listTo S (d + 1) = listTo S d ++ [(d : Int)] := by
  unfold listTo
  rw [List.range_succ, List.filter_append]
  simp [h]
theorem listTo_le (S : Nat → Bool) (c : Nat) : (listTo S c).length ≤ c := by
  unfold listTo
  rw [List.length_map]
  exact Nat.le_trans (List.length_filter_le _ _) (by simp)

/-- A slice that the call has made: its elements are the numbers of l. -/
def OwnInts (w' : World) (base : Nat) (v : Value) (l : List Int) : Prop := w'.ownsRow base 3 1 v l.length (ints l)
def ListPost (w : World) (l : List Int) (e : Ending) (w' : World) : Prop :=
  ∃ v, e = .returned v ∧ OwnInts w' w.heap.size v l ∧ Below w.heap.size w w'

theorem own_nil (w' : World) (base : Nat) : OwnInts w' base (.slice none 0 0) [] := World.ownsRow_nil _ _ _ _
theorem own_snoc {w1 : World} {base : Nat} {v' : Value} {l : List Int} {d : Int}
    (h : w1.ownsRow base 3 1 v' (l.length + 1) (ints l ++ [.int .i64 d])) : OwnInts w1 base v' (l ++ [d]) := by
  unfold OwnInts ints at *
  simpa using h

set_option maxHeartbeats 1000000 in
theorem list_any (p : Value) (S : Nat → Bool) (w : World) :
    Calls Try.prog 54 #[p, .int .u8 (mask S)] w (ListPost w (listTo S 8)) := by
  obtain ⟨i0, hi, hz0, hz1, hz2⟩ := info_parts info_int
  have HI := Lib.hid hi
  have HZ0 := Lib.hid hz0
  have HZ1 := Lib.hid hz1
  have HZ2 := Lib.hid hz2
  clear hi hz0 hz1 hz2
  go_enter Try.func54, Try.ntmps54
  go_wp2
  go_loopw [1, 4] (fun r v wr => ∃ c : Nat, c ≤ 8 ∧ r = .int .u8 (mask (restOf S c)) ∧ OwnInts wr w.heap.size v (listTo S c) ∧ Below w.heap.size w wr)
    (fun r _ _ => (intOf r).toNat)
  case atStart => exact ⟨0, by omega, by rw [rest_zero], own_nil _ _, Below.refl _ _⟩
  case round =>
    obtain ⟨c, hc8, rfl, hown, hbel⟩ := hrel
    have HO := Lib.hid hown
    have HB := Lib.hid hbel
    clear hown hbel
    by_cases hz : mask (restOf S c) = 0
    · have HZ := Lib.hid hz
      have ht : ((mask (restOf S c) : Int) != 0) = false := by simp [hz]
      clear hz
      go_wp2
      go_ret
      refine ⟨_, rfl, ?_, HB.out⟩
      rw [listTo_skip S c 8 hc8 (rest_none S c HZ.out)]
      exact HO.out
    · obtain ⟨h1, h2, h3, h4, h5, h6⟩ := rest_next S c hz
      have ht : ((mask (restOf S c) : Int) != 0) = true := by simp; omega
      have hpos : 1 ≤ mask (restOf S c) := by omega
      have hlt := mask_lt (restOf S c)
      have H5 := Lib.hid h5
      have H3 := Lib.hid h3
      have HL := Lib.hid (listTo_skip S c _ h1 h4)
      have TZ := Lib.hid (tz8 (restOf S c) wr)
      clear h5 h4 h3 hz
      generalize hd : low (restOf S c) = d at *
      clear hd
      rw [← HL.out] at HO
      go_wp2_with (first
        | (go_at_call 59; refine TZ.out.mono ?_; rintro e w' ⟨rfl, rfl⟩)
        | (at_builtin; refine wpList_append_own _ rfl _ _ 50 rfl w.heap.size 3 i0 (.int .i64 0) 1 8 Try.underlying50 HI.out HZ0.out HZ1.out HZ2.out rfl (by decide) _ _ _ rfl (World.ownsRow.alloc HO.out _) ⟨wr.heap.size, 0, none⟩ 1 1 [.int .i64 d] rfl rfl ?c1 ?c2 ?c3 ?c4 ?c5 ?_))
      case c1 => exact cell_one_new _ _ _
      case c2 => intro u hu; simp at hu; subst hu; rfl
      case c3 => have := listTo_le S d; unfold maxLen; omega
      case c4 => have := listTo_le S d; omega
      case c5 => have := HB.out.size; simp; omega
      intro v' w1 hown' hgrow _
      have h7 : OwnInts w1 w.heap.size v' (listTo S (d + 1)) := by
        rw [listTo_hit S d H3.out]; exact own_snoc hown'
      have h8 : Below w.heap.size w w1 := by
        refine (HB.out.alloc HB.out.size _).grown hgrow (by have := HB.out.size; simp; omega) ?_
        exact fun k hk => (HO.out.lt k hk).1
      have H7 := Lib.hid h7
      have H8 := Lib.hid h8
      clear h7 h8 hown' hgrow
      go_wp2
      go_roundw
      case rel => exact ⟨d + 1, by omega, by rw [H5.out], H7.out, H8.out⟩
      case measure =>
        have h5 := H5.out
        rw [h5]
        simp [intOf]
        omega

/-- those below one, above one -/
def nearOf (n : Nat) (S : Nat → Bool) (a : Int) : List Int := if isL n a then listTo S 8 else []

theorem below_nil (a : Int) (w : World) :
    Calls Try.prog 34 #[.pointer none, .int .i64 a] w (ListPost w []) := by
  go_enter Try.func34, Try.ntmps34
  go_wp2_with (go_at_call 49; refine (is_nil _ _).mono ?_; rintro e w' ⟨rfl, rfl⟩)
  go_ret
  exact ⟨_, rfl, own_nil _ _, Below.refl _ _⟩
theorem above_nil (a : Int) (w : World) :
    Calls Try.prog 36 #[.pointer none, .int .i64 a] w (ListPost w []) := by
  go_enter Try.func36, Try.ntmps36
  go_wp2_with (go_at_call 49; refine (is_nil _ _).mono ?_; rintro e w' ⟨rfl, rfl⟩)
  go_ret
  exact ⟨_, rfl, own_nil _ _, Below.refl _ _⟩
set_option maxHeartbeats 400000 in
theorem below_any (bk : Nat) (n : Nat) (R : Rel) (J M : Nat → Nat → Int) (a : Int) (w : World) (h8 : n ≤ 8) (hl : LatAt w bk n R J M) :
    Calls Try.prog 34 #[.pointer (some ⟨bk, 0, none⟩), .int .i64 a] w (ListPost w (nearOf n (fun x => R x a.toNat) a)) := by
  have hn := hl.cn
  cases h : isL n a with
  | false =>
    have e1 : nearOf n (fun x => R x a.toNat) a = [] := by unfold nearOf; rw [h]; rfl
    rw [e1]
    clear e1 hl
    go_enter Try.func34, Try.ntmps34
    go_wp2_with (go_at_call 49; refine (is_any _ _ _ _ hn).mono ?_; rintro e w' ⟨rfl, rfl⟩)
    go_ret
    exact ⟨_, rfl, own_nil _ _, Below.refl _ _⟩
  | true =>
    have e1 : nearOf n (fun x => R x a.toNat) a = listTo (fun x => R x a.toNat) 8 := by unfold nearOf; rw [h]; rfl
    rw [e1]
    clear e1
    obtain ⟨x, rfl, hx⟩ := isL_true h
    rw [Int.toNat_natCast]
    have hd := hl.cd x (by omega)
    have HL := Lib.hid (list_any (.pointer (some ⟨bk, 0, none⟩)) (fun a => R a x) w)
    clear hl
    go_enter Try.func34, Try.ntmps34
    go_wp2_with (first | (go_at_call 49; refine (is_any _ _ _ _ hn).mono ?_; rintro e w' ⟨rfl, rfl⟩) | (go_at_call 54; refine HL.out.mono ?_; rintro e w' ⟨v, rfl, hp⟩))
    go_ret
    exact ⟨_, rfl, hp⟩
set_option maxHeartbeats 400000 in
theorem above_any (bk : Nat) (n : Nat) (R : Rel) (J M : Nat → Nat → Int) (a : Int) (w : World) (h8 : n ≤ 8) (hl : LatAt w bk n R J M) :
    Calls Try.prog 36 #[.pointer (some ⟨bk, 0, none⟩), .int .i64 a] w (ListPost w (nearOf n (R a.toNat) a)) := by
  have hn := hl.cn
  cases h : isL n a with
  | false =>
    have e1 : nearOf n (R a.toNat) a = [] := by unfold nearOf; rw [h]; rfl
    rw [e1]
    clear e1 hl
    go_enter Try.func36, Try.ntmps36
    go_wp2_with (go_at_call 49; refine (is_any _ _ _ _ hn).mono ?_; rintro e w' ⟨rfl, rfl⟩)
    go_ret
    exact ⟨_, rfl, own_nil _ _, Below.refl _ _⟩
  | true =>
    have e1 : nearOf n (R a.toNat) a = listTo (R a.toNat) 8 := by unfold nearOf; rw [h]; rfl
    rw [e1]
    clear e1
    obtain ⟨x, rfl, hx⟩ := isL_true h
    rw [Int.toNat_natCast]
    have hd := hl.cu x (by omega)
    have HL := Lib.hid (list_any (.pointer (some ⟨bk, 0, none⟩)) (R x) w)
    clear hl
    go_enter Try.func36, Try.ntmps36
    go_wp2_with (first | (go_at_call 49; refine (is_any _ _ _ _ hn).mono ?_; rintro e w' ⟨rfl, rfl⟩) | (go_at_call 54; refine HL.out.mono ?_; rintro e w' ⟨v, rfl, hp⟩))
    go_ret
    exact ⟨_, rfl, hp⟩

end Go.Proofs.Ytpikafadfailkaa
