/- package label: Visible, High. -/
import Derived.Test.YtpikafadfailkaaLabel
namespace Go.Proofs.Ytpikafadfailkaa
open Go.RowKit P

/-- the places of those that are seen -/
def seen (n : Nat) (L : Rel) (l : List Int) (lev : Int) (i : Nat) : Bool := lqI n L (l.getD i 0) lev
def visL (n : Nat) (L : Rel) (l : List Int) (lev : Int) : List Int := listTo (seen n L l lev) l.length
def highL (n : Nat) (L : Rel) (lev : Int) : List Int := listTo (fun a : Nat => !lqI n L a lev) n
theorem visL_len (n : Nat) (L : Rel) (l : List Int) (lev : Int) : (visL n L l lev).length ≤ l.length := listTo_le _ _
theorem highL_len (n : Nat) (L : Rel) (lev : Int) : (highL n L lev).length ≤ n := listTo_le _ _

set_option maxHeartbeats 2000000 in
theorem visible_r (b n : Nat) (L : Rel) (lev : Int) (v : Value) (l : List Int) (w : World) (hlat : LatR w b n L) (hl : IntsAt w w.heap.size v l) (h3 : l.length ≤ 300) :
    Calls Try.prog 42 #[.pointer (some ⟨b, 0, none⟩), .int .i64 lev, v] w (ListPost w (visL n L l lev)) := by
  have HLAT := Lib.hid hlat
  have HI0 := Lib.hid hl
  obtain ⟨hlen, A, c, rfl, hcell⟩ := hl
  obtain ⟨i0, hi, hz0, hz1, hz2⟩ := info_parts info_int
  have HI := Lib.hid hi
  have HZ0 := Lib.hid hz0
  have HZ1 := Lib.hid hz1
  have HZ2 := Lib.hid hz2
  clear hi hz0 hz1 hz2 hlat hcell
  unfold visL
  generalize hS : seen n L l lev = S
  have HSS : Hid (∀ (i : Nat) a, l[i]? = some a → lqI n L a lev = S i) := Lib.hid fun i a h => by rw [← hS]; unfold seen; rw [List.getD_eq_getElem?_getD, h]; rfl
  clear hS
  go_enter Try.func42, Try.ntmps42
  go_wp2
  go_loopg [6, 11] l.length (fun g v i wr => ∃ k : Nat, k + g = l.length ∧ i = .int .i64 k ∧ OwnInts wr w.heap.size v (listTo S k) ∧ Below w.heap.size w wr)
  case atStart => exact ⟨0, by omega, rfl, own_nil _ _, Below.refl _ _⟩
  case round =>
    obtain ⟨k, hk, rfl, hown, hb⟩ := hrel
    have HO := Lib.hid hown
    have HB1 := Lib.hid hb
    have hs := hb.size
    clear hown hb
    cases gk with
    | zero =>
      have hge : ¬ ((k : Int) < (l.length : Int)) := by omega
      obtain rfl : k = l.length := by omega
      go_wp2
      go_ret
      exact ⟨_, rfl, HO.out, HB1.out⟩
    | succ g =>
      have hlt : (k : Int) < (l.length : Int) := by omega
      obtain ⟨a, ha⟩ : ∃ a, l[k]? = some a := ⟨_, List.getElem?_eq_getElem (by omega)⟩
      obtain ⟨_, A2, c2, hv, hcell⟩ := HI0.out.below HB1.out
      cases hv
      obtain ⟨bb, o, rfl, _, hc⟩ := hcell (by omega)
      have d := hc k a ha
      have HC := Lib.hid (HLAT.out.here HB1.out)
      have HSA := Lib.hid (HSS.out k a ha)
      clear hc ha hcell
      cases hS : S k with
      | false =>
        have HSK := Lib.hid hS
        clear hS
        go_wp2_with (go_at_call 22; refine (leq_r HC.out _ _).mono ?_; rintro e w' ⟨rfl, rfl⟩; rw [HSA.out, HSK.out])
        go_roundg g
        case measure => omega
        case rel =>
          refine ⟨k + 1, by omega, by go_num, ?_, HB1.out⟩
          rw [listTo_skip S k (k + 1) (by omega) fun i h1 h2 => by rw [show i = k by omega]; exact HSK.out]
          exact HO.out
      | true =>
        have HSK := Lib.hid hS
        clear hS
        go_wp2_with (first | (go_at_call 22; refine (leq_r HC.out _ _).mono ?_; rintro e w' ⟨rfl, rfl⟩; rw [HSA.out, HSK.out]) | (at_builtin; refine wpList_append_own _ rfl _ _ 50 rfl w.heap.size 3 i0 (.int .i64 0) 1 8 Try.underlying50 HI.out HZ0.out HZ1.out HZ2.out rfl (by decide) _ _ _ rfl (World.ownsRow.alloc HO.out _) ⟨wr.heap.size, 0, none⟩ 1 1 [.int .i64 k] rfl rfl ?c1 ?c2 ?c3 ?c4 ?c5 ?_))
        case c1 => exact cell_one_new _ _ _
        case c2 => intro u hu; simp at hu; subst hu; rfl
        case c3 => have := listTo_le S k; unfold maxLen; omega
        case c4 => have := listTo_le S k; omega
        case c5 => simp; omega
        intro v' w2 hown' hgrow _
        have h7 : OwnInts w2 w.heap.size v' (listTo S (k + 1)) := by
          rw [listTo_hit S k HSK.out]; exact own_snoc hown'
        have h9 : Below w.heap.size wr w2 := by
          refine (((Below.refl w.heap.size wr).alloc (by omega) _)).grown hgrow (by simp; omega) ?_
          exact fun j hj => (HO.out.lt j hj).1
        have H7 := Lib.hid h7
        have H9 := Lib.hid h9
        clear h7 h9 hown' hgrow
        go_wp2
        go_roundg g
        case measure => omega
        case rel => exact ⟨k + 1, by omega, by go_num, H7.out, HB1.out.trans H9.out⟩

set_option maxHeartbeats 2000000 in
theorem high_r (b n : Nat) (L : Rel) (lev : Int) (w : World) (hlat : LatR w b n L) :
    Calls Try.prog 44 #[.pointer (some ⟨b, 0, none⟩), .int .i64 lev] w (ListPost w (highL n L lev)) := by
  have HLAT := Lib.hid hlat
  have h8 := hlat.le8
  obtain ⟨i0, hi, hz0, hz1, hz2⟩ := info_parts info_int
  have HI := Lib.hid hi
  have HZ0 := Lib.hid hz0
  have HZ1 := Lib.hid hz1
  have HZ2 := Lib.hid hz2
  clear hi hz0 hz1 hz2 hlat
  unfold highL
  generalize hS : (fun a : Nat => !lqI n L a lev) = S
  have HSS : Hid (∀ (i : Nat), lqI n L i lev = !S i) := Lib.hid fun i => by rw [← hS]; simp
  clear hS
  go_enter Try.func44, Try.ntmps44
  go_wp2_with (go_at_call 30; refine (size_r HLAT.out).mono ?_; rintro e w' ⟨rfl, rfl⟩)
  go_loopg [4, 8] n (fun g v i wr => ∃ k : Nat, k + g = n ∧ i = .int .i64 k ∧ OwnInts wr w.heap.size v (listTo S k) ∧ Below w.heap.size w wr)
  case atStart => exact ⟨0, by omega, rfl, own_nil _ _, Below.refl _ _⟩
  case round =>
    obtain ⟨k, hk, rfl, hown, hb⟩ := hrel
    have HO := Lib.hid hown
    have HB1 := Lib.hid hb
    have hs := hb.size
    clear hown hb
    cases gk with
    | zero =>
      have hge : ¬ ((k : Int) < (n : Int)) := by omega
      obtain rfl : k = n := by omega
      go_wp2
      go_ret
      exact ⟨_, rfl, HO.out, HB1.out⟩
    | succ g =>
      have hlt : (k : Int) < (n : Int) := by omega
      have HC := Lib.hid (HLAT.out.here HB1.out)
      cases hS : S k with
      | false =>
        have HSK := Lib.hid hS
        clear hS
        go_wp2_with (go_at_call 22; refine (leq_r HC.out _ _).mono ?_; rintro e w' ⟨rfl, rfl⟩; rw [HSS.out, HSK.out, Bool.not_false])
        go_roundg g
        case measure => omega
        case rel =>
          refine ⟨k + 1, by omega, by go_num, ?_, HB1.out⟩
          rw [listTo_skip S k (k + 1) (by omega) fun i h1 h2 => by rw [show i = k by omega]; exact HSK.out]
          exact HO.out
      | true =>
        have HSK := Lib.hid hS
        clear hS
        go_wp2_with (first | (go_at_call 22; refine (leq_r HC.out _ _).mono ?_; rintro e w' ⟨rfl, rfl⟩; rw [HSS.out, HSK.out, Bool.not_true]) | (at_builtin; refine wpList_append_own _ rfl _ _ 50 rfl w.heap.size 3 i0 (.int .i64 0) 1 8 Try.underlying50 HI.out HZ0.out HZ1.out HZ2.out rfl (by decide) _ _ _ rfl (World.ownsRow.alloc HO.out _) ⟨wr.heap.size, 0, none⟩ 1 1 [.int .i64 k] rfl rfl ?c1 ?c2 ?c3 ?c4 ?c5 ?_))
        case c1 => exact cell_one_new _ _ _
        case c2 => intro u hu; simp at hu; subst hu; rfl
        case c3 => have := listTo_le S k; unfold maxLen; omega
        case c4 => have := listTo_le S k; omega
        case c5 => simp; omega
        intro v' w2 hown' hgrow _
        have h7 : OwnInts w2 w.heap.size v' (listTo S (k + 1)) := by
          rw [listTo_hit S k HSK.out]; exact own_snoc hown'
        have h9 : Below w.heap.size wr w2 := by
          refine (((Below.refl w.heap.size wr).alloc (by omega) _)).grown hgrow (by simp; omega) ?_
          exact fun j hj => (HO.out.lt j hj).1
        have H7 := Lib.hid h7
        have H9 := Lib.hid h9
        clear h7 h9 hown' hgrow
        go_wp2
        go_roundg g
        case measure => omega
        case rel => exact ⟨k + 1, by omega, by go_num, H7.out, HB1.out.trans H9.out⟩

/-- a lattice that is none -/
theorem high_nil (lev : Int) (w : World) : Calls Try.prog 44 #[.pointer none, .int .i64 lev] w fun e w' => e = .returned (.slice none 0 0) ∧ w = w' := by
  go_enter Try.func44, Try.ntmps44
  go_wp2_with (go_at_call 30; refine (size_nil _).mono ?_; rintro e w' ⟨rfl, rfl⟩)
  go_loopg [4, 8] 0 (fun g v i wr => v = .slice none 0 0 ∧ i = .int .i64 0 ∧ wr = w)
  case atStart => exact ⟨rfl, rfl, rfl⟩
  case round =>
    obtain ⟨rfl, rfl, rfl⟩ := hrel
    go_wp2
    go_ret
    exact ⟨rfl, rfl⟩

set_option maxHeartbeats 1000000 in
theorem visible_nil (lev : Int) (v : Value) (l : List Int) (w : World) (hl : IntsAt w w.heap.size v l) :
    Calls Try.prog 42 #[.pointer none, .int .i64 lev, v] w fun e w' => e = .returned (.slice none 0 0) ∧ w = w' := by
  obtain ⟨hlen, A, c, rfl, hcell⟩ := hl
  have HC := Lib.hid hcell
  clear hcell
  go_enter Try.func42, Try.ntmps42
  go_wp2
  go_loopg [6, 11] l.length (fun g v i wr => ∃ k : Nat, k + g = l.length ∧ i = .int .i64 k ∧ v = .slice none 0 0 ∧ wr = w)
  case atStart => exact ⟨0, by omega, rfl, rfl, rfl⟩
  case round =>
    obtain ⟨k, hk, rfl, rfl, rfl⟩ := hrel
    cases gk with
    | zero =>
      have hge : ¬ ((k : Int) < (l.length : Int)) := by omega
      go_wp2
      go_ret
      exact ⟨rfl, rfl⟩
    | succ g =>
      have hlt : (k : Int) < (l.length : Int) := by omega
      obtain ⟨a, ha⟩ : ∃ a, l[k]? = some a := ⟨_, List.getElem?_eq_getElem (by omega)⟩
      obtain ⟨bb, o, rfl, _, hc⟩ := HC.out (by omega)
      have d := hc k a ha
      clear hc ha
      go_wp2_with (go_at_call 22; refine (leq_nil _ _ _).mono ?_; rintro e w' ⟨rfl, rfl⟩)
      go_roundg g
      case measure => omega
      case rel => exact ⟨k + 1, by omega, by go_num, rfl, rfl⟩

end Go.Proofs.Ytpikafadfailkaa
