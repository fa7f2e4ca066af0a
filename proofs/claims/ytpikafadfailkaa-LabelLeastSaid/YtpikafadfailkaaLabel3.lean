/- The document's label layer: Visible, High, All. -/
import Derived.Test.YtpikafadfailkaaLabel2
import Derived.Test.YtpikafadfailkaaQuiet
namespace Go.Proofs.Ytpikafadfailkaa
open Go.RowKit P


set_option maxHeartbeats 2000000 in
theorem rvisible_any (n : Nat) (L : Rel) (lev : Int) (v : Value) (l : List Int) (w : World) (h8 : n ≤ 8) (hl : IntsAt w w.heap.size v l) (h3 : l.length ≤ 300) :
    Calls Try.prog 43 #[.agg (rv n L), .int .i64 lev, v] w (ListPost w (visL n L l lev)) := by
  have HI0 := Lib.hid hl
  obtain ⟨hlen, A, c, rfl, hcell⟩ := hl
  have HM := Lib.hid (Rm.new w n L 27)
  have HB := Lib.hid ((Below.refl w.heap.size w).alloc (Nat.le_refl _) (.cells (rv n L) 27))
  have HS : w.heap.size < (w.alloc (.cells (rv n L) 27)).heap.size := by simp
  obtain ⟨i0, hi, hz0, hz1, hz2⟩ := info_parts info_int
  have HI := Lib.hid hi
  have HZ0 := Lib.hid hz0
  have HZ1 := Lib.hid hz1
  have HZ2 := Lib.hid hz2
  clear hi hz0 hz1 hz2 hcell
  unfold visL
  generalize hS : seen n L l lev = S
  have HSS : Hid (∀ (i : Nat) a, l[i]? = some a → lqI n L a lev = S i) := Lib.hid fun i a h => by rw [← hS]; unfold seen; rw [List.getD_eq_getElem?_getD, h]; rfl
  clear hS
  go_enter Try.func43, Try.ntmps43
  go_wp2
  generalize w.alloc (.cells (rv n L) 27) = W at *
  go_loopg [7, 8] l.length (fun g v i wr => ∃ k : Nat, k + g = l.length ∧ i = .int .i64 k ∧ OwnInts wr (w.heap.size + 1) v (listTo S k) ∧ Rm wr w.heap.size n L ∧ Below w.heap.size w wr ∧ w.heap.size < wr.heap.size)
  case atStart => exact ⟨0, by omega, rfl, own_nil _ _, HM.out, HB.out, HS⟩
  case round =>
    obtain ⟨k, hk, rfl, hown, hm, hb, hs⟩ := hrel
    have HO := Lib.hid hown
    have HM1 := Lib.hid hm
    have HB1 := Lib.hid hb
    clear hown hm hb
    cases gk with
    | zero =>
      have hge : ¬ ((k : Int) < (l.length : Int)) := by omega
      obtain rfl : k = l.length := by omega
      go_wp2
      go_ret
      exact ⟨_, rfl, HO.out.mono (by omega), HB1.out⟩
    | succ g =>
      have hlt : (k : Int) < (l.length : Int) := by omega
      obtain ⟨a, ha⟩ : ∃ a, l[k]? = some a := ⟨_, List.getElem?_eq_getElem (by omega)⟩
      obtain ⟨_, A2, c2, hv, hcell⟩ := HI0.out.below HB1.out
      cases hv
      obtain ⟨bb, o, rfl, hbb, hc⟩ := hcell (by omega)
      have d : ∀ z : Wb wr, z.wd.cell? ⟨bb, o + k, none⟩ = some (.int .i64 a) := fun z => (z.h.cell (p := ⟨bb, o + k, none⟩) (show bb < _ by omega)).trans (hc k a ha)
      have HC := Lib.hid (fun u => rleq_any n L a lev u h8)
      have HSA := Lib.hid (HSS.out k a ha)
      clear hc ha hcell
      cases hS : S k with
      | false =>
        have HSK := Lib.hid hS
        clear hS
        go_wp2
        refine wp_region_wb (by kernel_rfl) (by kernel_rfl) ?_
        repeat
          first
          | (go_big_quiet_want; refine quiet_rload _ _ rfl rfl w.heap.size n L rfl ?hm ?_; (case hm => (rintro u ⟨z, rfl⟩; exact HM1.out.wb hs z)); go_frame; go_big_quiet_on)
          | go_big_quiet_step ((go_at_call 29; exact q_wb (HC.out _)))
        refine wpQuiet_nil ?_
        rintro u ⟨z, rfl⟩
        rw [HSA.out, HSK.out]
        go_wp2
        go_roundg g
        case measure => omega
        case rel =>
          have hz := z.h.size
          refine ⟨k + 1, by omega, by go_num, ?_, HM1.out.wb hs z, HB1.out.trans (z.h.mono (by omega)), by omega⟩
          rw [listTo_skip S k (k + 1) (by omega) fun i h1 h2 => by rw [show i = k by omega]; exact HSK.out]
          exact HO.out.kept_below z.h
      | true =>
        have HSK := Lib.hid hS
        clear hS
        go_wp2
        refine wp_region_wb (by kernel_rfl) (by kernel_rfl) ?_
        repeat
          first
          | (go_big_quiet_want; refine quiet_rload _ _ rfl rfl w.heap.size n L rfl ?hm ?_; (case hm => (rintro u ⟨z, rfl⟩; exact HM1.out.wb hs z)); go_frame; go_big_quiet_on)
          | go_big_quiet_step ((go_at_call 29; exact q_wb (HC.out _)))
        refine wpQuiet_nil ?_
        rintro u ⟨z, rfl⟩
        rw [HSA.out, HSK.out]
        have HO2 := Lib.hid (HO.out.kept_below z.h)
        have HB2 := Lib.hid z.h
        go_wp2_with (at_builtin; refine wpList_append_own _ rfl _ _ 50 rfl (w.heap.size + 1) 3 i0 (.int .i64 0) 1 8 Try.underlying50 HI.out HZ0.out HZ1.out HZ2.out rfl (by decide) _ _ _ rfl (World.ownsRow.alloc HO2.out _) ⟨z.wd.heap.size, 0, none⟩ 1 1 [.int .i64 k] rfl rfl ?c1 ?c2 ?c3 ?c4 ?c5 ?_)
        case c1 => exact cell_one_new _ _ _
        case c2 => intro u hu; simp at hu; subst hu; rfl
        case c3 => have := listTo_le S k; unfold maxLen; omega
        case c4 => have := listTo_le S k; omega
        case c5 => have := HB2.out.size; simp; omega
        intro v' w2 hown' hgrow _
        have h7 : OwnInts w2 (w.heap.size + 1) v' (listTo S (k + 1)) := by
          rw [listTo_hit S k HSK.out]; exact own_snoc hown'
        have h9 : Below (w.heap.size + 1) wr w2 := by
          have hsz := HB2.out.size
          refine (((HB2.out.mono (show w.heap.size + 1 ≤ wr.heap.size by omega)).alloc (by omega) _)).grown hgrow (by simp; omega) ?_
          exact fun j hj => (HO2.out.lt j hj).1
        have H7 := Lib.hid h7
        have H9 := Lib.hid h9
        clear h7 h9 hown' hgrow
        go_wp2
        go_roundg g
        case measure => omega
        case rel => exact ⟨k + 1, by omega, by go_num, H7.out, HM1.out.below H9.out (by omega), HB1.out.trans (H9.out.mono (by omega)), by have := H9.out.size; omega⟩

set_option maxHeartbeats 2000000 in
theorem rhigh_any (n : Nat) (L : Rel) (lev : Int) (w : World) (h8 : n ≤ 8) :
    Calls Try.prog 45 #[.agg (rv n L), .int .i64 lev] w (ListPost w (highL n L lev)) := by
  have HM := Lib.hid (Rm.new w n L 27)
  have HB := Lib.hid ((Below.refl w.heap.size w).alloc (Nat.le_refl _) (.cells (rv n L) 27))
  have HS : w.heap.size < (w.alloc (.cells (rv n L) 27)).heap.size := by simp
  obtain ⟨i0, hi, hz0, hz1, hz2⟩ := info_parts info_int
  have HI := Lib.hid hi
  have HZ0 := Lib.hid hz0
  have HZ1 := Lib.hid hz1
  have HZ2 := Lib.hid hz2
  clear hi hz0 hz1 hz2
  unfold highL
  generalize hS : (fun a : Nat => !lqI n L a lev) = S
  have HSS : Hid (∀ (i : Nat), lqI n L i lev = !S i) := Lib.hid fun i => by rw [← hS]; simp
  clear hS
  go_enter Try.func45, Try.ntmps45
  go_wp2
  generalize w.alloc (.cells (rv n L) 27) = W at *
  go_loopg [5, 6] n (fun g v i wr => ∃ k : Nat, k + g = n ∧ i = .int .i64 k ∧ OwnInts wr (w.heap.size + 1) v (listTo S k) ∧ Rm wr w.heap.size n L ∧ Below w.heap.size w wr ∧ w.heap.size < wr.heap.size)
  case atStart => exact ⟨0, by omega, rfl, own_nil _ _, HM.out, HB.out, HS⟩
  case round =>
    obtain ⟨k, hk, rfl, hown, hm, hb, hs⟩ := hrel
    have HO := Lib.hid hown
    have HM1 := Lib.hid hm
    have HB1 := Lib.hid hb
    have hn := hm.cn
    clear hown hm hb
    cases gk with
    | zero =>
      have hge : ¬ ((k : Int) < (n : Int)) := by omega
      obtain rfl : k = n := by omega
      go_wp2
      go_ret
      exact ⟨_, rfl, HO.out.mono (by omega), HB1.out⟩
    | succ g =>
      have hlt : (k : Int) < (n : Int) := by omega
      have hc := rleq_any n L k lev wr h8
      rw [HSS.out] at hc
      have HC := Lib.hid hc
      clear hc
      cases hS : S k with
      | false =>
        have HSK := Lib.hid hS
        clear hS
        go_wp2_with (first | (refine wl_rload _ rfl ?hw w.heap.size n L rfl HM1.out ?_; case hw => first | (simp [Region.wanted]; done) | (go_simp; done)) | (go_at_call 29; refine HC.out.mono ?_; rintro e w1 ⟨rfl, hb⟩; rw [HSK.out, Bool.not_false]; have HB2 := Lib.hid hb; clear hb))
        go_roundg g
        case measure => omega
        case rel =>
          refine ⟨k + 1, by omega, by go_num, ?_, HM1.out.below HB2.out hs, HB1.out.trans (HB2.out.mono (by omega)), by have := HB2.out.size; omega⟩
          rw [listTo_skip S k (k + 1) (by omega) fun i h1 h2 => by rw [show i = k by omega]; exact HSK.out]
          exact HO.out.kept_below HB2.out
      | true =>
        have HSK := Lib.hid hS
        clear hS
        go_wp2_with (first | (refine wl_rload _ rfl ?hw w.heap.size n L rfl HM1.out ?_; case hw => first | (simp [Region.wanted]; done) | (go_simp; done)) | (go_at_call 29; refine HC.out.mono ?_; rintro e w1 ⟨rfl, hb⟩; rw [HSK.out, Bool.not_true]; have HB2 := Lib.hid hb; have HO2 := Lib.hid (HO.out.kept_below hb); clear hb) | (at_builtin; refine wpList_append_own _ rfl _ _ 50 rfl (w.heap.size + 1) 3 i0 (.int .i64 0) 1 8 Try.underlying50 HI.out HZ0.out HZ1.out HZ2.out rfl (by decide) _ _ _ rfl (World.ownsRow.alloc HO2.out _) ⟨w1.heap.size, 0, none⟩ 1 1 [.int .i64 k] rfl rfl ?c1 ?c2 ?c3 ?c4 ?c5 ?_))
        case c1 => exact cell_one_new _ _ _
        case c2 => intro u hu; simp at hu; subst hu; rfl
        case c3 => have := listTo_le S k; unfold maxLen; omega
        case c4 => have := listTo_le S k; omega
        case c5 => have := HB2.out.size; simp; omega
        intro v' w2 hown' hgrow _
        have h7 : OwnInts w2 (w.heap.size + 1) v' (listTo S (k + 1)) := by
          rw [listTo_hit S k HSK.out]; exact own_snoc hown'
        have h9 : Below (w.heap.size + 1) wr w2 := by
          have hsz := HB2.out.size
          refine (((HB2.out.mono (show w.heap.size + 1 ≤ wr.heap.size by omega)).alloc (by omega) _)).grown hgrow (by simp; omega) ?_
          exact fun j hj => (HO2.out.lt j hj).1
        have H7 := Lib.hid h7
        have H9 := Lib.hid h9
        clear h7 h9 hown' hgrow
        go_wp2
        go_roundg g
        case measure => omega
        case rel => exact ⟨k + 1, by omega, by go_num, H7.out, HM1.out.below H9.out (by omega), HB1.out.trans (H9.out.mono (by omega)), by have := H9.out.size; omega⟩

end Go.Proofs.Ytpikafadfailkaa
