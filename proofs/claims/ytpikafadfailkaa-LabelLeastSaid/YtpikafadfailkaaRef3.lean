/- The reference's Bottom, Top. -/
import Derived.Test.YtpikafadfailkaaRef2
namespace Go.Proofs.Ytpikafadfailkaa
open Go.RowKit P

set_option maxHeartbeats 1000000 in
theorem rbottom_any (n : Nat) (L : Rel) (w : World) (h8 : n ≤ 8) (hL : Lat n L) :
    Calls Try.prog 31 #[.agg (rv n L)] w fun e w' => e = .returned (.int .i64 (bot n L)) ∧ Below w.heap.size w w' := by
  have HM := Lib.hid (Rm.new w n L 27)
  have HB := Lib.hid ((Below.refl w.heap.size w).alloc (Nat.le_refl _) (.cells (rv n L) 27))
  have HS : w.heap.size < (w.alloc (.cells (rv n L) 27)).heap.size := by simp
  have HL := Lib.hid hL
  have h1 := hL.one
  clear hL
  go_enter Try.func31, Try.ntmps31
  go_wp2
  generalize w.alloc (.cells (rv n L) 27) = W at *
  go_loopg [3, 4] (n - 1) (fun g x i wr => ∃ k : Nat, k + g = n ∧ 1 ≤ k ∧ i = .int .i64 k ∧ x = .int .i64 (foldM n L k) ∧ Rm wr w.heap.size n L ∧ Below w.heap.size w wr ∧ w.heap.size < wr.heap.size)
  case atStart => exact ⟨1, by omega, by omega, rfl, rfl, HM.out, HB.out, HS⟩
  case round =>
    obtain ⟨k, hk, hk1, rfl, rfl, hm, hb, hs⟩ := hrel
    have HM1 := Lib.hid hm
    have HB1 := Lib.hid hb
    have HS1 := hs
    have hn := hm.cn
    clear hm hb
    cases gk with
    | zero =>
      have hge : ¬ ((k : Int) < (n : Int)) := by omega
      obtain rfl : k = n := by omega
      go_wp2
      go_ret
      exact ⟨rfl, HB1.out⟩
    | succ g =>
      have hlt : (k : Int) < (n : Int) := by omega
      have hf := (HL.out.foldM_spec k hk1 (by omega)).1
      have hc := rmeet_any n L (foldM n L k) k wr h8 (by omega) (by omega)
      rw [(HL.out.mm_spec hf (show k < n by omega)).1] at hc
      have HC := Lib.hid hc
      have hE : foldM n L (k + 1) = mm n L (foldM n L k) k := by simp only [foldM]; rw [if_neg (by omega)]
      have HE := Lib.hid hE
      clear hc hE
      go_wp2_with (first | (refine wl_rload _ rfl (by simp [Region.wanted]) w.heap.size n L rfl HM1.out ?_) | (go_at_call 28; refine HC.out.mono ?_; rintro e w1 ⟨rfl, hb⟩; have HB2 := Lib.hid hb; clear hb))
      go_roundg g
      case measure => omega
      case rel => exact ⟨k + 1, by omega, by omega, by go_num, by rw [HE.out], HM1.out.below HB2.out HS1, HB1.out.trans (HB2.out.mono (by omega)), by have := HB2.out.size; omega⟩

set_option maxHeartbeats 1000000 in
theorem rtop_any (n : Nat) (L : Rel) (w : World) (h8 : n ≤ 8) (hL : Lat n L) :
    Calls Try.prog 32 #[.agg (rv n L)] w fun e w' => e = .returned (.int .i64 (top n L)) ∧ Below w.heap.size w w' := by
  have HM := Lib.hid (Rm.new w n L 27)
  have HB := Lib.hid ((Below.refl w.heap.size w).alloc (Nat.le_refl _) (.cells (rv n L) 27))
  have HS : w.heap.size < (w.alloc (.cells (rv n L) 27)).heap.size := by simp
  have HL := Lib.hid hL
  have h1 := hL.one
  clear hL
  go_enter Try.func32, Try.ntmps32
  go_wp2
  generalize w.alloc (.cells (rv n L) 27) = W at *
  go_loopg [3, 4] (n - 1) (fun g x i wr => ∃ k : Nat, k + g = n ∧ 1 ≤ k ∧ i = .int .i64 k ∧ x = .int .i64 (foldM n (opp L) k) ∧ Rm wr w.heap.size n L ∧ Below w.heap.size w wr ∧ w.heap.size < wr.heap.size)
  case atStart => exact ⟨1, by omega, by omega, rfl, rfl, HM.out, HB.out, HS⟩
  case round =>
    obtain ⟨k, hk, hk1, rfl, rfl, hm, hb, hs⟩ := hrel
    have HM1 := Lib.hid hm
    have HB1 := Lib.hid hb
    have HS1 := hs
    have hn := hm.cn
    clear hm hb
    cases gk with
    | zero =>
      have hge : ¬ ((k : Int) < (n : Int)) := by omega
      obtain rfl : k = n := by omega
      go_wp2
      go_ret
      exact ⟨rfl, HB1.out⟩
    | succ g =>
      have hlt : (k : Int) < (n : Int) := by omega
      have hf := (HL.out.dual.foldM_spec k hk1 (by omega)).1
      have hc := rjoin_any n L (foldM n (opp L) k) k wr h8 (by omega) (by omega)
      rw [(HL.out.jj_spec hf (show k < n by omega)).1] at hc
      have HC := Lib.hid hc
      have hE : foldM n (opp L) (k + 1) = jj n L (foldM n (opp L) k) k := by simp only [foldM]; rw [if_neg (by omega)]; rfl
      have HE := Lib.hid hE
      clear hc hE
      go_wp2_with (first | (refine wl_rload _ rfl (by simp [Region.wanted]) w.heap.size n L rfl HM1.out ?_) | (go_at_call 27; refine HC.out.mono ?_; rintro e w1 ⟨rfl, hb⟩; have HB2 := Lib.hid hb; clear hb))
      go_roundg g
      case measure => omega
      case rel => exact ⟨k + 1, by omega, by omega, by go_num, by rw [HE.out], HM1.out.below HB2.out HS1, HB1.out.trans (HB2.out.mono (by omega)), by have := HB2.out.size; omega⟩

end Go.Proofs.Ytpikafadfailkaa
