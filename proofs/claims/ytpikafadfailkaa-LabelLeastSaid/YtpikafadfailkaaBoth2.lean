/- both, of the labels' laws (same text as the lattice's). -/
import Derived.Test.YtpikafadfailkaaBoth1b
namespace Go.Proofs.Ytpikafadfailkaa
open Go.RowKit P

set_option maxHeartbeats 1000000 in
set_option maxRecDepth 100000 in
theorem both2_any (n : Int) (A : Option Addr) (l c : Nat) (ps : List (Int × Int)) (w : World) (hl : ps.length = l) (hp : Pairs w w.heap.size A ps) (h2 : l ≤ 200) :
    Calls Try.prog 37 #[.int .i64 n, .slice A l c] w (BothPost w n ps) := by
  have t1 : decide ((200 : Int) < l) = false := by simp; omega
  have hz := rzero
  have HP := Lib.hid hp
  obtain ⟨i0, hi, hz0, hz1, hz2⟩ := info_parts info_pair
  have HI := Lib.hid hi
  have HZ0 := Lib.hid hz0
  have HZ1 := Lib.hid hz1
  have HZ2 := Lib.hid hz2
  have HL := Lib.hid hl
  clear hi hz0 hz1 hz2 hp hl
  have HM := Lib.hid (Rm.new w 0 (fun _ _ => false) 27)
  have hw1 := (ownsRow_empty (w.alloc (.cells (rv 0 fun _ _ => false) 27)) 39 2 w.heap.size (by simp))
  rw [World.size_alloc] at hw1
  have HW1 := Lib.hid hw1
  clear hw1
  have HB1 := Lib.hid (((Below.refl w.heap.size w).alloc (Nat.le_refl _) (.cells (rv 0 fun _ _ => false) 27)).alloc (by simp) (.cells #[] 39))
  go_enter Try.func37, Try.ntmps37
  go_wp2_with (at_builtin; refine wl_append rfl _ _ 22 rfl w.heap.size 39 i0 (.agg #[.int .i64 0, .int .i64 0]) 2 16 Try.underlying22 HI.out HZ0.out HZ1.out HZ2.out rfl (by decide) _ 0 [] rfl HW1.out A l c (pcells ps) rfl ?c1 ?c2 (pcells_one ps) ?c3 ?c4 ?c5 ?_)
  case c1 => rw [pcells_len, HL.out]
  case c2 => intro hl; exact HP.out.src (by rw [HL.out]; exact hl) |>.imp fun ad h => ⟨h.1, fun j u hu => (HB1.out.cell (p := ad.add j) (by
    obtain ⟨b, o, e, hb, _⟩ := HP.out.2 (by rw [HL.out]; exact hl)
    have : ad = ⟨b, o, none⟩ := by have := h.1; rw [e] at this; injection this with this; exact this.symm
    subst this
    rw [Addr.add_mid]; exact hb)).trans (h.2 j u hu)⟩
  case c3 => unfold maxLen; omega
  case c4 => omega
  case c5 => simp; omega
  intro v' w1 hown hg
  have hb1 : Below w.heap.size w w1 := HB1.out.grown hg (by simp; omega) (fun j hj => by simp [Value.ownBlock] at hj; omega)
  obtain ⟨A', c', rfl, hps⟩ := Pairs.of_own (ps := ps) HL.out hown HP.out.ok (by rw [HL.out]; omega)
  have HB2 := Lib.hid hb1
  have HM1 := Lib.hid (Rm.below (w' := w1) (HM.out.below ((Below.refl _ _).alloc (Nat.le_refl _) (.cells #[] 39)) (by simp)) (B := w.heap.size + 1) ⟨hg.os, hg.tape, hg.output, hg.size, fun j hj => hg.block j (by simp; omega) (by simp only [Value.ownBlock]; intro e; injection e with e; omega)⟩ (by omega))
  have hz1 : w.heap.size + 1 < w1.heap.size := by have := hg.size; simp at this; omega
  clear hown hg hb1
  by_cases h0 : makeE n ps = 0
  · obtain ⟨k, rfl⟩ : ∃ k : Nat, n = k := by
      rcases makeE_cases n ps with ⟨_, h⟩ | ⟨k, rfl, _⟩
      · rw [h] at h0; cases h0
      · exact ⟨k, rfl⟩
    have CM := Lib.hid (make_ok k A' l c' ps w1 HL.out hps h0)
    have H0 := Lib.hid h0
    clear hps h0
    go_wp2_with fail
    refine CM.out.mono ?_
    rintro e w2 ⟨rfl, hlat, hb⟩
    have HB3 := Lib.hid (HB2.out.trans (hb.mono (by omega)))
    have HM2 := Lib.hid (HM1.out.below hb (by omega))
    have hz2 : w.heap.size + 1 < w2.heap.size := by have := hb.size; omega
    have CR := Lib.hid (rmake_any k A l c ps w2 HL.out ((HP.out.below HB3.out).more (by omega)))
    have HLT := Lib.hid hlat
    clear hlat
    clear hb
    go_wp2_with fail
    refine CR.out.mono ?_
    rintro e w3 ⟨rfl, hb⟩
    have HB4 := Lib.hid (HB3.out.trans (hb.mono (by omega)))
    have HM3 := Lib.hid (HM2.out.below hb (by omega))
    have hz3 : w.heap.size + 1 < w3.heap.size := by have := hb.size; omega
    have HM4 := Lib.hid (Rm.new w3 0 (fun _ _ => false) 27)
    have HLT2 := Lib.hid (HLT.out.here hb)
    clear hb
    go_wp2_with (refine wl_rstore _ _ rfl (by simp [Region.wanted]) w3.heap.size (rmkN k ps) (rmkL k ps) rfl rfl ⟨_, _, HM4.out⟩ ?_)
    have HM5 := Lib.hid ((HM3.out.below ((Below.refl _ _).alloc (Nat.le_refl _) (.cells (rv 0 fun _ _ => false) 27)) (by omega)).far (b' := w3.heap.size) (by omega) (rl (rmkN k ps) (rmkL k ps)) 0)
    have HM6 := Lib.hid (HM4.out.setCells (rmkN k ps) (rmkL k ps))
    have HB5 := Lib.hid (below_setCells (HB4.out.alloc (by omega) (.cells (rv 0 fun _ _ => false) 27)) (b := w3.heap.size) (by omega) (rl (rmkN k ps) (rmkL k ps)) 0)
    have HLT3 := Lib.hid ((HLT2.out.alloc (.cells (rv 0 fun _ _ => false) 27)).below (below_setCells (Below.refl w3.heap.size _) (Nat.le_refl _) (rl (rmkN k ps) (rmkL k ps)) 0) HLT2.out.lt)
    have hne : w.heap.size ≠ w3.heap.size := by omega
    generalize World.setCells _ _ _ _ = W at *
    clear HM4 HM3 HM2 HM1
    refine wp_region_ord [(0, true), (1, true), (2, true), (3, true), (4, true), (5, false), (6, true)] (fun w' => Rm w' w3.heap.size (rmkN k ps) (rmkL k ps)) (by kernel_rfl) (by kernel_rfl) (by kernel_rfl) rfl (by intro c a d v w h; cases d <;> exact h) ?_
    have hs := HM6.out.drew
    refine ord_move _ _ _ _ rfl rfl rfl (by simp [Region.wanted]) hs rfl ?_
    refine ord_val _ (.agg (rv (rmkN k ps) (rmkL k ps))) rfl (by simp [Region.wanted]) hs (fun w' hw' => exec_rload _ _ rfl _ _ _ rfl hw') ?_
    refine ord_move _ _ _ _ rfl rfl rfl (by simp [Region.wanted]) hs rfl ?_
    refine ord_val _ (.bool true) rfl (by simp [Region.wanted]) hs (fun w' _ => by go_simp) ?_
    refine ord_assign _ _ _ _ rfl rfl rfl (by simp [Region.wanted]) hs rfl ?_
    refine ord_rstore _ _ _ rfl rfl (by simp [Region.wanted]) w.heap.size (rmkN k ps) (rmkL k ps) rfl rfl ⟨_, _, HM5.out.drew⟩ (hs.far hne.symm (rl (rmkN k ps) (rmkL k ps)) 0) ?_
    refine ord_assign _ _ _ _ rfl rfl rfl (by simp [Region.wanted]) (hs.far hne.symm _ 0) rfl ?_
    refine ord_end ?_
    go_simp
    go_wp2
    refine bodyPost_ret (results_both rfl _ _ w.heap.size (rmkN k ps) (rmkL k ps) (.pointer (some ⟨w1.heap.size, 0, none⟩)) (.bool true) rfl rfl rfl (HM5.out.drew.setCells _ _)) rfl ?_
    have e1 : rmkN k ps = k := by unfold rmkN; rw [H0.out]; simp
    have e2 : rmkL k ps = ordOf k ps := by unfold rmkL; rw [H0.out]; simp
    rw [e1, e2]
    exact ⟨below_setCells HB5.out.drew (Nat.le_refl _) _ _, .inr ⟨H0.out, k, w1.heap.size, rfl, rfl, HLT3.out.drew.far (b' := w.heap.size) (by omega) _ 0⟩⟩
  · have CM := Lib.hid (make_no n A' l c' ps (makeE n ps) w1 HL.out hps rfl h0)
    have H0 := Lib.hid h0
    clear hps h0
    go_wp2_with fail
    refine CM.out.mono ?_
    rintro e w2 ⟨rfl, hb⟩
    have HB3 := Lib.hid (HB2.out.trans (hb.mono (by omega)))
    have HM2 := Lib.hid (HM1.out.below hb (by omega))
    have hz2 : w.heap.size + 1 < w2.heap.size := by have := hb.size; omega
    have CR := Lib.hid (rmake_any n A l c ps w2 HL.out ((HP.out.below HB3.out).more (by omega)))
    clear hb
    go_wp2_with fail
    refine CR.out.mono ?_
    rintro e w3 ⟨rfl, hb⟩
    have HB4 := Lib.hid (HB3.out.trans (hb.mono (by omega)))
    have HM3 := Lib.hid (HM2.out.below hb (by omega))
    have hz3 : w.heap.size + 1 < w3.heap.size := by have := hb.size; omega
    have HM4 := Lib.hid (Rm.new w3 0 (fun _ _ => false) 27)
    clear hb
    go_wp2_with (refine wl_rstore _ _ rfl (by simp [Region.wanted]) w3.heap.size (rmkN n ps) (rmkL n ps) rfl rfl ⟨_, _, HM4.out⟩ ?_)
    have HM5 := Lib.hid ((HM3.out.below ((Below.refl _ _).alloc (Nat.le_refl _) (.cells (rv 0 fun _ _ => false) 27)) (by omega)).far (b' := w3.heap.size) (by omega) (rl (rmkN n ps) (rmkL n ps)) 0)
    have HM6 := Lib.hid (HM4.out.setCells (rmkN n ps) (rmkL n ps))
    have HB5 := Lib.hid (below_setCells (HB4.out.alloc (by omega) (.cells (rv 0 fun _ _ => false) 27)) (b := w3.heap.size) (by omega) (rl (rmkN n ps) (rmkL n ps)) 0)
    have hne : w.heap.size ≠ w3.heap.size := by omega
    generalize World.setCells _ _ _ _ = W at *
    clear HM4 HM3 HM2 HM1
    refine wp_region_ord [(0, true), (1, true), (2, true), (3, true), (4, true), (5, false), (6, true)] (fun w' => Rm w' w3.heap.size (rmkN n ps) (rmkL n ps)) (by kernel_rfl) (by kernel_rfl) (by kernel_rfl) rfl (by intro c a d v w h; cases d <;> exact h) ?_
    have hs := HM6.out.drew
    refine ord_move _ _ _ _ rfl rfl rfl (by simp [Region.wanted]) hs rfl ?_
    refine ord_val _ (.agg (rv (rmkN n ps) (rmkL n ps))) rfl (by simp [Region.wanted]) hs (fun w' hw' => exec_rload _ _ rfl _ _ _ rfl hw') ?_
    refine ord_move _ _ _ _ rfl rfl rfl (by simp [Region.wanted]) hs rfl ?_
    refine ord_val _ (.bool false) rfl (by simp [Region.wanted]) hs (fun w' _ => by go_simp) ?_
    refine ord_assign _ _ _ _ rfl rfl rfl (by simp [Region.wanted]) hs rfl ?_
    refine ord_rstore _ _ _ rfl rfl (by simp [Region.wanted]) w.heap.size (rmkN n ps) (rmkL n ps) rfl rfl ⟨_, _, HM5.out.drew⟩ (hs.far hne.symm (rl (rmkN n ps) (rmkL n ps)) 0) ?_
    refine ord_assign _ _ _ _ rfl rfl rfl (by simp [Region.wanted]) (hs.far hne.symm _ 0) rfl ?_
    refine ord_end ?_
    go_simp
    go_wp2
    refine bodyPost_ret (results_both rfl _ _ w.heap.size (rmkN n ps) (rmkL n ps) (.pointer none) (.bool false) rfl rfl rfl (HM5.out.drew.setCells _ _)) rfl ?_
    exact ⟨below_setCells HB5.out.drew (Nat.le_refl _) _ _, .inl ⟨H0.out, _, _, rfl⟩⟩

theorem both2_long (n : Int) (A : Option Addr) (l c : Nat) (w : World) (h2 : 200 < l) :
    Calls Try.prog 37 #[.int .i64 n, .slice A l c] w fun e w' => e = .returned (.tuple #[.pointer none, .agg (rv 0 fun _ _ => false), .bool false]) ∧ Below w.heap.size w w' := by
  have t1 : decide ((200 : Int) < l) = true := by simp; omega
  have hz := rzero
  have HM := Lib.hid (Rm.new w 0 (fun _ _ => false) 27)
  have HB := Lib.hid (below_setCells ((Below.refl w.heap.size w).alloc (Nat.le_refl _) (.cells (rv 0 fun _ _ => false) 27)) (Nat.le_refl _) (rl 0 fun _ _ => false) 0)
  go_enter Try.func37, Try.ntmps37
  go_wp2_with (refine wl_rstore _ _ rfl (by simp [Region.wanted]) w.heap.size 0 (fun _ _ => false) rfl rfl ⟨_, _, HM.out⟩ ?_)
  exact bodyPost_ret (results_both rfl _ _ w.heap.size 0 (fun _ _ => false) (.pointer none) (.bool false) rfl rfl rfl (HM.out.setCells 0 _)) rfl ⟨rfl, HB.out⟩

theorem both2_all (n : Int) (A : Option Addr) (l c : Nat) (ps : List (Int × Int)) (w : World) (hl : ps.length = l) (hp : Pairs w w.heap.size A ps) :
    Calls Try.prog 37 #[.int .i64 n, .slice A l c] w (BothAll w n ps) := by
  by_cases h : l ≤ 200
  · refine (both2_any n A l c ps w hl hp h).mono fun e w' hh => ?_
    rcases hh.2 with ⟨_, h1⟩ | ⟨h0, h1⟩
    · exact ⟨hh.1, .inl h1⟩
    · exact ⟨hh.1, .inr ⟨by omega, h0, h1⟩⟩
  · exact (both2_long n A l c w (by omega)).mono fun e w' hh => ⟨hh.2, .inl ⟨_, _, hh.1⟩⟩

end Go.Proofs.Ytpikafadfailkaa
