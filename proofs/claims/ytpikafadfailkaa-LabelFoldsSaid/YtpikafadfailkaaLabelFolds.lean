/- THE STATEMENT LabelFolds is proved: for every number, every list of pairs, every list of labels and every label the Go function LabelFolds returns true, and its arguments read afterwards as before; without conditions. -/
import Derived.Test.YtpikafadfailkaaFrame
import Derived.Test.YtpikafadfailkaaAwake2
import Derived.Test.YtpikafadfailkaaBoth2
import Derived.Test.YtpikafadfailkaaLabelPlain
import Derived.Test.YtpikafadfailkaaLabel4
import Derived.Test.YtpikafadfailkaaLabelKit
namespace Go.Proofs.Ytpikafadfailkaa
open Go.ChangeShapes Go.WideShapes Go.ChangeAt Go.RowKit P
set_option linter.unusedVariables false

set_option maxHeartbeats 2000000 in
set_option maxRecDepth 100000 in
theorem labelFolds_walk (w : World) (n : Int) (_wn : (Lit.int .i64 n).wf = true) (A : Option Addr) (l c : Nat) (ps : List (Int × Int)) (hl : ps.length = l) (hp : Pairs w w.heap.size A ps)
    (v : Value) (ls : List Int) (hi : IntsAt w w.heap.size v ls) (a : Int) (_wa : (Lit.int .i64 a).wf = true) :
    Calls Try.prog 9 #[.int .i64 n, .slice A l c, v, .int .i64 a] w fun e w' => e = .returned (.bool true) ∧ Below w.heap.size w w' := by
  have CB := Lib.hid (both2_all n A l c ps w hl hp)
  have HI := Lib.hid hi
  obtain ⟨hlen, LA, lc, rfl, _⟩ := hi
  have hz := rzero
  clear hl hp
  go_enter Try.func9, Try.ntmps9
  go_wp2_with fail
  refine CB.out.mono ?_
  rintro e w1 ⟨hb, (⟨N, L, rfl⟩ | ⟨_, _, k, b, rfl, rfl, hlat⟩)⟩
  · have HB1 := Lib.hid hb
    have HM := Lib.hid (Rm.new w1 0 (fun _ _ => false) 27)
    have HB2 := Lib.hid (below_setCells (hb.alloc hb.size (.cells (rv 0 fun _ _ => false) 27)) (b := w1.heap.size) hb.size (rl N L) 0)
    clear hb CB
    go_wp2_with (first | ((with_reducible show wpList _ _ _ _ _ _); refine wl_rstore _ _ rfl ?hw w1.heap.size N L rfl rfl ?hm ?_; (case hw => simp [Region.wanted]); (case hm => exact ⟨_, _, HM.out⟩)) | (go_at_call 38; fail))
    generalize World.setCells _ _ _ _ = W at *
    refine (awake2 _).mono ?_
    rintro e w2 ⟨rfl, hb⟩
    have HB3 := Lib.hid (HB2.out.trans (hb.mono HB2.out.size))
    clear hb
    go_wp2_with fail
    refine (awake2 _).mono ?_
    rintro e w3 ⟨rfl, hb⟩
    have HB4 := Lib.hid (HB3.out.trans (hb.mono HB3.out.size))
    clear hb
    go_wp2
    go_ret
    exact ⟨rfl, HB4.out⟩
  · have HL1 := Lib.hid hlat
    have HB1 := Lib.hid hb
    have hz1 : w.heap.size ≤ w1.heap.size := hb.size
    have HM := Lib.hid (Rm.new w1 0 (fun _ _ => false) 27)
    have HB2 := Lib.hid (below_setCells (hb.alloc hb.size (.cells (rv 0 fun _ _ => false) 27)) (b := w1.heap.size) hb.size (rl k (ordOf k ps)) 0)
    have HL2 := Lib.hid ((hlat.alloc (.cells (rv 0 fun _ _ => false) 27)).below (below_setCells (Below.refl w1.heap.size _) (Nat.le_refl _) (rl k (ordOf k ps)) 0) hlat.lt)
    have HM2 := Lib.hid (HM.out.setCells k (ordOf k ps))
    have hs2 : w1.heap.size < ((w1.alloc (.cells (rv 0 fun _ _ => false) 27)).setCells w1.heap.size 0 (rl k (ordOf k ps))).heap.size := by rw [size_setCells]; simp
    have HLA := Lib.hid hlat.lat
    have h8 := hlat.le8
    clear hb hlat CB
    go_wp2_with (first | ((with_reducible show wpList _ _ _ _ _ _); refine wl_rstore _ _ rfl ?hw w1.heap.size k (ordOf k ps) rfl rfl ?hm ?_; (case hw => simp [Region.wanted]); (case hm => exact ⟨_, _, HM.out⟩)) | (go_at_call 38; fail))
    clear HM
    generalize World.setCells _ _ _ _ = W at *
    generalize ordOf k ps = L at *
    refine (awake2 _).mono ?_
    rintro e w2 ⟨rfl, hb⟩
    have HB3 := Lib.hid (HB2.out.trans (hb.mono HB2.out.size))
    have HL3 := Lib.hid (HL2.out.here hb)
    have HI3 := Lib.hid ((HI.out.below HB3.out).more HB3.out.size)
    have HM3 := Lib.hid (HM2.out.below hb hs2)
    have hs3 : w1.heap.size < w2.heap.size := by have := hb.size; omega
    clear hb HL2 HL1 HB1 HB2 HM2 hs2
    by_cases h3 : 300 < ls.length
    · have t3 : decide ((300 : Int) < ls.length) = true := by simp; omega
      clear h3
      go_wp2_with fail
      refine (awake2 _).mono ?_
      rintro e w3 ⟨rfl, hb⟩
      have HB4 := Lib.hid (HB3.out.trans (hb.mono HB3.out.size))
      clear hb
      go_wp2
      go_ret
      exact ⟨rfl, HB4.out⟩
    · have t3 : decide ((300 : Int) < ls.length) = false := by simp; omega
      have H3 := Lib.hid h3
      clear h3
      obtain ⟨i0, hi, hz0, hz1, hz2⟩ := info_parts info_int
      have HI0 := Lib.hid hi
      have HZ0 := Lib.hid hz0
      have HZ1 := Lib.hid hz1
      have HZ2 := Lib.hid hz2
      have HW1 := Lib.hid (ownsRow_empty w2 3 1 w2.heap.size (Nat.le_refl _))
      have HBA := Lib.hid ((Below.refl w2.heap.size w2).alloc (Nat.le_refl _) (.cells #[] 3))
      have HSRC := Lib.hid (fun h0 => (HI3.out.below HBA.out).src h0)
      clear hi hz0 hz1 hz2
      go_wp2_with (at_builtin; refine wl_append rfl _ _ 50 rfl w2.heap.size 3 i0 (.int .i64 0) 1 8 Try.underlying50 HI0.out HZ0.out HZ1.out HZ2.out rfl (by decide) _ 0 [] rfl HW1.out LA ls.length lc (ints ls) rfl (ints_len ls) HSRC.out (ints_one ls) ?c3 ?c4 ?c5 ?_)
      case c3 => have := H3.out; unfold maxLen; omega
      case c4 => have := H3.out; omega
      case c5 => simp
      intro v1 w3 hown hg
      have hb3 : Below w2.heap.size w2 w3 := HBA.out.grown hg (by simp) (fun j hj => (HW1.out.lt j hj).1)
      have HV1 : Hid (IntsAt w3 w3.heap.size v1 ls) := Lib.hid (IntsAt.of_own (show OwnInts w3 w2.heap.size v1 ls from by simpa [OwnInts] using hown) hlen)
      have HB4 := Lib.hid (HB3.out.trans (hb3.mono HB3.out.size))
      have HL4 := Lib.hid (HL3.out.here hb3)
      have HM4 := Lib.hid (HM3.out.below hb3 hs3)
      have HI4 := Lib.hid ((HI3.out.below hb3).more hb3.size)
      have hs4 : w1.heap.size < w3.heap.size := Nat.lt_of_lt_of_le hs3 hb3.size
      clear hown hg hb3 HW1 HBA HSRC HB3 HL3 HM3 HI3 hs3
      go_wp2_with fail
      obtain ⟨u1, t1, hf1⟩ := foldV_two k L (bot k L) ls
      obtain ⟨u2, t2, hf2⟩ := foldV_two k (opp L) (top k L) ls
      have HF1 := Lib.hid hf1
      have HF2 := Lib.hid hf2
      clear hf1 hf2
      refine (joinAll_r b k L v1 ls w3.heap.size w3 HL4.out HV1.out).mono ?_
      rintro e w4 ⟨rfl, m, rfl⟩
      rw [HF1.out]
      have HB5 := Lib.hid (below_drewN HB4.out m)
      have HL5 := Lib.hid (HL4.out.drewN m)
      have HM5 := Lib.hid (HM4.out.drewN m)
      have HI5 : Hid (IntsAt (w3.drewN m) (w3.drewN m).heap.size (.slice LA ls.length lc) ls) := Lib.hid (HI4.out.drewN m)
      have hs5 : w1.heap.size < (w3.drewN m).heap.size := hs4
      clear HB4 HL4 HM4 HI4 hs4 HV1
      generalize w3.drewN m = w4 at *
      have HW1 := Lib.hid (ownsRow_empty w4 3 1 w4.heap.size (Nat.le_refl _))
      have HBA := Lib.hid ((Below.refl w4.heap.size w4).alloc (Nat.le_refl _) (.cells #[] 3))
      have HSRC := Lib.hid (fun h0 => (HI5.out.below HBA.out).src h0)
      go_wp2_with (at_builtin; refine wl_append rfl _ _ 50 rfl w4.heap.size 3 i0 (.int .i64 0) 1 8 Try.underlying50 HI0.out HZ0.out HZ1.out HZ2.out rfl (by decide) _ 0 [] rfl HW1.out LA ls.length lc (ints ls) rfl (ints_len ls) HSRC.out (ints_one ls) ?c3 ?c4 ?c5 ?_)
      case c3 => have := H3.out; unfold maxLen; omega
      case c4 => have := H3.out; omega
      case c5 => simp
      intro v2 w5 hown hg
      have hb3 : Below w4.heap.size w4 w5 := HBA.out.grown hg (by simp) (fun j hj => (HW1.out.lt j hj).1)
      have HV1 : Hid (IntsAt w5 w5.heap.size v2 ls) := Lib.hid (IntsAt.of_own (show OwnInts w5 w4.heap.size v2 ls from by simpa [OwnInts] using hown) hlen)
      have HB6 := Lib.hid (HB5.out.trans (hb3.mono HB5.out.size))
      have HL6 := Lib.hid (HL5.out.here hb3)
      have HM6 := Lib.hid (HM5.out.below hb3 hs5)
      have HI6 := Lib.hid ((HI5.out.below hb3).more hb3.size)
      have hs6 : w1.heap.size < w5.heap.size := Nat.lt_of_lt_of_le hs5 hb3.size
      clear hown hg hb3 HW1 HBA HSRC HB5 HL5 HM5 HI5 hs5
      go_wp2_with fail
      refine (meetAll_r b k L v2 ls w5.heap.size w5 HL6.out HV1.out).mono ?_
      rintro e w6 ⟨rfl, m6, rfl⟩
      rw [HF2.out]
      have HB7 := Lib.hid (below_drewN HB6.out m6)
      have HL7 := Lib.hid (HL6.out.drewN m6)
      have HM7 := Lib.hid (HM6.out.drewN m6)
      have HI7 : Hid (IntsAt (w5.drewN m6) (w5.drewN m6).heap.size (.slice LA ls.length lc) ls) := Lib.hid (HI6.out.drewN m6)
      have hs7 : w1.heap.size < (w5.drewN m6).heap.size := hs6
      clear HB6 HL6 HM6 HI6 hs6 HV1
      generalize w5.drewN m6 = w6 at *
      have C1 := Lib.hid (fun (z : Wb w6) => rall_join k L (.slice LA ls.length lc) ls z.wd h8 HLA.out ((HI7.out.below z.h).more z.h.size))
      have C2 := Lib.hid (fun (z : Wb w6) => rall_meet k L (.slice LA ls.length lc) ls z.wd h8 HLA.out ((HI7.out.below z.h).more z.h.size))
      go_upto_region 6 with (fail)
      refine wp_region_wb (by kernel_rfl) (by kernel_rfl) ?_
      repeat
        first
        | (go_big_quiet_want; refine quiet_rload _ _ rfl rfl w1.heap.size k L rfl ?hm ?_; (case hm => (rintro u ⟨z, rfl⟩; exact HM7.out.wb hs7 z)); go_frame; go_big_quiet_on)
        | go_big_quiet_step ((first | (go_at_call 41; with_reducible exact q_wb (C1.out _)) | (go_at_call 41; with_reducible exact q_wb (C2.out _))))
      refine wpQuiet_nil ?_
      rintro u ⟨z, rfl⟩
      have HB8 := Lib.hid (HB7.out.trans (z.h.mono HB7.out.size))
      have HL8 := Lib.hid (HL7.out.here z.h)
      have HM8 := Lib.hid (HM7.out.wb hs7 z)
      have HI8 := Lib.hid ((HI7.out.below z.h).more z.h.size)
      have hs8 := Nat.lt_of_lt_of_le hs7 z.h.size
      clear HB7 HL7 HM7 HI7 hs7 C1 C2
      generalize z.wd = w8 at *
      cases hall : allL k ls with
      | false =>
        have q1 := foldV_no (L := L) (x := bot k L) hall
        have q2 := foldV_no (L := opp L) (x := top k L) hall
        have e1 : rallV k L (bot k L) ls = -1 := by unfold rallV; rw [hall]; rfl
        rw [HF1.out] at q1
        rw [HF2.out] at q2
        simp only [Value.tuple.injEq, Array.mk.injEq, List.cons.injEq, Value.int.injEq, true_and, and_true] at q1 q2
        obtain ⟨rfl, rfl⟩ := q1
        obtain ⟨rfl, rfl⟩ := q2
        rw [e1]
        clear e1 hall
        go_wp2
        go_ret
        exact ⟨rfl, HB8.out⟩
      | true =>
        have q1 := foldV_yes (L := L) (x := bot k L) hall
        have q2 := foldV_yes (L := opp L) (x := top k L) hall
        have e1 : rallV k L (bot k L) ls = foldJ k L (bot k L) ls := by unfold rallV; rw [hall]; rfl
        have e2 : rallV k (opp L) (top k L) ls = foldJ k (opp L) (top k L) ls := by unfold rallV; rw [hall]; rfl
        rw [HF1.out] at q1
        rw [HF2.out] at q2
        simp only [Value.tuple.injEq, Array.mk.injEq, List.cons.injEq, Value.int.injEq, true_and, and_true] at q1 q2
        obtain ⟨rfl, rfl⟩ := q1
        obtain ⟨rfl, rfl⟩ := q2
        rw [e1, e2]
        clear e1 e2 hall
        generalize foldJ k L (bot k L) ls = x at *
        generalize foldJ k (opp L) (top k L) ls = y at *
        go_wp2_with fail
        refine wp_region_ord [(0, true), (1, true), (2, true), (3, true), (4, true), (5, true), (6, true), (7, true), (8, true), (9, true), (10, true), (11, true), (12, true), (13, true), (14, true), (15, true), (16, true), (17, true), (18, true), (20, true), (23, true), (24, true), (25, true), (19, false), (21, false), (22, false), (26, false), (27, false), (28, true), (29, true), (30, true), (31, true), (33, true), (34, true), (32, false), (35, false), (36, false), (37, true), (38, true)]
          (fun w' => Rm w' w1.heap.size k L ∧ LatR w' b k L ∧ w1.heap.size < w'.heap.size) (by kernel_rfl) (by kernel_rfl) (by kernel_rfl) rfl (by intro c a d v w h; cases d <;> exact h) ?_
        have hs : Rm w8.drew w1.heap.size k L ∧ LatR w8.drew b k L ∧ w1.heap.size < w8.drew.heap.size := ⟨HM8.out.drew, HL8.out.drew, hs8⟩
        have hI9 : IntsAt w8.drew w8.drew.heap.size (.slice LA ls.length lc) ls := HI8.out.drewN 1
        refine ord_move (some 75) (.int .i64 0) _ _ rfl rfl rfl (by first | exact wanted_none rfl | exact wanted_if rfl rfl rfl rfl) hs rfl ?_
        go_frame
        refine ord_load (some 76) (.bool true) _ rfl rfl (by first | exact wanted_none rfl | exact wanted_if rfl rfl rfl rfl) hs (fun w' _ => by go_simp) ?_
        go_frame
        refine ord_move (some 77) (.bool true) _ _ rfl rfl rfl (by first | exact wanted_none rfl | exact wanted_if rfl rfl rfl rfl) hs rfl ?_
        go_frame
        refine ord_move (some 78) (.int .i64 0) _ _ rfl rfl rfl (by first | exact wanted_none rfl | exact wanted_if rfl rfl rfl rfl) hs rfl ?_
        go_frame
        refine ord_load (some 79) (.bool true) _ rfl rfl (by first | exact wanted_none rfl | exact wanted_if rfl rfl rfl rfl) hs (fun w' _ => by go_simp) ?_
        go_frame
        refine ord_pick (some 80) (.bool true) _ _ _ _ true rfl rfl rfl rfl (by first | exact wanted_none rfl | exact wanted_if rfl rfl rfl rfl) hs rfl ?_
        go_frame
        refine ord_move (some 81) (.bool true) _ _ rfl rfl rfl (by first | exact wanted_none rfl | exact wanted_if rfl rfl rfl rfl) hs rfl ?_
        go_frame
        refine ord_move (some 82) (.int .i64 x) _ _ rfl rfl rfl (by first | exact wanted_none rfl | exact wanted_if rfl rfl rfl rfl) hs rfl ?_
        go_frame
        refine ord_move (some 83) (.int .i64 x) _ _ rfl rfl rfl (by first | exact wanted_none rfl | exact wanted_if rfl rfl rfl rfl) hs rfl ?_
        go_frame
        refine ord_load (some 84) (.bool true) _ rfl rfl (by first | exact wanted_none rfl | exact wanted_if rfl rfl rfl rfl) hs (fun w' _ => by go_simp) ?_
        go_frame
        refine ord_pick (some 85) (.bool true) _ _ _ _ true rfl rfl rfl rfl (by first | exact wanted_none rfl | exact wanted_if rfl rfl rfl rfl) hs rfl ?_
        go_frame
        refine ord_move (some 86) (.bool true) _ _ rfl rfl rfl (by first | exact wanted_none rfl | exact wanted_if rfl rfl rfl rfl) hs rfl ?_
        go_frame
        refine ord_move (some 87) (.int .i64 y) _ _ rfl rfl rfl (by first | exact wanted_none rfl | exact wanted_if rfl rfl rfl rfl) hs rfl ?_
        go_frame
        refine ord_move (some 88) (.int .i64 y) _ _ rfl rfl rfl (by first | exact wanted_none rfl | exact wanted_if rfl rfl rfl rfl) hs rfl ?_
        go_frame
        refine ord_load (some 89) (.bool true) _ rfl rfl (by first | exact wanted_none rfl | exact wanted_if rfl rfl rfl rfl) hs (fun w' _ => by go_simp) ?_
        go_frame
        refine ord_pick (some 90) (.bool true) _ _ _ _ true rfl rfl rfl rfl (by first | exact wanted_none rfl | exact wanted_if rfl rfl rfl rfl) hs rfl ?_
        go_frame
        refine ord_move (some 91) (.bool true) _ _ rfl rfl rfl (by first | exact wanted_none rfl | exact wanted_if rfl rfl rfl rfl) hs rfl ?_
        go_frame
        refine ord_move (some 92) (.pointer (some ⟨b, 0, none⟩)) _ _ rfl rfl rfl (by first | exact wanted_none rfl | exact wanted_if rfl rfl rfl rfl) hs rfl ?_
        go_frame
        refine ord_move (some 93) (.int .i64 a) _ _ rfl rfl rfl (by first | exact wanted_none rfl | exact wanted_if rfl rfl rfl rfl) hs rfl ?_
        go_frame
        refine ord_move (some 95) (.slice LA ls.length lc) _ _ rfl rfl rfl (by first | exact wanted_none rfl | exact wanted_if rfl rfl rfl rfl) hs rfl ?_
        go_frame
        refine ord_load (some 98) (.agg (rv k L)) _ rfl rfl (by first | exact wanted_none rfl | exact wanted_if rfl rfl rfl rfl) hs (fun w' hw' => exec_rload _ _ rfl _ _ _ rfl hw'.1) ?_
        go_frame
        refine ord_move (some 99) (.int .i64 a) _ _ rfl rfl rfl (by first | exact wanted_none rfl | exact wanted_if rfl rfl rfl rfl) hs rfl ?_
        go_frame
        refine ord_move (some 100) (.slice LA ls.length lc) _ _ rfl rfl rfl (by first | exact wanted_none rfl | exact wanted_if rfl rfl rfl rfl) hs rfl ?_
        go_frame
        have hBD := (Below.refl w8.drew.heap.size w8.drew).alloc (Nat.le_refl _) (.cells #[] 3)
        have hW1 := ownsRow_empty w8.drew 3 1 w8.drew.heap.size (Nat.le_refl _)
        have hs9 : Rm (w8.drew.alloc (.cells #[] 3)) w1.heap.size k L ∧ LatR (w8.drew.alloc (.cells #[] 3)) b k L ∧ w1.heap.size < (w8.drew.alloc (.cells #[] 3)).heap.size := ⟨hs.1.below hBD hs.2.2, hs.2.1.here hBD, by have := hs.2.2; have := hBD.size; omega⟩
        refine ord_run (some 94) (.slice (some ⟨w8.drew.heap.size, 0, none⟩) 0 0) (w8.drew.alloc (.cells #[] 3)) _ rfl rfl (by first | exact wanted_none rfl | exact wanted_if rfl rfl rfl rfl) (by go_simp) hs9 ?_
        go_frame
        refine ord_append (some 96) _ _ _ 50 rfl rfl rfl (by first | exact wanted_none rfl | exact wanted_if rfl rfl rfl rfl) w8.drew.heap.size 3 i0 (.int .i64 0) 1 8 Try.underlying50 HI0.out HZ0.out HZ1.out HZ2.out rfl (by decide) _ 0 [] rfl hW1 LA ls.length lc (ints ls) rfl (ints_len ls) (fun h0 => (hI9.below hBD).src h0) (ints_one ls) (by have := H3.out; unfold maxLen; omega) (by have := H3.out; omega) hBD.size ?_
        intro v3 w10 hown hg
        have hb10 : Below w8.drew.heap.size w8.drew w10 := hBD.grown hg hBD.size (fun j hj => (hW1.lt j hj).1)
        have hV3 : IntsAt w10 w10.heap.size v3 ls := IntsAt.of_own (show OwnInts w10 w8.drew.heap.size v3 ls from by simpa [OwnInts] using hown) hlen
        have hs10 : Rm w10 w1.heap.size k L ∧ LatR w10 b k L ∧ w1.heap.size < w10.heap.size := ⟨hs.1.below hb10 hs.2.2, hs.2.1.here hb10, by have := hs.2.2; have := hb10.size; omega⟩
        have hI10 : IntsAt w10 w10.heap.size (.slice LA ls.length lc) ls := (hI9.below hb10).more hb10.size
        refine ⟨hs10, ?_⟩
        go_frame
        refine ord_to (some 97) 42 Try.func42 (by kernel_rfl) (by kernel_rfl) [.pointer (some ⟨b, 0, none⟩), .int .i64 a, v3] _ _ _ rfl rfl rfl (by first | exact wanted_none rfl | exact wanted_if rfl rfl rfl rfl) rfl ?_
        refine (visible_r b k L a v3 ls w10 hs10.2.1 hV3 (by have := H3.out; omega)).mono ?_
        rintro e w11 ⟨v4, rfl, hown11, hb11⟩
        have hs11 : Rm w11 w1.heap.size k L ∧ LatR w11 b k L ∧ w1.heap.size < w11.heap.size := ⟨hs10.1.below hb11 hs10.2.2, hs10.2.1.here hb11, Nat.lt_of_lt_of_le hs10.2.2 hb11.size⟩
        refine ⟨v4, rfl, hs11, ?_⟩
        go_frame
        have hI11 : IntsAt w11 w11.heap.size (.slice LA ls.length lc) ls := (hI10.below hb11).more hb11.size
        refine ord_to (some 101) 43 Try.func43 (by kernel_rfl) (by kernel_rfl) [.agg (rv k L), .int .i64 a, .slice LA ls.length lc] _ _ _ rfl rfl rfl (by first | exact wanted_none rfl | exact wanted_if rfl rfl rfl rfl) rfl ?_
        refine (rvisible_any k L a _ ls w11 h8 hI11 (by have := H3.out; omega)).mono ?_
        rintro e w12 ⟨v5, rfl, hown12, hb12⟩
        have hs12 : Rm w12 w1.heap.size k L ∧ LatR w12 b k L ∧ w1.heap.size < w12.heap.size := ⟨hs11.1.below hb12 hs11.2.2, hs11.2.1.here hb12, Nat.lt_of_lt_of_le hs11.2.2 hb12.size⟩
        refine ⟨v5, rfl, hs12, ?_⟩
        go_frame
        have j1 : IntsAt w12 w12.heap.size v4 (visL k L ls a) := ((IntsAt.of_own hown11 (by have := visL_len k L ls a; omega)).below hb12).more hb12.size
        have j2 : IntsAt w12 w12.heap.size v5 (visL k L ls a) := IntsAt.of_own hown12 (by have := visL_len k L ls a; omega)
        refine ord_to (some 102) 33 Try.func33 (by kernel_rfl) (by kernel_rfl) [v4, v5] _ _ _ rfl rfl rfl (by first | exact wanted_none rfl | exact wanted_if rfl rfl rfl rfl) rfl ?_
        have sm13 := same_any v4 v5 _ _ _ w12 j1 j2
        rw [show (visL k L ls a == visL k L ls a) = true from beq_self_eq_true _] at sm13
        refine sm13.mono ?_
        rintro e w13 ⟨rfl, m13, rfl⟩
        have hs13 : Rm (w12.drewN m13) w1.heap.size k L ∧ LatR (w12.drewN m13) b k L ∧ w1.heap.size < (w12.drewN m13).heap.size := ⟨hs12.1.drewN m13, hs12.2.1.drewN m13, hs12.2.2⟩
        refine ⟨.bool true, rfl, hs13, ?_⟩
        go_frame
        refine ord_pick (some 103) (.bool true) _ _ _ _ true rfl rfl rfl rfl (by first | exact wanted_none rfl | exact wanted_if rfl rfl rfl rfl) hs13 rfl ?_
        go_frame
        refine ord_move (some 104) (.bool true) _ _ rfl rfl rfl (by first | exact wanted_none rfl | exact wanted_if rfl rfl rfl rfl) hs13 rfl ?_
        go_frame
        refine ord_move (some 105) (.pointer (some ⟨b, 0, none⟩)) _ _ rfl rfl rfl (by first | exact wanted_none rfl | exact wanted_if rfl rfl rfl rfl) hs13 rfl ?_
        go_frame
        refine ord_move (some 106) (.int .i64 a) _ _ rfl rfl rfl (by first | exact wanted_none rfl | exact wanted_if rfl rfl rfl rfl) hs13 rfl ?_
        go_frame
        refine ord_load (some 108) (.agg (rv k L)) _ rfl rfl (by first | exact wanted_none rfl | exact wanted_if rfl rfl rfl rfl) hs13 (fun w' hw' => exec_rload _ _ rfl _ _ _ rfl hw'.1) ?_
        go_frame
        refine ord_move (some 109) (.int .i64 a) _ _ rfl rfl rfl (by first | exact wanted_none rfl | exact wanted_if rfl rfl rfl rfl) hs13 rfl ?_
        go_frame
        refine ord_to (some 107) 44 Try.func44 (by kernel_rfl) (by kernel_rfl) [.pointer (some ⟨b, 0, none⟩), .int .i64 a] _ _ _ rfl rfl rfl (by first | exact wanted_none rfl | exact wanted_if rfl rfl rfl rfl) rfl ?_
        refine (high_r b k L a _ hs13.2.1).mono ?_
        rintro e w14 ⟨v6, rfl, hown14, hb14⟩
        have hs14 : Rm w14 w1.heap.size k L ∧ LatR w14 b k L ∧ w1.heap.size < w14.heap.size := ⟨hs13.1.below hb14 hs13.2.2, hs13.2.1.here hb14, Nat.lt_of_lt_of_le hs13.2.2 hb14.size⟩
        refine ⟨v6, rfl, hs14, ?_⟩
        go_frame
        refine ord_to (some 110) 45 Try.func45 (by kernel_rfl) (by kernel_rfl) [.agg (rv k L), .int .i64 a] _ _ _ rfl rfl rfl (by first | exact wanted_none rfl | exact wanted_if rfl rfl rfl rfl) rfl ?_
        refine (rhigh_any k L a w14 h8).mono ?_
        rintro e w15 ⟨v7, rfl, hown15, hb15⟩
        have hs15 : Rm w15 w1.heap.size k L ∧ LatR w15 b k L ∧ w1.heap.size < w15.heap.size := ⟨hs14.1.below hb15 hs14.2.2, hs14.2.1.here hb15, Nat.lt_of_lt_of_le hs14.2.2 hb15.size⟩
        refine ⟨v7, rfl, hs15, ?_⟩
        go_frame
        have j3 : IntsAt w15 w15.heap.size v6 (highL k L a) := ((IntsAt.of_own hown14 (by have := highL_len k L a; omega)).below hb15).more hb15.size
        have j4 : IntsAt w15 w15.heap.size v7 (highL k L a) := IntsAt.of_own hown15 (by have := highL_len k L a; omega)
        refine ord_to (some 111) 33 Try.func33 (by kernel_rfl) (by kernel_rfl) [v6, v7] _ _ _ rfl rfl rfl (by first | exact wanted_none rfl | exact wanted_if rfl rfl rfl rfl) rfl ?_
        have sm16 := same_any v6 v7 _ _ _ w15 j3 j4
        rw [show (highL k L a == highL k L a) = true from beq_self_eq_true _] at sm16
        refine sm16.mono ?_
        rintro e w16 ⟨rfl, m16, rfl⟩
        have hs16 : Rm (w15.drewN m16) w1.heap.size k L ∧ LatR (w15.drewN m16) b k L ∧ w1.heap.size < (w15.drewN m16).heap.size := ⟨hs15.1.drewN m16, hs15.2.1.drewN m16, hs15.2.2⟩
        refine ⟨.bool true, rfl, hs16, ?_⟩
        go_frame
        refine ord_pick (some 112) (.bool true) _ _ _ _ true rfl rfl rfl rfl (by first | exact wanted_none rfl | exact wanted_if rfl rfl rfl rfl) hs16 rfl ?_
        go_frame
        refine ord_assign (some 8) (.bool true) _ _ rfl rfl rfl (by first | exact wanted_none rfl | exact wanted_if rfl rfl rfl rfl) hs16 rfl ?_
        go_frame
        refine ord_end ?_
        have HBZ : Hid (Below w.heap.size w (w15.drewN m16)) := by
          have z8 : w.heap.size ≤ w8.drew.heap.size := HB8.out.size
          have z10 : w.heap.size ≤ w10.heap.size := Nat.le_trans z8 hb10.size
          have z11 : w.heap.size ≤ w11.heap.size := Nat.le_trans z10 hb11.size
          have z12 : w.heap.size ≤ w12.heap.size := Nat.le_trans z11 hb12.size
          have z14 : w.heap.size ≤ w14.heap.size := Nat.le_trans z12 hb14.size
          exact Lib.hid (below_drewN (((below_drewN (((HB8.out.drew.trans (hb10.mono z8)).trans (hb11.mono z10)).trans (hb12.mono z11)) m13).trans (hb14.mono z12)).trans (hb15.mono z14)) m16)
        clear hs hs9 hs10 hs11 hs12 hs13 hs14 hs15 hs16 hb10 hb11 hb12 hb14 hb15 hI9 hI10 hI11 j1 j2 j3 j4 hV3 hBD hW1 sm13 sm16
        go_simp
        go_wp2
        go_ret
        exact ⟨rfl, HBZ.out⟩

set_option maxRecDepth 100000 in
/-- the row's step, argument by argument -/
theorem labelFolds_lifted (os : Os) (started : os.Started) (H : Type) (enc : TypeId × Value → H) :
    ReturnsInHanded {} Try.checked os 9 .any (Rows.labelFoldsSpec.pre6 enc Try.prog Try.f9 Rows.labelFoldsRow.domain false) (Rows.labelFoldsSpec.post enc Try.prog Try.f9 false true false false) := by
  refine returnsInHanded_of_change (C := Try.checked) own started (by kernel_rfl) Try.func9
    (ChangeSpec.witness6 (enc := enc) (C := Try.checked) false ⟨#[], #[.int .i64 0, .slice none 0 0, .slice none 0 0, .int .i64 0], []⟩ 8 (by kernel_rfl) (by kernel_rfl) (by kernel_rfl) (by kernel_rfl)) ?_
  intro W base args ds gs before hval0 hW hcnd _
  have hval : ∀ (j : Nat) t v, Try.f9.params[j]? = some t → args[j]? = some v → Value.okWide Try.prog W .any base t v := hval0
  have hW' := hW
  obtain ⟨p, q, hA0, hV, rfl, hfz, hnd⟩ := hW
  have hA : DataW.TrodAll enc Try.prog W 0 (fun _ => true) true Try.f9.params.toList args.toList ds p := hA0
  rw [Try.params9] at hA hval
  obtain ⟨v0, vs0, d0, ds0, p0, q0, hargs, rfl, rfl, h0, r0⟩ := trodAll_cons hA
  obtain ⟨v1, vs1, d1, ds1, p1, q1, rfl, rfl, rfl, h1, r1⟩ := trodAll_cons r0
  obtain ⟨v2, vs2, d2, ds2, p2, q2, rfl, rfl, rfl, h2, r2⟩ := trodAll_cons r1
  obtain ⟨v3, vs3, d3, ds3, p3, q3, rfl, rfl, rfl, h3, r3⟩ := trodAll_cons r2
  obtain ⟨rfl, rfl, rfl⟩ := trodAll_nil r3
  obtain rfl : args = #[v0, v1, v2, v3] := by cases args; simp_all
  obtain ⟨rfl, rfl⟩ := trodVars_none hV
  obtain ⟨a0, rfl, rfl, rfl, w0⟩ := open_int Try.underlying3 (hval 0 3 v0 rfl rfl) h0
  obtain ⟨a1, len1, cap1, rfl⟩ := okWide_slice Try.underlying22 (hval 1 22 v1 rfl rfl)
  have k1 := h1
  have lt1 := lt_of_trod k1
  obtain ⟨z1, l1, w1⟩ := open_pairs h1
  obtain ⟨a2, len2, cap2, rfl⟩ := okWide_slice Try.underlying50 (hval 2 50 v2 rfl rfl)
  have k2 := h2
  have lt2 := lt_of_trod k2
  obtain ⟨z2, l2, w2⟩ := open_nums h2
  obtain ⟨a3, rfl, rfl, rfl, w3⟩ := open_int Try.underlying3 (hval 3 3 v3 rfl rfl) h3
  clear hA0 hval0
  refine (labelFolds_walk W a0 w0 a1 len1 cap1 z1 l1 w1 _ z2 w2 a3 w3).mono fun e W' ⟨he, bel⟩ => ?_
  subst he
  exact ⟨_, rfl, _, _, _, [], _, [], hW', trodAll_mk1 (shut_bool Try.underlying4 _), (trodAll_cons_mk (shut_int Try.underlying3 w0) (trodAll_cons_mk (Below.trod laidOut (by kernel_rfl) (of_decide_eq_true (by kernel_rfl)) k1 bel lt1) (trodAll_cons_mk (Below.trod laidOut (by kernel_rfl) (of_decide_eq_true (by kernel_rfl)) k2 bel lt2) (trodAll_cons_mk (shut_int Try.underlying3 w3) trodAll_mk0)))), rfl, bel.frame _, fun h => by cases h⟩

theorem labelFolds_proved : Rows.LabelFoldsSaid :=
  OpenClaim.holds_of_wide 9 Try.f9 rfl rfl rfl rfl rfl rfl rfl ⟨rfl, rfl, rfl, rfl, rfl⟩ rfl rfl rfl rfl rfl (by kernel_rfl) Try.func9 (by kernel_rfl)
    (of_decide_eq_true (by kernel_rfl)) (by unfold Func.isWrapper; first | (rw [if_pos (by decide +kernel)]; kernel_rfl) | (rw [if_neg (by decide +kernel)]; exact ⟨rfl, rfl⟩))
    (fun os started H enc _ => labelFolds_lifted os started H enc)
#print axioms labelFolds_proved

end Go.Proofs.Ytpikafadfailkaa
