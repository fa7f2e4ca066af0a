/- Parts of a proof: MSamW. -/
import Derived.Test.YtpmjcbjdcjjplaaGreatPack39
import Derived.Test.YtpmjcbjdcjjplaaGreatPack41
import Derived.Test.YtpmjcbjdcjjplaaGreatPack42
import Derived.Test.YtpmjcbjdcjjplaaGreatPack44
import Derived.Test.YtpmjcbjdcjjplaaGreatPack52
namespace Go.Proofs.YtpmjcbjdcjjplaaGreat
open Go Go.RowKit
set_option linter.unusedVariables false
set_option linter.unusedSimpArgs false
theorem fitMM_of {m : ModelT} (h : FitM0 m) (s : SmallM m) : FitMM m :=
  ⟨by have := s.order; omega, by have := s.grants; omega, by have := s.vars; omega, by have := s.msgs; omega, by have := s.nodes; omega, h.1, h.2.1, fun x hx => by
    obtain ⟨i, hi⟩ := List.mem_iff_getElem?.1 hx
    have h1 := s.next i x hi
    have h2 := h.2.2 x hx
    exact ⟨by omega, by omega, h2.1, h2.2.1, h2.2.2⟩⟩
def NM (z : World) (B : Option Addr) (l : List VarT) (i : Nat) : Prop := ∀ b o, B = some ⟨b, o, none⟩ → ∀ j x, i ≤ j → l[j]? = some x → z.cell? ⟨b, o + j * 11, none⟩ = some (.string x.name)
theorem NM.int {z : World} {B : Option Addr} {l : List VarT} {i : Nat} (h : NM z B l i) {b o : Nat} {j : Int} (hc : z.cell? ⟨b, o, none⟩ = some (.int .i64 j)) (k : Int) : NM (z.setCell ⟨b, o, none⟩ (.int .i64 k)) B l i :=
  fun b' o' e n x hn hx => str_stays (h b' o' e n x hn hx) hc
theorem NM.str {z : World} {b o : Nat} {l : List VarT} {i : Nat} (h : NM z (some ⟨b, o, none⟩) l i) (s : ByteArray) : NM (z.setCell ⟨b, o + i * 11, none⟩ (.string s)) (some ⟨b, o, none⟩) l (i + 1) := by
  intro b' o' e n x hn hx
  injection e with e
  injection e with e1 e2
  subst e1 e2
  exact (World.cell?_setCell_other _ _ _ _ (by intro e; injection e with _ e _; omega)).trans (h b o rfl n x (by omega) hx)
theorem LikeV.int (i j : Int) : LikeV (.int .i64 i) (.int .i64 j) := .inr (.inl ⟨_, _, _, rfl, rfl⟩)
theorem LikeV.str (s t : ByteArray) : LikeV (.string s) (.string t) := .inr (.inr ⟨_, _, rfl, rfl⟩)
theorem info_zeroM {P : Program} {T : TypeId} {n : Nat} (h : ((P.info? T).bind fun j => j.zero.map fun z => (z.cells.size, j.size)) = some (n, n)) : ∃ j z zc, P.info? T = some j ∧ j.zero = some z ∧ z.cells = ⟨zc⟩ ∧ zc.length = n ∧ j.size = n := by
  obtain ⟨j, z, h1, h2, h3, h4⟩ := info_zero h
  exact ⟨j, z, z.cells.toList, h1, h2, rfl, by simpa using h3, h4⟩
set_option maxHeartbeats 16000000 in
set_option maxRecDepth 100000 in
theorem modelSame_walk (w : World) (X : List Value) (m : ModelT) (hx : ModelAt w w.heap.size X m) (fx : FitM0 m) (Y : List Value) (n : ModelT) (hy : ModelAt w w.heap.size Y n) (fy : FitM0 n) :
    Calls Tryz.prog 3 #[.agg ⟨X⟩, .agg ⟨Y⟩] w fun e w' => e = .returned (.bool true) ∧ Below w.heap.size w w' := by
  have HXM := Lib.hid hx
  have HYM := Lib.hid hy
  have HFX := Lib.hid fx
  have HLX := Lib.hid (mod_lenM hx)
  have HLY := Lib.hid (mod_lenM hy)
  clear hx hy fx fy
  go_enter Tryz.func3, Tryz.ntmps3
  go_upto_region 1 with (fail)
  have HTB := Lib.hid (twoP_start 27 w X Y)
  generalize (w.alloc (.cells ⟨X⟩ 27)).alloc (.cells ⟨Y⟩ 27) = W at *
  obtain ⟨pb, hpb⟩ : ∃ pb, w.heap.size + 1 = pb := ⟨_, rfl⟩
  rw [hpb] at HTB
  rw [hpb]
  clear hpb
  go_wp2_with (go_at_call 4; fail)
  refine (awake12 _).mono ?_
  rintro e w2 ⟨rfl, hb2⟩
  have HT2 := Lib.hid (HTB.out.on hb2)
  clear hb2
  go_wp2_with (first | ((with_reducible refine wl_sload 27 _ rfl ?hwl1 (w.heap.size) (0) (X) _ rfl HT2.out.a.range Tryz.underlying27 rfl ?hil1 ?_); (case hwl1 => (exact wantA rfl)); (case hil1 => rw [HLX.out]; kernel_rfl)) | (go_at_call 5; fail))
  refine (msmall m _ w2 (HXM.out.next HT2.out.bel)).mono ?_
  rintro e w3 ⟨b, rfl, hb3, hsm⟩
  have HT3 := Lib.hid (HT2.out.on hb3)
  clear hb3
  cases b with
  | false =>
    clear hsm
    go_wp2_with (go_at_call 4; fail)
    refine (awake12 _).mono ?_
    rintro e w9 ⟨rfl, hb9⟩
    have HB9 := Lib.hid hb9
    clear hb9
    go_wp2
    go_ret
    exact ⟨rfl, HT3.out.bel.trans (HB9.out.mono HT3.out.bel.size)⟩
  | true =>
  have HSM := Lib.hid (hsm rfl)
  clear hsm
  go_wp2_with (first | ((with_reducible refine wl_sload 27 _ rfl ?hwl2 (pb) (0) (Y) _ rfl HT3.out.b.range Tryz.underlying27 rfl ?hil2 ?_); (case hwl2 => (exact wantA rfl)); (case hil2 => rw [HLY.out]; kernel_rfl)) | (go_at_call 5; fail))
  refine (msmall n _ w3 (HYM.out.next HT3.out.bel)).mono ?_
  rintro e w4 ⟨b, rfl, hb4, hsm⟩
  have HT4 := Lib.hid (HT3.out.on hb4)
  clear hb4 hsm
  cases b with
  | false =>
    go_wp2_with (go_at_call 4; fail)
    refine (awake12 _).mono ?_
    rintro e w9 ⟨rfl, hb9⟩
    have HB9 := Lib.hid hb9
    clear hb9
    go_wp2
    go_ret
    exact ⟨rfl, HT4.out.bel.trans (HB9.out.mono HT4.out.bel.size)⟩
  | true =>
  have HFM := Lib.hid (fitMM_of HFX.out HSM.out)
  clear HTB HT2 HT3
  go_upto_region 3 with (fail)
  refine wp_region_ord [(0, true), (1, true), (3, true), (4, true), (2, false), (5, false), (6, true)] (fun z => Below w4.heap.size w4 z) (by kernel_rfl) (by kernel_rfl) (by kernel_rfl) rfl (by intro c a d v w h; cases d <;> exact h) ?_
  have hs : Below w4.heap.size w4 w4.drew := (Below.refl _ _).drew
  obtain ⟨wd, hwd⟩ : ∃ z, z = w4.drew := ⟨_, rfl⟩
  rw [← hwd] at hs ⊢
  clear hwd
  refine ord_load (some 23) (.agg ⟨X⟩) _ rfl rfl (by exact wantA rfl) hs (fun z hz => exec_sload 27 rfl w.heap.size 0 X _ rfl ((HT4.out.on hz).a.range) Tryz.underlying27 rfl (by rw [HLX.out]; kernel_rfl)) ?_
  go_frame
  refine ord_load (some 24) (.agg ⟨Y⟩) _ rfl rfl (by exact wantA rfl) hs (fun z hz => exec_sload 27 rfl pb 0 Y _ rfl ((HT4.out.on hz).b.range) Tryz.underlying27 rfl (by rw [HLY.out]; kernel_rfl)) ?_
  go_frame
  refine ord_load (some 26) (.agg ⟨X⟩) _ rfl rfl (by exact wantA rfl) hs (fun z hz => exec_sload 27 rfl w.heap.size 0 X _ rfl ((HT4.out.on hz).a.range) Tryz.underlying27 rfl (by rw [HLX.out]; kernel_rfl)) ?_
  go_frame
  refine ord_load (some 27) (.agg ⟨Y⟩) _ rfl rfl (by exact wantA rfl) hs (fun z hz => exec_sload 27 rfl pb 0 Y _ rfl ((HT4.out.on hz).b.range) Tryz.underlying27 rfl (by rw [HLY.out]; kernel_rfl)) ?_
  go_frame
  obtain ⟨sb, hsb⟩ : ∃ b, sameM m n = b := ⟨_, rfl⟩
  have hq : (sb != sb) = false := by cases sb <;> rfl
  refine ord_to (some 25) 6 Tryz.func6 (by kernel_rfl) (by kernel_rfl) [.agg ⟨X⟩, .agg ⟨Y⟩] _ _ _ rfl rfl rfl (by exact wantA rfl) rfl ?_
  refine (msame_any m n X Y _ ((HXM.out.next (HT4.out.bel.trans (hs.mono HT4.out.bel.size)))) ((HYM.out.next (HT4.out.bel.trans (hs.mono HT4.out.bel.size))))).mono ?_
  rintro e z1 ⟨rfl, hb⟩
  rw [hsb]
  have hs1 : Below w4.heap.size w4 z1 := hs.trans (hb.mono hs.size)
  refine ⟨_, rfl, hs1, ?_⟩
  go_frame
  clear hb
  refine ord_to (some 28) 7 Tryz.func7 (by kernel_rfl) (by kernel_rfl) [.agg ⟨X⟩, .agg ⟨Y⟩] _ _ _ rfl rfl rfl (by exact wantA rfl) rfl ?_
  refine (rmsame_any m n X Y _ ((HXM.out.next (HT4.out.bel.trans (hs1.mono HT4.out.bel.size)))) ((HYM.out.next (HT4.out.bel.trans (hs1.mono HT4.out.bel.size))))).mono ?_
  rintro e z2 ⟨rfl, hb⟩
  rw [hsb]
  have hs2 : Below w4.heap.size w4 z2 := hs1.trans (hb.mono hs1.size)
  refine ⟨_, rfl, hs2, ?_⟩
  go_frame
  clear hb hs hs1
  have hs := hs2
  clear hs2 hsb
  refine ord_load (some 29) (.bool false) _ rfl rfl (by exact wantA rfl) hs (fun z hz => by go_simp) ?_
  go_frame
  refine ord_end ?_
  have HT5 := Lib.hid (HT4.out.on hs)
  clear hs hq
  go_upto_region 5 with (fail)
  go_cut [5, 6] (fun px py z => ∃ p q u1 w1 u2 w2 cs1 cs2, px = .pointer (some ⟨p, 0, none⟩) ∧ py = .pointer (some ⟨q, 0, none⟩) ∧ FinO m 27 z2 z p q u1 w1 u2 w2 cs1 cs2)
  case first =>
    refine wp_region_treu (.take 0 (.take 2 (.three 1 4 5 (.three 3 4 5 (.two 4 5 (.act 5 (.act 6 (.act 7 .done))) (.act 4 (.act 6 (.act 7 .done)))) (.two 3 5 (.act 5 (.act 6 (.act 7 .done))) (.act 3 (.act 6 (.act 7 .done)))) (.two 3 4 (.act 4 (.act 6 (.act 7 .done))) (.act 3 (.act 6 (.act 7 .done))))) (.two 1 5 (.two 3 5 (.act 5 (.act 6 (.act 7 .done))) (.act 3 (.act 6 (.act 7 .done)))) (.act 1 (.act 3 (.act 6 (.act 7 .done))))) (.two 1 4 (.two 3 4 (.act 4 (.act 6 (.act 7 .done))) (.act 3 (.act 6 (.act 7 .done)))) (.act 1 (.act 3 (.act 6 (.act 7 .done)))))))) (fun z => Below z2.heap.size z2 z) (by kernel_rfl) (by kernel_rfl) (by kernel_rfl) rfl (by intro c a d v w h; cases d <;> exact h) ?_
    have hs : Below z2.heap.size z2 z2.drew := (Below.refl _ _).drew
    obtain ⟨wd, hwd⟩ : ∃ z, z = z2.drew := ⟨_, rfl⟩
    rw [← hwd] at hs ⊢
    clear hwd
    refine treu_load (some 30) (.agg ⟨X⟩) _ rfl rfl (by exact wantA rfl) hs (fun z hz => exec_sload 27 rfl w.heap.size 0 X _ rfl ((HT5.out.on hz).a.range) Tryz.underlying27 rfl (by rw [HLX.out]; kernel_rfl)) ?_
    go_frame
    refine treu_load (some 32) (.agg ⟨X⟩) _ rfl rfl (by exact wantA rfl) hs (fun z hz => exec_sload 27 rfl w.heap.size 0 X _ rfl ((HT5.out.on hz).a.range) Tryz.underlying27 rfl (by rw [HLX.out]; kernel_rfl)) ?_
    go_frame
    obtain ⟨jt, zt, zc, hi1, hi2, hi3, hi4, _⟩ := info_zeroM (P := Tryz.prog) (T := 27) (n := 6) (by kernel_rfl)
    have HZ1 := Lib.hid hi1
    have HZ2 := Lib.hid hi2
    have HZ3 := Lib.hid hi3
    have HZL := Lib.hid hi4
    clear hi1 hi2 hi3 hi4
    have hst := OwnS.start m 27 zc z2 wd hs
    clear hs
    refine ⟨?_, ?_, ?_⟩
    · refine op_to 31 8 Tryz.func8 (by kernel_rfl) (by kernel_rfl) [.agg ⟨X⟩] rfl rfl rfl (by exact wantA rfl) rfl ?_
      refine (mown_any m X _ HFM.out (HXM.out.next (HT5.out.bel.trans (hst.bel.mono HT5.out.bel.size)))).mono ?_
      rintro e V0 ⟨cs0, rfl, hk, hb, ht⟩
      replace hst := hst.call1 hb hk ht
      clear hb hk ht
      refine ⟨_, rfl, hst.bel, ?_⟩
      go_frame
      refine ⟨?_, ?_, ?_⟩
      · refine op_to 33 8 Tryz.func8 (by kernel_rfl) (by kernel_rfl) [.agg ⟨X⟩] rfl rfl rfl (by exact wantA rfl) rfl ?_
        refine (mown_any m X _ HFM.out (HXM.out.next (HT5.out.bel.trans (hst.bel.mono HT5.out.bel.size)))).mono ?_
        rintro e V1 ⟨cs1, rfl, hk, hb, ht⟩
        replace hst := hst.call2 hb hk ht
        clear hb hk ht
        refine ⟨_, rfl, hst.bel, ?_⟩
        go_frame
        refine ⟨?_, ?_⟩
        · refine op_boxM 5 27 jt zt zc rfl rfl rfl (by exact wantA rfl) HZ1.out HZ2.out HZ3.out ⟨(hst.boxA).bel, ?_⟩
          replace hst := hst.boxA
          go_frame
          refine op_boxM 6 27 jt zt zc rfl rfl rfl (by exact wantA rfl) HZ1.out HZ2.out HZ3.out ⟨(hst.boxB).bel, ?_⟩
          replace hst := hst.boxB
          go_frame
          obtain ⟨th1, th2, hb3, hf⟩ := hst.fin (by rw [HZL.out, mod_lenM (hst.r1 (by decide)).1.kept]) (by rw [HZL.out, mod_lenM (hst.r2 (by decide)).1.kept])
          refine op_sstore 27 rfl rfl rfl rfl _ 0 _ rfl rfl th1 (by rw [mod_lenM (hst.r1 (by decide)).1.kept]; kernel_rfl) (mod_oneM (hst.r1 (by decide)).1.kept) ⟨hb3, ?_⟩
          refine op_sstore 27 rfl rfl rfl rfl _ 0 _ rfl rfl th2 (by rw [mod_lenM (hst.r2 (by decide)).1.kept]; kernel_rfl) (mod_oneM (hst.r2 (by decide)).1.kept) ⟨hf.bel, ?_⟩
          clear hst th1 th2 hb3
          refine treu_end ?_
          go_wp2
          go_meet
          case rel => exact ⟨_, _, _, _, _, _, _, _, rfl, rfl, hf⟩
        · refine op_boxM 6 27 jt zt zc rfl rfl rfl (by exact wantA rfl) HZ1.out HZ2.out HZ3.out ⟨(hst.boxB).bel, ?_⟩
          replace hst := hst.boxB
          go_frame
          refine op_boxM 5 27 jt zt zc rfl rfl rfl (by exact wantA rfl) HZ1.out HZ2.out HZ3.out ⟨(hst.boxA).bel, ?_⟩
          replace hst := hst.boxA
          go_frame
          obtain ⟨th1, th2, hb3, hf⟩ := hst.fin (by rw [HZL.out, mod_lenM (hst.r1 (by decide)).1.kept]) (by rw [HZL.out, mod_lenM (hst.r2 (by decide)).1.kept])
          refine op_sstore 27 rfl rfl rfl rfl _ 0 _ rfl rfl th1 (by rw [mod_lenM (hst.r1 (by decide)).1.kept]; kernel_rfl) (mod_oneM (hst.r1 (by decide)).1.kept) ⟨hb3, ?_⟩
          refine op_sstore 27 rfl rfl rfl rfl _ 0 _ rfl rfl th2 (by rw [mod_lenM (hst.r2 (by decide)).1.kept]; kernel_rfl) (mod_oneM (hst.r2 (by decide)).1.kept) ⟨hf.bel, ?_⟩
          clear hst th1 th2 hb3
          refine treu_end ?_
          go_wp2
          go_meet
          case rel => exact ⟨_, _, _, _, _, _, _, _, rfl, rfl, hf⟩
      · refine op_boxM 5 27 jt zt zc rfl rfl rfl (by exact wantA rfl) HZ1.out HZ2.out HZ3.out ⟨(hst.boxA).bel, ?_⟩
        replace hst := hst.boxA
        go_frame
        refine ⟨?_, ?_⟩
        · refine op_to 33 8 Tryz.func8 (by kernel_rfl) (by kernel_rfl) [.agg ⟨X⟩] rfl rfl rfl (by exact wantA rfl) rfl ?_
          refine (mown_any m X _ HFM.out (HXM.out.next (HT5.out.bel.trans (hst.bel.mono HT5.out.bel.size)))).mono ?_
          rintro e V2 ⟨cs2, rfl, hk, hb, ht⟩
          replace hst := hst.call2 hb hk ht
          clear hb hk ht
          refine ⟨_, rfl, hst.bel, ?_⟩
          go_frame
          refine op_boxM 6 27 jt zt zc rfl rfl rfl (by exact wantA rfl) HZ1.out HZ2.out HZ3.out ⟨(hst.boxB).bel, ?_⟩
          replace hst := hst.boxB
          go_frame
          obtain ⟨th1, th2, hb3, hf⟩ := hst.fin (by rw [HZL.out, mod_lenM (hst.r1 (by decide)).1.kept]) (by rw [HZL.out, mod_lenM (hst.r2 (by decide)).1.kept])
          refine op_sstore 27 rfl rfl rfl rfl _ 0 _ rfl rfl th1 (by rw [mod_lenM (hst.r1 (by decide)).1.kept]; kernel_rfl) (mod_oneM (hst.r1 (by decide)).1.kept) ⟨hb3, ?_⟩
          refine op_sstore 27 rfl rfl rfl rfl _ 0 _ rfl rfl th2 (by rw [mod_lenM (hst.r2 (by decide)).1.kept]; kernel_rfl) (mod_oneM (hst.r2 (by decide)).1.kept) ⟨hf.bel, ?_⟩
          clear hst th1 th2 hb3
          refine treu_end ?_
          go_wp2
          go_meet
          case rel => exact ⟨_, _, _, _, _, _, _, _, rfl, rfl, hf⟩
        · refine op_boxM 6 27 jt zt zc rfl rfl rfl (by exact wantA rfl) HZ1.out HZ2.out HZ3.out ⟨(hst.boxB).bel, ?_⟩
          replace hst := hst.boxB
          go_frame
          refine op_to 33 8 Tryz.func8 (by kernel_rfl) (by kernel_rfl) [.agg ⟨X⟩] rfl rfl rfl (by exact wantA rfl) rfl ?_
          refine (mown_any m X _ HFM.out (HXM.out.next (HT5.out.bel.trans (hst.bel.mono HT5.out.bel.size)))).mono ?_
          rintro e V3 ⟨cs3, rfl, hk, hb, ht⟩
          replace hst := hst.call2 hb hk ht
          clear hb hk ht
          refine ⟨_, rfl, hst.bel, ?_⟩
          go_frame
          obtain ⟨th1, th2, hb3, hf⟩ := hst.fin (by rw [HZL.out, mod_lenM (hst.r1 (by decide)).1.kept]) (by rw [HZL.out, mod_lenM (hst.r2 (by decide)).1.kept])
          refine op_sstore 27 rfl rfl rfl rfl _ 0 _ rfl rfl th1 (by rw [mod_lenM (hst.r1 (by decide)).1.kept]; kernel_rfl) (mod_oneM (hst.r1 (by decide)).1.kept) ⟨hb3, ?_⟩
          refine op_sstore 27 rfl rfl rfl rfl _ 0 _ rfl rfl th2 (by rw [mod_lenM (hst.r2 (by decide)).1.kept]; kernel_rfl) (mod_oneM (hst.r2 (by decide)).1.kept) ⟨hf.bel, ?_⟩
          clear hst th1 th2 hb3
          refine treu_end ?_
          go_wp2
          go_meet
          case rel => exact ⟨_, _, _, _, _, _, _, _, rfl, rfl, hf⟩
      · refine op_boxM 6 27 jt zt zc rfl rfl rfl (by exact wantA rfl) HZ1.out HZ2.out HZ3.out ⟨(hst.boxB).bel, ?_⟩
        replace hst := hst.boxB
        go_frame
        refine ⟨?_, ?_⟩
        · refine op_to 33 8 Tryz.func8 (by kernel_rfl) (by kernel_rfl) [.agg ⟨X⟩] rfl rfl rfl (by exact wantA rfl) rfl ?_
          refine (mown_any m X _ HFM.out (HXM.out.next (HT5.out.bel.trans (hst.bel.mono HT5.out.bel.size)))).mono ?_
          rintro e V2 ⟨cs2, rfl, hk, hb, ht⟩
          replace hst := hst.call2 hb hk ht
          clear hb hk ht
          refine ⟨_, rfl, hst.bel, ?_⟩
          go_frame
          refine op_boxM 5 27 jt zt zc rfl rfl rfl (by exact wantA rfl) HZ1.out HZ2.out HZ3.out ⟨(hst.boxA).bel, ?_⟩
          replace hst := hst.boxA
          go_frame
          obtain ⟨th1, th2, hb3, hf⟩ := hst.fin (by rw [HZL.out, mod_lenM (hst.r1 (by decide)).1.kept]) (by rw [HZL.out, mod_lenM (hst.r2 (by decide)).1.kept])
          refine op_sstore 27 rfl rfl rfl rfl _ 0 _ rfl rfl th1 (by rw [mod_lenM (hst.r1 (by decide)).1.kept]; kernel_rfl) (mod_oneM (hst.r1 (by decide)).1.kept) ⟨hb3, ?_⟩
          refine op_sstore 27 rfl rfl rfl rfl _ 0 _ rfl rfl th2 (by rw [mod_lenM (hst.r2 (by decide)).1.kept]; kernel_rfl) (mod_oneM (hst.r2 (by decide)).1.kept) ⟨hf.bel, ?_⟩
          clear hst th1 th2 hb3
          refine treu_end ?_
          go_wp2
          go_meet
          case rel => exact ⟨_, _, _, _, _, _, _, _, rfl, rfl, hf⟩
        · refine op_boxM 5 27 jt zt zc rfl rfl rfl (by exact wantA rfl) HZ1.out HZ2.out HZ3.out ⟨(hst.boxA).bel, ?_⟩
          replace hst := hst.boxA
          go_frame
          refine op_to 33 8 Tryz.func8 (by kernel_rfl) (by kernel_rfl) [.agg ⟨X⟩] rfl rfl rfl (by exact wantA rfl) rfl ?_
          refine (mown_any m X _ HFM.out (HXM.out.next (HT5.out.bel.trans (hst.bel.mono HT5.out.bel.size)))).mono ?_
          rintro e V3 ⟨cs3, rfl, hk, hb, ht⟩
          replace hst := hst.call2 hb hk ht
          clear hb hk ht
          refine ⟨_, rfl, hst.bel, ?_⟩
          go_frame
          obtain ⟨th1, th2, hb3, hf⟩ := hst.fin (by rw [HZL.out, mod_lenM (hst.r1 (by decide)).1.kept]) (by rw [HZL.out, mod_lenM (hst.r2 (by decide)).1.kept])
          refine op_sstore 27 rfl rfl rfl rfl _ 0 _ rfl rfl th1 (by rw [mod_lenM (hst.r1 (by decide)).1.kept]; kernel_rfl) (mod_oneM (hst.r1 (by decide)).1.kept) ⟨hb3, ?_⟩
          refine op_sstore 27 rfl rfl rfl rfl _ 0 _ rfl rfl th2 (by rw [mod_lenM (hst.r2 (by decide)).1.kept]; kernel_rfl) (mod_oneM (hst.r2 (by decide)).1.kept) ⟨hf.bel, ?_⟩
          clear hst th1 th2 hb3
          refine treu_end ?_
          go_wp2
          go_meet
          case rel => exact ⟨_, _, _, _, _, _, _, _, rfl, rfl, hf⟩
    · refine op_boxM 5 27 jt zt zc rfl rfl rfl (by exact wantA rfl) HZ1.out HZ2.out HZ3.out ⟨(hst.boxA).bel, ?_⟩
      replace hst := hst.boxA
      go_frame
      refine ⟨?_, ?_⟩
      · refine op_to 31 8 Tryz.func8 (by kernel_rfl) (by kernel_rfl) [.agg ⟨X⟩] rfl rfl rfl (by exact wantA rfl) rfl ?_
        refine (mown_any m X _ HFM.out (HXM.out.next (HT5.out.bel.trans (hst.bel.mono HT5.out.bel.size)))).mono ?_
        rintro e V1 ⟨cs1, rfl, hk, hb, ht⟩
        replace hst := hst.call1 hb hk ht
        clear hb hk ht
        refine ⟨_, rfl, hst.bel, ?_⟩
        go_frame
        refine ⟨?_, ?_⟩
        · refine op_to 33 8 Tryz.func8 (by kernel_rfl) (by kernel_rfl) [.agg ⟨X⟩] rfl rfl rfl (by exact wantA rfl) rfl ?_
          refine (mown_any m X _ HFM.out (HXM.out.next (HT5.out.bel.trans (hst.bel.mono HT5.out.bel.size)))).mono ?_
          rintro e V2 ⟨cs2, rfl, hk, hb, ht⟩
          replace hst := hst.call2 hb hk ht
          clear hb hk ht
          refine ⟨_, rfl, hst.bel, ?_⟩
          go_frame
          refine op_boxM 6 27 jt zt zc rfl rfl rfl (by exact wantA rfl) HZ1.out HZ2.out HZ3.out ⟨(hst.boxB).bel, ?_⟩
          replace hst := hst.boxB
          go_frame
          obtain ⟨th1, th2, hb3, hf⟩ := hst.fin (by rw [HZL.out, mod_lenM (hst.r1 (by decide)).1.kept]) (by rw [HZL.out, mod_lenM (hst.r2 (by decide)).1.kept])
          refine op_sstore 27 rfl rfl rfl rfl _ 0 _ rfl rfl th1 (by rw [mod_lenM (hst.r1 (by decide)).1.kept]; kernel_rfl) (mod_oneM (hst.r1 (by decide)).1.kept) ⟨hb3, ?_⟩
          refine op_sstore 27 rfl rfl rfl rfl _ 0 _ rfl rfl th2 (by rw [mod_lenM (hst.r2 (by decide)).1.kept]; kernel_rfl) (mod_oneM (hst.r2 (by decide)).1.kept) ⟨hf.bel, ?_⟩
          clear hst th1 th2 hb3
          refine treu_end ?_
          go_wp2
          go_meet
          case rel => exact ⟨_, _, _, _, _, _, _, _, rfl, rfl, hf⟩
        · refine op_boxM 6 27 jt zt zc rfl rfl rfl (by exact wantA rfl) HZ1.out HZ2.out HZ3.out ⟨(hst.boxB).bel, ?_⟩
          replace hst := hst.boxB
          go_frame
          refine op_to 33 8 Tryz.func8 (by kernel_rfl) (by kernel_rfl) [.agg ⟨X⟩] rfl rfl rfl (by exact wantA rfl) rfl ?_
          refine (mown_any m X _ HFM.out (HXM.out.next (HT5.out.bel.trans (hst.bel.mono HT5.out.bel.size)))).mono ?_
          rintro e V3 ⟨cs3, rfl, hk, hb, ht⟩
          replace hst := hst.call2 hb hk ht
          clear hb hk ht
          refine ⟨_, rfl, hst.bel, ?_⟩
          go_frame
          obtain ⟨th1, th2, hb3, hf⟩ := hst.fin (by rw [HZL.out, mod_lenM (hst.r1 (by decide)).1.kept]) (by rw [HZL.out, mod_lenM (hst.r2 (by decide)).1.kept])
          refine op_sstore 27 rfl rfl rfl rfl _ 0 _ rfl rfl th1 (by rw [mod_lenM (hst.r1 (by decide)).1.kept]; kernel_rfl) (mod_oneM (hst.r1 (by decide)).1.kept) ⟨hb3, ?_⟩
          refine op_sstore 27 rfl rfl rfl rfl _ 0 _ rfl rfl th2 (by rw [mod_lenM (hst.r2 (by decide)).1.kept]; kernel_rfl) (mod_oneM (hst.r2 (by decide)).1.kept) ⟨hf.bel, ?_⟩
          clear hst th1 th2 hb3
          refine treu_end ?_
          go_wp2
          go_meet
          case rel => exact ⟨_, _, _, _, _, _, _, _, rfl, rfl, hf⟩
      · refine op_boxM 6 27 jt zt zc rfl rfl rfl (by exact wantA rfl) HZ1.out HZ2.out HZ3.out ⟨(hst.boxB).bel, ?_⟩
        replace hst := hst.boxB
        go_frame
        refine op_to 31 8 Tryz.func8 (by kernel_rfl) (by kernel_rfl) [.agg ⟨X⟩] rfl rfl rfl (by exact wantA rfl) rfl ?_
        refine (mown_any m X _ HFM.out (HXM.out.next (HT5.out.bel.trans (hst.bel.mono HT5.out.bel.size)))).mono ?_
        rintro e V2 ⟨cs2, rfl, hk, hb, ht⟩
        replace hst := hst.call1 hb hk ht
        clear hb hk ht
        refine ⟨_, rfl, hst.bel, ?_⟩
        go_frame
        refine op_to 33 8 Tryz.func8 (by kernel_rfl) (by kernel_rfl) [.agg ⟨X⟩] rfl rfl rfl (by exact wantA rfl) rfl ?_
        refine (mown_any m X _ HFM.out (HXM.out.next (HT5.out.bel.trans (hst.bel.mono HT5.out.bel.size)))).mono ?_
        rintro e V3 ⟨cs3, rfl, hk, hb, ht⟩
        replace hst := hst.call2 hb hk ht
        clear hb hk ht
        refine ⟨_, rfl, hst.bel, ?_⟩
        go_frame
        obtain ⟨th1, th2, hb3, hf⟩ := hst.fin (by rw [HZL.out, mod_lenM (hst.r1 (by decide)).1.kept]) (by rw [HZL.out, mod_lenM (hst.r2 (by decide)).1.kept])
        refine op_sstore 27 rfl rfl rfl rfl _ 0 _ rfl rfl th1 (by rw [mod_lenM (hst.r1 (by decide)).1.kept]; kernel_rfl) (mod_oneM (hst.r1 (by decide)).1.kept) ⟨hb3, ?_⟩
        refine op_sstore 27 rfl rfl rfl rfl _ 0 _ rfl rfl th2 (by rw [mod_lenM (hst.r2 (by decide)).1.kept]; kernel_rfl) (mod_oneM (hst.r2 (by decide)).1.kept) ⟨hf.bel, ?_⟩
        clear hst th1 th2 hb3
        refine treu_end ?_
        go_wp2
        go_meet
        case rel => exact ⟨_, _, _, _, _, _, _, _, rfl, rfl, hf⟩
    · refine op_boxM 6 27 jt zt zc rfl rfl rfl (by exact wantA rfl) HZ1.out HZ2.out HZ3.out ⟨(hst.boxB).bel, ?_⟩
      replace hst := hst.boxB
      go_frame
      refine ⟨?_, ?_⟩
      · refine op_to 31 8 Tryz.func8 (by kernel_rfl) (by kernel_rfl) [.agg ⟨X⟩] rfl rfl rfl (by exact wantA rfl) rfl ?_
        refine (mown_any m X _ HFM.out (HXM.out.next (HT5.out.bel.trans (hst.bel.mono HT5.out.bel.size)))).mono ?_
        rintro e V1 ⟨cs1, rfl, hk, hb, ht⟩
        replace hst := hst.call1 hb hk ht
        clear hb hk ht
        refine ⟨_, rfl, hst.bel, ?_⟩
        go_frame
        refine ⟨?_, ?_⟩
        · refine op_to 33 8 Tryz.func8 (by kernel_rfl) (by kernel_rfl) [.agg ⟨X⟩] rfl rfl rfl (by exact wantA rfl) rfl ?_
          refine (mown_any m X _ HFM.out (HXM.out.next (HT5.out.bel.trans (hst.bel.mono HT5.out.bel.size)))).mono ?_
          rintro e V2 ⟨cs2, rfl, hk, hb, ht⟩
          replace hst := hst.call2 hb hk ht
          clear hb hk ht
          refine ⟨_, rfl, hst.bel, ?_⟩
          go_frame
          refine op_boxM 5 27 jt zt zc rfl rfl rfl (by exact wantA rfl) HZ1.out HZ2.out HZ3.out ⟨(hst.boxA).bel, ?_⟩
          replace hst := hst.boxA
          go_frame
          obtain ⟨th1, th2, hb3, hf⟩ := hst.fin (by rw [HZL.out, mod_lenM (hst.r1 (by decide)).1.kept]) (by rw [HZL.out, mod_lenM (hst.r2 (by decide)).1.kept])
          refine op_sstore 27 rfl rfl rfl rfl _ 0 _ rfl rfl th1 (by rw [mod_lenM (hst.r1 (by decide)).1.kept]; kernel_rfl) (mod_oneM (hst.r1 (by decide)).1.kept) ⟨hb3, ?_⟩
          refine op_sstore 27 rfl rfl rfl rfl _ 0 _ rfl rfl th2 (by rw [mod_lenM (hst.r2 (by decide)).1.kept]; kernel_rfl) (mod_oneM (hst.r2 (by decide)).1.kept) ⟨hf.bel, ?_⟩
          clear hst th1 th2 hb3
          refine treu_end ?_
          go_wp2
          go_meet
          case rel => exact ⟨_, _, _, _, _, _, _, _, rfl, rfl, hf⟩
        · refine op_boxM 5 27 jt zt zc rfl rfl rfl (by exact wantA rfl) HZ1.out HZ2.out HZ3.out ⟨(hst.boxA).bel, ?_⟩
          replace hst := hst.boxA
          go_frame
          refine op_to 33 8 Tryz.func8 (by kernel_rfl) (by kernel_rfl) [.agg ⟨X⟩] rfl rfl rfl (by exact wantA rfl) rfl ?_
          refine (mown_any m X _ HFM.out (HXM.out.next (HT5.out.bel.trans (hst.bel.mono HT5.out.bel.size)))).mono ?_
          rintro e V3 ⟨cs3, rfl, hk, hb, ht⟩
          replace hst := hst.call2 hb hk ht
          clear hb hk ht
          refine ⟨_, rfl, hst.bel, ?_⟩
          go_frame
          obtain ⟨th1, th2, hb3, hf⟩ := hst.fin (by rw [HZL.out, mod_lenM (hst.r1 (by decide)).1.kept]) (by rw [HZL.out, mod_lenM (hst.r2 (by decide)).1.kept])
          refine op_sstore 27 rfl rfl rfl rfl _ 0 _ rfl rfl th1 (by rw [mod_lenM (hst.r1 (by decide)).1.kept]; kernel_rfl) (mod_oneM (hst.r1 (by decide)).1.kept) ⟨hb3, ?_⟩
          refine op_sstore 27 rfl rfl rfl rfl _ 0 _ rfl rfl th2 (by rw [mod_lenM (hst.r2 (by decide)).1.kept]; kernel_rfl) (mod_oneM (hst.r2 (by decide)).1.kept) ⟨hf.bel, ?_⟩
          clear hst th1 th2 hb3
          refine treu_end ?_
          go_wp2
          go_meet
          case rel => exact ⟨_, _, _, _, _, _, _, _, rfl, rfl, hf⟩
      · refine op_boxM 5 27 jt zt zc rfl rfl rfl (by exact wantA rfl) HZ1.out HZ2.out HZ3.out ⟨(hst.boxA).bel, ?_⟩
        replace hst := hst.boxA
        go_frame
        refine op_to 31 8 Tryz.func8 (by kernel_rfl) (by kernel_rfl) [.agg ⟨X⟩] rfl rfl rfl (by exact wantA rfl) rfl ?_
        refine (mown_any m X _ HFM.out (HXM.out.next (HT5.out.bel.trans (hst.bel.mono HT5.out.bel.size)))).mono ?_
        rintro e V2 ⟨cs2, rfl, hk, hb, ht⟩
        replace hst := hst.call1 hb hk ht
        clear hb hk ht
        refine ⟨_, rfl, hst.bel, ?_⟩
        go_frame
        refine op_to 33 8 Tryz.func8 (by kernel_rfl) (by kernel_rfl) [.agg ⟨X⟩] rfl rfl rfl (by exact wantA rfl) rfl ?_
        refine (mown_any m X _ HFM.out (HXM.out.next (HT5.out.bel.trans (hst.bel.mono HT5.out.bel.size)))).mono ?_
        rintro e V3 ⟨cs3, rfl, hk, hb, ht⟩
        replace hst := hst.call2 hb hk ht
        clear hb hk ht
        refine ⟨_, rfl, hst.bel, ?_⟩
        go_frame
        obtain ⟨th1, th2, hb3, hf⟩ := hst.fin (by rw [HZL.out, mod_lenM (hst.r1 (by decide)).1.kept]) (by rw [HZL.out, mod_lenM (hst.r2 (by decide)).1.kept])
        refine op_sstore 27 rfl rfl rfl rfl _ 0 _ rfl rfl th1 (by rw [mod_lenM (hst.r1 (by decide)).1.kept]; kernel_rfl) (mod_oneM (hst.r1 (by decide)).1.kept) ⟨hb3, ?_⟩
        refine op_sstore 27 rfl rfl rfl rfl _ 0 _ rfl rfl th2 (by rw [mod_lenM (hst.r2 (by decide)).1.kept]; kernel_rfl) (mod_oneM (hst.r2 (by decide)).1.kept) ⟨hf.bel, ?_⟩
        clear hst th1 th2 hb3
        refine treu_end ?_
        go_wp2
        go_meet
        case rel => exact ⟨_, _, _, _, _, _, _, _, rfl, rfl, hf⟩
  case rest =>
  obtain ⟨p, q, u1, w1, u2, w2', cs1, cs2, rfl, rfl, hf⟩ := hcut
  have HF := Lib.hid hf
  clear hf
  have HL1 := Lib.hid (mod_lenM HF.out.r1.kept)
  have HL2 := Lib.hid (mod_lenM HF.out.r2.kept)
  have HT6 := Lib.hid (HT5.out.on HF.out.bel)
  have HM1 : Hid (ModelAt wc wc.heap.size cs1 (canM m)) := Lib.hid (KeptM.at (KeptM.to (q := fun _ => True) HF.out.r1.kept (fun b hb hlt => ⟨trivial, HF.out.k1.2 b hb hlt⟩) HF.out.k1.1))
  go_wp2_with (first | ((with_reducible refine wl_sload 27 _ rfl ?hwl3 (p) (0) (cs1) _ rfl HF.out.a.range Tryz.underlying27 rfl ?hil3 ?_); (case hwl3 => (exact wantA rfl)); (case hil3 => rw [HL1.out]; kernel_rfl)) | ((with_reducible refine wl_sload 27 _ rfl ?hwl4 (w.heap.size) (0) (X) _ rfl HT6.out.a.range Tryz.underlying27 rfl ?hil4 ?_); (case hwl4 => (exact wantA rfl)); (case hil4 => rw [HLX.out]; kernel_rfl)) | (go_at_call 7; fail))
  have HSA := rmsame_any (canM m) m cs1 X wc HM1.out (HXM.out.next HT6.out.bel)
  rw [sameM_can] at HSA
  refine HSA.mono ?_
  clear HSA
  rintro e z5 ⟨rfl, hb5⟩
  have HB5 := Lib.hid hb5
  have HT7 := Lib.hid (HT6.out.on hb5)
  clear hb5
  have HWP : Hid (Whole 27 z5 p cs1) := Lib.hid (HF.out.a.keep (HB5.out.block p HF.out.a.lt))
  have HWQ : Hid (Whole 27 z5 q cs2) := Lib.hid (HF.out.b.keep (HB5.out.block q HF.out.b.lt))
  have HTH : Hid (ModV z5 (fun b => u1.heap.size ≤ b ∧ b < w1.heap.size) cs1 m) := Lib.hid (ThM.view (ThM.to HF.out.r1.th (fun b hb hlt => ⟨⟨hb, hlt⟩, (HB5.out.block b (Nat.lt_of_lt_of_le hlt HF.out.k1.1)).trans (HF.out.k1.2 b hb hlt)⟩) (Nat.le_trans HF.out.k1.1 HB5.out.size)))
  have HM2 : Hid (KeptM (fun b => u2.heap.size ≤ b ∧ b < w2'.heap.size) z5 cs2 (canM m)) := Lib.hid (KeptM.to HF.out.r2.kept (fun b hb hlt => ⟨⟨hb, hlt⟩, (HB5.out.block b (Nat.lt_of_lt_of_le hlt HF.out.k2.1)).trans (HF.out.k2.2 b hb hlt)⟩) (Nat.le_trans HF.out.k2.1 HB5.out.size))
  obtain ⟨P, hP⟩ : ∃ P : Nat → Prop, P = fun b => u1.heap.size ≤ b ∧ b < w1.heap.size := ⟨_, rfl⟩
  have HP := Lib.hid hP
  rw [← hP] at HTH
  clear hP
  obtain ⟨v0, v1, v2, B3, c3, v4, B5, c5, hcs1, hv3, hv5⟩ := HTH.out.ex
  have HCS := Lib.hid hcs1
  have HV3 := Lib.hid hv3
  have HV5 := Lib.hid hv5
  have HZW : Hid (w.heap.size ≤ z2.heap.size) := Lib.hid HT5.out.bel.size
  have HZX : Hid (w.heap.size < z2.heap.size) := Lib.hid HT5.out.la
  have HNP : Hid (¬ P p) := Lib.hid (by
    rw [HP.out]
    have := HF.out.pa
    rintro ⟨h1, h2⟩
    rcases this with h | h <;> omega)
  have HNQ : Hid (¬ P q) := Lib.hid (by
    rw [HP.out]
    have := HF.out.qa
    rintro ⟨h1, h2⟩
    rcases this with h | h <;> omega)
  have H0 : Hid (NM z5 B3 m.vars 0) := Lib.hid (fun b o e j x _ hx => by
    obtain ⟨b', o', e', _, h⟩ := HV3.out (Nat.lt_of_le_of_lt (Nat.zero_le j) (List.getElem?_eq_some_iff.1 hx).1)
    rw [e] at e'
    injection e' with e'
    injection e' with e1 e2
    subst e1 e2
    exact (h j x hx).1)
  have HDP : Hid (∀ u, Chg P z5 u → u.cell? ⟨p, 5, none⟩ = some (.slice B5 m.nodes.length c5) ∧ u.cell? ⟨p, 3, none⟩ = some (.slice B3 m.vars.length c3)) := Lib.hid fun u hu => by
    have h := HWP.out.keep (hu.block p HNP.out)
    rw [HCS.out] at h
    exact ⟨by have := h.range 5 _ rfl; simpa using this, by have := h.range 3 _ rfl; simpa using this⟩
  have hnl : (m.nodes.length : Int) ≤ 100 := by have := HSM.out.nodes; omega
  have hvl : (m.vars.length : Int) ≤ 40 := by have := HSM.out.vars; omega
  clear hcs1 hv3 hv5 HTH HM1 HT5 HT4 HFM HFX HYM
  have d5 := (HDP.out z5 (Chg.refl _ _)).1
  go_upto_region 9 with (fail)
  clear d5
  go_loopg [41] m.nodes.length (fun g i u => ∃ j : Nat, j + g = m.nodes.length ∧ i = .int .i64 j ∧ Chg P z5 u ∧ NM u B3 m.vars 0)
  case atStart => exact ⟨0, by omega, rfl, Chg.refl _ _, H0.out⟩
  case round =>
    obtain ⟨j, hj, rfl, hc, hnm⟩ := hrel
    have HC := Lib.hid hc
    have HNM := Lib.hid hnm
    clear hc hnm
    cases gk with
    | zero =>
      obtain rfl : j = m.nodes.length := by omega
      have hge : ¬ ((m.nodes.length : Int) < (m.nodes.length : Int)) := by omega
      have d3 := (HDP.out wr HC.out).2
      go_upto_region 21 with (fail)
      clear d3
      go_loopg [101] m.vars.length (fun g i u => ∃ j : Nat, j + g = m.vars.length ∧ i = .int .i64 j ∧ Chg P z5 u ∧ NM u B3 m.vars j)
      case atStart => exact ⟨0, by omega, rfl, HC.out, HNM.out⟩
      case round =>
        clear HC HNM
        obtain ⟨j, hj2, rfl, hc, hnm⟩ := hrel
        have HC := Lib.hid hc
        have HNM := Lib.hid hnm
        clear hc hnm
        cases gk with
        | zero =>
          obtain rfl : j = m.vars.length := by omega
          have hge3 : ¬ ((m.vars.length : Int) < (m.vars.length : Int)) := by omega
          have HWQ2 := Lib.hid (HWQ.out.keep (HC.out.block q HNQ.out))
          have HBW : Hid (Below w.heap.size w wr) := Lib.hid (HT7.out.bel.trans ⟨HC.out.os, HC.out.tape, HC.out.output, Nat.le_of_eq HC.out.size.symm, fun b hb => HC.out.block b (by
            rw [HP.out]
            rintro ⟨h1, h2⟩
            have h3 := HT6.out.bel.size
            have h4 := HF.out.r1.on.size
            have h5 := HZW.out
            omega)⟩)
          have HTX : Hid (wr.rangeAt w.heap.size 0 X) := Lib.hid (HT7.out.a.keep (HC.out.block _ (by
            rw [HP.out]
            rintro ⟨h1, h2⟩
            have h4 := HF.out.r1.on.size
            have h5 := HZX.out
            omega))).range
          have HM3 : Hid (ModelAt wr wr.heap.size cs2 (canM m)) := Lib.hid (KeptM.at (KeptM.to (q := fun _ => True) HM2.out (fun b hb hlt => ⟨trivial, HC.out.block b (by
            rw [HP.out]
            rintro ⟨h1, h2⟩
            have h3 := HF.out.s
            have h4 : u2.heap.size ≤ b := hb.1
            omega)⟩) (Nat.le_of_eq HC.out.size.symm)))
          go_wp2_with (first | ((with_reducible refine wl_sload 27 _ rfl ?hwl5 (q) (0) (cs2) _ rfl HWQ2.out.range Tryz.underlying27 rfl ?hil5 ?_); (case hwl5 => (exact wantA rfl)); (case hil5 => rw [HL2.out]; kernel_rfl)) | ((with_reducible refine wl_sload 27 _ rfl ?hwl6 (w.heap.size) (0) (X) _ rfl HTX.out Tryz.underlying27 rfl ?hil6 ?_); (case hwl6 => (exact wantA rfl)); (case hil6 => rw [HLX.out]; kernel_rfl)) | (go_at_call 7; fail))
          have HSA := rmsame_any (canM m) m cs2 X wr HM3.out (HXM.out.next HBW.out)
          rw [sameM_can] at HSA
          refine HSA.mono ?_
          clear HSA
          rintro e z9 ⟨rfl, hb9⟩
          have HB9 := Lib.hid hb9
          clear hb9
          go_wp2
          go_ret
          exact ⟨rfl, HBW.out.trans (HB9.out.mono HBW.out.size)⟩
        | succ g =>
          have hlt : (j : Int) < (m.vars.length : Int) := by omega
          obtain ⟨x, hx⟩ : ∃ e0, m.vars[j]? = some e0 := ⟨_, List.getElem?_eq_getElem (by omega)⟩
          obtain ⟨b, o, rfl, hfr, hnv⟩ := HV3.out (by omega)
          obtain ⟨_, KA, kl, kc, e3, hhead⟩ := hnv j x hx
          have hsz := HSM.out.name j x hx
          have c1 := HNM.out b o rfl j x (Nat.le_refl _) hx
          have C1 := Lib.hid c1
          have E3 := Lib.hid e3
          have HHD := Lib.hid hhead
          have HFR := Lib.hid hfr
          clear hx hnv hhead hfr e3
          have f1 := (HFR.out.chg HC.out).2 (o + j * 11)
          have d3 := (HDP.out wr HC.out).2
          go_upto_region 24 with (fail)
          clear c1 f1 d3
          have HC2 := Lib.hid (HC.out.put C1.out (LikeV.str x.name (x.name ++ ⟨#[120]⟩)) HFR.out.1)
          have HN2 := Lib.hid (HNM.out.str (x.name ++ ⟨#[120]⟩))
          clear HC HNM C1
          generalize wr.setCell ⟨b, o + j * 11, none⟩ (.string (x.name ++ ⟨#[120]⟩)) = U1 at *
          have d3 := (HDP.out U1 HC2.out).2
          have d9 := HC2.out.sl E3.out
          have hkl2 : (kl : Int) ≤ 9223372036854775807 := by have := HHD.out.1; omega
          by_cases hkp : 0 < kl
          · have hkg : (0 : Int) < (kl : Int) := by omega
            obtain ⟨kb, ko, rfl, hfr2, j0, hj0⟩ := HHD.out.2 hkp
            obtain ⟨j1, c1⟩ := HC2.out.int hj0
            have f1 := (hfr2.chg HC2.out).2 ko
            have HPB := Lib.hid hfr2.1
            have C1 := Lib.hid c1
            clear hj0 hfr2
            go_upto_region 26 with (fail)
            clear c1 f1 d9 d3
            have HC3 := Lib.hid (HC2.out.put C1.out (LikeV.int j1 (wrap64 (j1 + 100))) HPB.out)
            have HN3 := Lib.hid (HN2.out.int C1.out (wrap64 (j1 + 100)))
            clear HC2 HN2 C1
            generalize U1.setCell ⟨kb, ko, none⟩ (.int .i64 (wrap64 (j1 + 100))) = U2 at *
            go_wp2
            go_roundg g
            case measure => omega
            case rel => exact ⟨j + 1, by omega, by go_num, HC3.out, HN3.out⟩
          · have hkg : ¬ ((0 : Int) < (kl : Int)) := by omega
            go_wp2
            go_roundg g
            case measure => omega
            case rel => exact ⟨j + 1, by omega, by go_num, HC2.out, HN2.out⟩
    | succ g =>
      have hlt : (j : Int) < (m.nodes.length : Int) := by omega
      obtain ⟨x, hx⟩ : ∃ e0, m.nodes[j]? = some e0 := ⟨_, List.getElem?_eq_getElem (by omega)⟩
      obtain ⟨b, o, rfl, hfr, hnv⟩ := HV5.out (by omega)
      obtain ⟨lab, NA, nl, nc, KA, kl, kc, e1, e2, e3, hrow, hhead⟩ := hnv j x hx
      have E1 := Lib.hid e1
      have E2 := Lib.hid e2
      have E3 := Lib.hid e3
      have HROW := Lib.hid hrow
      have HHD := Lib.hid hhead
      have HFR := Lib.hid hfr
      clear hx hnv hrow hhead hfr e1 e2 e3
      obtain ⟨lab2, c1⟩ := HC.out.int E1.out
      have C1 := Lib.hid c1
      have f1 := (HFR.out.chg HC.out).2 (o + j * 29 + 1)
      have d5 := (HDP.out wr HC.out).1
      go_upto_region 12 with (fail)
      clear c1 f1 d5
      have HC2 := Lib.hid (HC.out.put C1.out (LikeV.int lab2 (wrap64 (lab2 + 100))) HFR.out.1)
      have HN2 := Lib.hid (HNM.out.int C1.out (wrap64 (lab2 + 100)))
      clear HC HNM C1
      generalize wr.setCell ⟨b, o + j * 29 + 1, none⟩ (.int .i64 (wrap64 (lab2 + 100))) = U1 at *
      have d5 := (HDP.out U1 HC2.out).1
      have d2 := HC2.out.sl E2.out
      have hnl2 : (nl : Int) ≤ 9223372036854775807 := by have := HROW.out.1; omega
      go_upto_region 13 with (fail)
      clear d5 d2
      go_loopg [60] nl (fun g i u => ∃ k : Nat, k + g = nl ∧ i = .int .i64 k ∧ Chg P z5 u ∧ NM u B3 m.vars 0)
      case atStart => exact ⟨0, by omega, rfl, HC2.out, HN2.out⟩
      case round =>
        obtain ⟨k, hk, rfl, hc, hnm⟩ := hrel
        have HC := Lib.hid hc
        have HNM := Lib.hid hnm
        clear hc hnm
        have d5 := (HDP.out wr HC.out).1
        cases gk with
        | succ g2 =>
          have hlt2 : (k : Int) < (nl : Int) := by omega
          have d2 := HC.out.sl E2.out
          obtain ⟨nb, no, rfl, hfr2, hks⟩ := HROW.out.2 (by omega)
          obtain ⟨j0, hj0⟩ := hks k (by omega)
          obtain ⟨j1, c1⟩ := HC.out.int hj0
          have f1 := (hfr2.chg HC.out).2 (no + k)
          have HPB := Lib.hid hfr2.1
          have C1 := Lib.hid c1
          clear hks hj0 hfr2
          go_upto_region 16 with (fail)
          clear c1 f1 d2 d5
          have HC3 := Lib.hid (HC.out.put C1.out (LikeV.int j1 (wrap64 (j1 + 100))) HPB.out)
          have HN3 := Lib.hid (HNM.out.int C1.out (wrap64 (j1 + 100)))
          clear HC HNM C1
          generalize wr.setCell ⟨nb, no + k, none⟩ (.int .i64 (wrap64 (j1 + 100))) = U2 at *
          go_wp2
          go_roundg g2
          case measure => omega
          case rel => exact ⟨k + 1, by omega, by go_num, HC3.out, HN3.out⟩
        | zero =>
          obtain rfl : k = nl := by omega
          have hge2 : ¬ ((k : Int) < (k : Int)) := by omega
          have d9 := HC.out.sl E3.out
          have hkl2 : (kl : Int) ≤ 9223372036854775807 := by have := HHD.out.1; omega
          by_cases hkp : 0 < kl
          · have hkg : (0 : Int) < (kl : Int) := by omega
            obtain ⟨kb, ko, rfl, hfr2, j0, hj0⟩ := HHD.out.2 hkp
            obtain ⟨j1, c1⟩ := HC.out.int hj0
            have f1 := (hfr2.chg HC.out).2 ko
            have HPB := Lib.hid hfr2.1
            have C1 := Lib.hid c1
            clear hj0 hfr2
            go_upto_region 19 with (fail)
            clear c1 f1 d9 d5
            have HC3 := Lib.hid (HC.out.put C1.out (LikeV.int j1 (wrap64 (j1 + 100))) HPB.out)
            have HN3 := Lib.hid (HNM.out.int C1.out (wrap64 (j1 + 100)))
            clear HC HNM C1
            generalize wr.setCell ⟨kb, ko, none⟩ (.int .i64 (wrap64 (j1 + 100))) = U2 at *
            go_wp2
            go_roundg g
            case measure => omega
            case rel => exact ⟨j + 1, by omega, by go_num, HC3.out, HN3.out⟩
          · have hkg : ¬ ((0 : Int) < (kl : Int)) := by omega
            go_wp2
            go_roundg g
            case measure => omega
            case rel => exact ⟨j + 1, by omega, by go_num, HC.out, HNM.out⟩
end Go.Proofs.YtpmjcbjdcjjplaaGreat
