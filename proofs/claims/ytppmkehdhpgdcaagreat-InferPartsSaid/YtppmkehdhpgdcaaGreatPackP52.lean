/- Parts of a proof: ILabel, PartsP. -/
import Derived.Test.YtppmkehdhpgdcaaGreatPackP7
import Derived.Test.YtppmkehdhpgdcaaGreatPackP10
import Derived.Test.YtppmkehdhpgdcaaGreatPackP20
import Derived.Test.YtppmkehdhpgdcaaGreatPackP46
import Derived.Test.YtppmkehdhpgdcaaGreatPackP51
section
namespace Go.Proofs.YtppmkehdhpgdcaaGreat
open Go Go.RowKit P
set_option linter.unusedVariables false
set_option linter.unusedSimpArgs false
theorem ipush_below {α : Type} {T : TypeId} {k B base : Nat} {enc : α → List Value} {w0 w w' : World} {v : Value} {l : List α} (h : Below B w0 w) (hB : B ≤ w.heap.size) (hown : OwnSl T k enc w base v l) (hbase : B ≤ base) (hg : w.grownBy w' v.ownBlock) : Below B w0 w' :=
  h.grown hg hB fun j hj => Nat.le_trans hbase (hown.block hj)
theorem info_intL : (Tryz.prog.info? 3).map (fun i => (i.zero, i.size, i.bytes)) = some (some (.int .i64 0), 1, 8) := by kernel_rfl
theorem encI_lenL (i : Int) : (encI i).length = 1 := rfl
theorem encI_oneL (i : Int) : ∀ u ∈ encI i, u.oneCell' = true := by
  intro u hu
  simp only [encI, List.mem_cons, List.not_mem_nil, or_false] at hu
  subst hu; rfl
theorem own_form {w : World} {base : Nat} {e : TypeId} {size n : Nat} {v : Value} {xs : List Value} (h : w.ownsRow base e size v n xs) : ∃ A c, v = .slice A n c := by
  rcases h.2 with ⟨h1, h2⟩ | ⟨g, c, cu, h1, _⟩
  · exact ⟨none, 0, by rw [h1, h2]⟩
  · exact ⟨_, _, h1⟩
theorem names_cell {w : World} {base n : Nat} {A : Option Addr} {c : Nat} {l : List (List UInt8)} (h : w.ownsRow base 9 1 (.slice A n c) n (l.map encStr)) (hn : 0 < n) :
    ∃ g, A = some ⟨g, 0, none⟩ ∧ g < w.heap.size ∧ ∀ (j : Nat) s, l[j]? = some s → w.cell? ⟨g, j, none⟩ = some (.string ⟨s.toArray⟩) := by
  obtain ⟨g, c', hv, _, _, hlt, hc⟩ := own_addr h hn
  injection hv with hv
  refine ⟨g, hv, hlt, fun j s hs => ?_⟩
  have := hc j (encStr s) (by rw [List.getElem?_map, hs]; rfl)
  rw [Addr.add_mid, Nat.zero_add] at this
  exact this
theorem own_ints {w : World} {base : Nat} {v : Value} {l : List Int} (h : OwnSl 3 1 encI w base v l) (hl : l.length ≤ 9223372036854775807) : IntsAt w w.heap.size v l := by
  obtain ⟨_, A, c, rfl, hA⟩ := h.at encI_lenL hl
  refine ⟨hl, A, c, rfl, fun h0 => ?_⟩
  obtain ⟨b, o, rfl, hb, hc⟩ := hA h0
  refine ⟨b, o, rfl, hb, fun i x hx => ?_⟩
  obtain ⟨cs, _, hr, he⟩ := hc i x hx
  have := hr 0 (.int .i64 x) (by rw [he]; rfl)
  simpa using this
theorem putL_len (s : List UInt8) : ∀ l : List (List UInt8), (putL l s).length ≤ l.length + 1
  | [] => by simp [putL]
  | a :: l => by
    have := putL_len s l
    unfold putL
    split
    · simp; omega
    · split <;> simp
theorem putLs_len : ∀ (xs l : List (List UInt8)), (xs.foldl putL l).length ≤ l.length + xs.length
  | [], l => by simp
  | s :: xs, l => by
    have h1 := putLs_len xs (putL l s)
    have h2 := putL_len s l
    simp only [List.foldl_cons, List.length_cons]; omega
theorem readL_len (t : ET) : (readL t).length ≤ 500 := by
  unfold readL
  have h1 := putLs_len ((visE t 0).map fun s => s.data.toList) []
  have h2 := visE_len t 0 (by omega)
  have h3 := cntE_le t 0 (by omega)
  rw [List.length_map] at h1
  simp at h1; omega
theorem lqI_self {n : Nat} {L : Rel} (h : Lat n L) (a : Int) : lqI n L a a = isL n a := by
  unfold lqI
  cases e : isL n a with
  | false => rfl
  | true =>
    obtain ⟨y, rfl, hy⟩ := isL_true e
    simp [h.refl y (by simpa using hy)]
theorem labsV_step {E : List VarT} {ok : Int → Bool} {l : List (List UInt8)} {j : Nat} {s : List UInt8} {ls : List Int} (h : l[j]? = some s) (a : Int) (ha : labOf E s = some a) (hok : ok a = true)
    (hr : labsV E ok l = (ls ++ (labsV E ok (l.drop j)).1, (labsV E ok (l.drop j)).2)) : labsV E ok l = ((ls ++ [a]) ++ (labsV E ok (l.drop (j + 1))).1, (labsV E ok (l.drop (j + 1))).2) := by
  have hd : l.drop j = s :: l.drop (j + 1) := by
    obtain ⟨h1, h2⟩ := List.getElem?_eq_some_iff.1 h
    rw [List.drop_eq_getElem_cons h1, h2]
  rw [hd, labsV, ha] at hr
  simp only [hok, if_true] at hr
  rw [hr, List.append_assoc]; rfl
theorem labsV_err {E : List VarT} {ok : Int → Bool} {l : List (List UInt8)} {j : Nat} {s : List UInt8} {ls : List Int} (h : l[j]? = some s)
    (hr : labsV E ok l = (ls ++ (labsV E ok (l.drop j)).1, (labsV E ok (l.drop j)).2)) : (labOf E s = none → (labsV E ok l).2 = 11) ∧ (∀ a, labOf E s = some a → ok a = false → (labsV E ok l).2 = 3) := by
  have hd : l.drop j = s :: l.drop (j + 1) := by
    obtain ⟨h1, h2⟩ := List.getElem?_eq_some_iff.1 h
    rw [List.drop_eq_getElem_cons h1, h2]
  refine ⟨fun hn => ?_, fun a ha hok => ?_⟩
  · rw [hd, labsV, hn] at hr; rw [hr]
  · rw [hd, labsV, ha] at hr; simp only [hok] at hr; rw [hr]; rfl
theorem labsV_end {E : List VarT} {ok : Int → Bool} {l : List (List UInt8)} {ls : List Int} (hr : labsV E ok l = (ls ++ (labsV E ok (l.drop l.length)).1, (labsV E ok (l.drop l.length)).2)) : labsV E ok l = (ls, 0) := by
  rw [List.drop_length, labsV, List.append_nil] at hr; exact hr
theorem labsV_ok {n : Nat} {E : List VarT} : ∀ (l : List (List UInt8)), allL n (labsV E (isL n) l).1 = true
  | [] => rfl
  | s :: r => by
    unfold labsV
    cases labOf E s with
    | none => rfl
    | some a =>
      simp only
      by_cases h : isL n a = true
      · rw [if_pos h]; unfold allL; rw [List.all_cons, h]; exact labsV_ok r
      · rw [if_neg h]; rfl
def labX (n : Nat) (L : Rel) (E : List VarT) (names : List (List UInt8)) : Int × Int :=
  if (labsV E (isL n) names).2 = 0 then ((foldJ n L (bot n L) (labsV E (isL n) names).1 : Nat), 0) else (0, (labsV E (isL n) names).2)
def labE (n : Nat) (L : Rel) (E : List VarT) (t : ET) : Int × Int := if rightET t = true then labX n L E (readL t) else (0, 2)
set_option maxHeartbeats 4000000 in
set_option maxRecDepth 100000 in
theorem ilabel_right (n : Nat) (L : Rel) (lb : Nat) (t : ET) (E : List VarT) (cs : List Value) (v : Value) (w : World) (hl : LatR w lb n L) (hv : ExpAt w w.heap.size cs t) (hE : SlAt w w.heap.size 11 (VarAt w w.heap.size) v E) (hlen : E.length ≤ 10000) (hr : rightET t = true) :
    Calls Tryz.prog 11 #[.pointer (some ⟨lb, 0, none⟩), .agg ⟨cs⟩, v] w fun e w' => e = .returned (.tuple #[.int .i64 (labX n L E (readL t)).1, .int .i64 (labX n L E (readL t)).2]) ∧ Below w.heap.size w w' := by
  have HCL := Lib.hid (eslen hv)
  have HB := Lib.hid (box_below w (.cells ⟨cs⟩ 30))
  have HR := Lib.hid (range_box w cs 30)
  have HS := Lib.hid (box_size w (.cells ⟨cs⟩ 30))
  have HV := Lib.hid ((hv.under HB.out).more HB.out.size)
  have HRT := Lib.hid hr
  have HLT := Lib.hid hl
  have HEA := Lib.hid hE
  obtain ⟨_, EA, ec, rfl, _⟩ := hE
  have hlen2 : (E.length : Int) ≤ 10000 := by omega
  clear hv hr hl
  go_enter Tryz.func11, Tryz.ntmps11
  go_upto_region 1 with (fail)
  generalize w.alloc (.cells ⟨cs⟩ 30) = W at *
  have HC := Lib.hid (prightE t cs W HV.out)
  rw [HRT.out] at HC
  go_upto_region 6 with (first | ((with_reducible refine wl_sload 30 _ rfl ?hwa w.heap.size 0 cs _ rfl HR.out Tryz.underlying30 rfl ?hia ?_); (case hwa => (first | exact wanted_none rfl | exact wanted_if rfl rfl rfl rfl)); (case hia => rw [HCL.out]; kernel_rfl)) | (go_at_call 29; refine HC.out.mono ?_; rintro e z ⟨rfl, hb⟩; have HB2 := Lib.hid hb; clear hb))
  have HR2 := Lib.hid (rangeAt_below HR.out HB2.out HS.out)
  have HCR := Lib.hid (reads_any t cs z ((HV.out.under HB2.out).more HB2.out.size))
  have HZ := Lib.hid (HB.out.trans (HB2.out.mono HB.out.size))
  clear HR HC HB2
  go_upto_region 7 with (first | ((with_reducible refine wl_sload 30 _ rfl ?hwb w.heap.size 0 cs _ rfl HR2.out Tryz.underlying30 rfl ?hib ?_); (case hwb => (first | exact wanted_none rfl | exact wanted_if rfl rfl rfl rfl)); (case hib => rw [HCL.out]; kernel_rfl)) | (go_at_call 15; refine HCR.out.mono ?_; rintro e w3 ⟨nv, base, rfl, hbs, hrow, hb⟩; have HROW := Lib.hid hrow; have HB3 := Lib.hid (HZ.out.trans (hb.mono HZ.out.size)); clear hrow hb; obtain ⟨NA, nc, hnv⟩ := own_form HROW.out; subst hnv))
  have HNL := Lib.hid (readL_len t)
  have hnl2 : ((readL t).length : Int) ≤ 500 := by have := HNL.out; omega
  obtain ⟨N, hN⟩ : ∃ N, readL t = N := ⟨_, rfl⟩
  have HNE := Lib.hid hN
  rw [hN] at HROW HNL hnl2
  rw [hN]
  clear hN
  obtain ⟨i0, hi, hz0, hz1, hz2⟩ := info_parts info_intL
  have HI0 := Lib.hid hi
  have HZ0 := Lib.hid hz0
  have HZ1 := Lib.hid hz1
  have HZ2 := Lib.hid hz2
  have HZW : Hid (w.heap.size ≤ w3.heap.size) := Lib.hid HB3.out.size
  clear hi hz0 hz1 hz2 HCR HR2
  obtain ⟨xa, hxa⟩ : ∃ x, (labX n L E N).1 = x := ⟨_, rfl⟩
  obtain ⟨xb, hxb⟩ : ∃ x, (labX n L E N).2 = x := ⟨_, rfl⟩
  have HX : Hid (labX n L E N = (xa, xb)) := Lib.hid (by rw [← hxa, ← hxb])
  have HXE : Hid ((labX n L E (readL t)).1 = xa ∧ (labX n L E (readL t)).2 = xb) := Lib.hid (by rw [HNE.out]; exact ⟨hxa, hxb⟩)
  clear hxa hxb
  go_loopg [8, 23] N.length (fun g u i wr => ∃ (j : Nat) (ls : List Int), j + g = N.length ∧ i = .int .i64 j ∧ ls.length = j ∧ labsV E (isL n) N = (ls ++ (labsV E (isL n) (N.drop j)).1, (labsV E (isL n) (N.drop j)).2) ∧ OwnSl 3 1 encI wr w3.heap.size u ls ∧ Below w3.heap.size w3 wr)
  case atStart => exact ⟨0, [], by omega, rfl, rfl, rfl, OwnSl.nil _ _, Below.refl _ _⟩
  case round =>
    obtain ⟨j, ls, hj, rfl, hls, hlab, hown, hb⟩ := hrel
    have HLAB := Lib.hid hlab
    have HOWN := Lib.hid hown
    have HBW := Lib.hid hb
    have HLS := Lib.hid hls
    have HBK := Lib.hid (HB3.out.trans (hb.mono HZW.out))
    obtain ⟨UA, uc, rfl⟩ := own_form hown
    clear hlab hown hb hls
    cases gk with
    | zero =>
      obtain rfl : j = N.length := by omega
      have hge : ¬ ((N.length : Int) < (N.length : Int)) := by omega
      have HLE := Lib.hid (labsV_end HLAB.out)
      have HAL : Hid (allL n ls = true) := Lib.hid (by have := labsV_ok (n := n) (E := E) N; rw [HLE.out] at this; exact this)
      have HJ := Lib.hid (joinAll_r lb n L _ ls wr.heap.size wr (HLT.out.here HBK.out) (own_ints HOWN.out (by have := HLS.out; have := HNL.out; omega)))
      rw [foldV_yes HAL.out] at HJ
      have HXX : Hid (((foldJ n L (bot n L) ls : Nat) : Int) = xa ∧ (0 : Int) = xb) := Lib.hid (by
        have h := HX.out
        unfold labX at h
        rw [HLE.out] at h
        simp only [if_true] at h
        injection h with h1 h2
        exact ⟨h1, h2⟩)
      go_wp2_with (go_at_call 33; refine HJ.out.mono ?_; rintro e w5 ⟨rfl, m, rfl⟩)
      go_ret2
      exact ⟨by rw [HXE.out.1, HXE.out.2, ← HXX.out.1, ← HXX.out.2]; rfl, below_drewN HBK.out _⟩
    | succ g =>
      have hlt : (j : Int) < (N.length : Int) := by omega
      obtain ⟨s, hs⟩ : ∃ s, N[j]? = some s := ⟨_, List.getElem?_eq_getElem (by omega)⟩
      obtain ⟨ng, rfl, hngl, hnc⟩ := names_cell HROW.out (by omega)
      have dn := (HBW.out.cell (p := ⟨ng, j, none⟩) hngl).trans (hnc j s hs)
      have HSJ := Lib.hid hs
      clear hnc hs
      go_upto_region 9 with (fail)
      have HW1 := Lib.hid (box_below wr (.cells #[.string ⟨s.toArray⟩] 9))
      have HC1 := Lib.hid (cell_box wr #[.string ⟨s.toArray⟩] 9 0)
      have HS1 := Lib.hid (box_size wr (.cells #[.string ⟨s.toArray⟩] 9))
      clear dn
      generalize wr.alloc (.cells #[.string ⟨s.toArray⟩] 9) = W1 at *
      have HB1 := Lib.hid (HBK.out.trans (HW1.out.mono HBK.out.size))
      have HCI := Lib.hid (indexV_any E ⟨s.toArray⟩ (.slice EA E.length ec) wr.heap.size W1 ((HEA.out.below HB1.out fun _ _ _ h => (h.under HB1.out).more HB1.out.size).more HB1.out.size) (by omega) (by rw [HC1.out]; rfl) HS1.out)
      have htl : (⟨s.toArray⟩ : ByteArray).toList = s := by rw [Lib.toList_data]
      rcases findV_find (E := E) (s := ⟨s.toArray⟩) with ⟨hf, hlo⟩ | ⟨k, x, hf, hk, hlo⟩
      · rw [hf] at HCI
        rw [htl] at hlo
        have HX2 : Hid ((0 : Int) = xa ∧ (11 : Int) = xb) := Lib.hid (by
          have h := HX.out
          unfold labX at h
          rw [(labsV_err HSJ.out HLAB.out).1 hlo] at h
          simp only [show ¬ ((11 : Int) = 0) from by decide, if_false] at h
          injection h with h1 h2
          exact ⟨h1, h2⟩)
        clear hf hlo htl
        go_wp2_with (go_at_call 30; refine HCI.out.mono ?_; rintro e w5 ⟨rfl, hb⟩; have HB5 := Lib.hid (HB1.out.trans (hb.mono HB1.out.size)); clear hb)
        go_ret2
        exact ⟨by rw [HXE.out.1, HXE.out.2, ← HX2.out.1, ← HX2.out.2]; rfl, HB5.out⟩
      · rw [hf] at HCI
        rw [htl] at hlo
        have hkl : k < E.length := (List.getElem?_eq_some_iff.1 hk).1
        obtain ⟨_, EA2, ec2, hve, hea⟩ := HEA.out
        injection hve with e1 _ e2
        subst e1 e2
        obtain ⟨bb, o, rfl, hbl, hc⟩ := hea (by omega)
        obtain ⟨ks, _, hks, hva⟩ := hc k x hk
        obtain ⟨a2, b2, c2, d2, e2, f2, g2, i2, j2, rfl⟩ := var_form hva
        have HKX : Hid (w.cell? ⟨bb, o + k * 11 + 1, none⟩ = some (.int .i64 x.label)) := Lib.hid (hks 1 _ rfl)
        have HBL := Lib.hid hbl
        have hk2 : (k : Int) < (E.length : Int) := by omega
        have HLO := Lib.hid hlo
        clear hf hlo htl hc hks hva hk hea hbl
        go_upto_region 10 with (go_at_call 30; refine HCI.out.mono ?_; rintro e w5 ⟨rfl, hb⟩; have HB5 := Lib.hid (HB1.out.trans (hb.mono HB1.out.size)); have HB6 := Lib.hid (HW1.out.trans (hb.mono HW1.out.size)); clear hb)
        have dl := (HB5.out.cell (p := ⟨bb, o + k * 11 + 1, none⟩) HBL.out).trans HKX.out
        have HLQ := Lib.hid (leq_r (HLT.out.here HB5.out) x.label x.label)
        rw [lqI_self HLT.out.lat] at HLQ
        cases hok : isL n x.label with
        | false =>
          rw [hok] at HLQ
          have HX2 : Hid ((0 : Int) = xa ∧ (3 : Int) = xb) := Lib.hid (by
            have h := HX.out
            unfold labX at h
            rw [(labsV_err HSJ.out HLAB.out).2 _ HLO.out hok] at h
            simp only [show ¬ ((3 : Int) = 0) from by decide, if_false] at h
            injection h with h1 h2
            exact ⟨h1, h2⟩)
          clear hok
          go_wp2_with (go_at_call 32; refine HLQ.out.mono ?_; rintro e z2 ⟨rfl, h⟩; rw [← h]; clear h z2)
          go_ret2
          exact ⟨by rw [HXE.out.1, HXE.out.2, ← HX2.out.1, ← HX2.out.2]; rfl, HB5.out⟩
        | true =>
          rw [hok] at HLQ
          have HST := Lib.hid (labsV_step HSJ.out _ HLO.out hok HLAB.out)
          clear hok
          go_upto_region 15 with (go_at_call 32; refine HLQ.out.mono ?_; rintro e z2 ⟨rfl, h⟩; rw [← h]; clear h z2)
          have HWZ : Hid (OwnSl 3 1 encI (w5.alloc (.cells ⟨encI x.label⟩ 3)) w3.heap.size (.slice UA ls.length uc) ls) := Lib.hid (OwnSl.below (OwnSl.below HOWN.out HB6.out) (box_below w5 (.cells ⟨encI x.label⟩ 3)))
          have HCE := Lib.hid (cells_box w5 (encI x.label) 3)
          have HK1 : Hid (ls.length + 1 ≤ maxLen) := Lib.hid (by unfold maxLen; have := HLS.out; have := HNL.out; omega)
          have HK2 : Hid ((ls.length + 1) * 8 ≤ 140737488355328) := Lib.hid (by have := HLS.out; have := HNL.out; omega)
          have HB7 : Hid (Below w3.heap.size w3 (w5.alloc (.cells ⟨encI x.label⟩ 3))) := Lib.hid (by
            have h := HBW.out.trans (HB6.out.mono HBW.out.size)
            exact h.alloc h.size _)
          go_wp2_with (at_builtin; refine wl_push rfl _ _ 73 rfl w3.heap.size 3 i0 (.int .i64 0) 1 8 encI Tryz.underlying73 HI0.out HZ0.out HZ1.out HZ2.out rfl (by decide) encI_lenL encI_oneL _ _ rfl HWZ.out w5.heap.size 1 x.label rfl HCE.out HK1.out HK2.out HB7.out.size ?_; intro v' W2 hown2 hg2; have HO3 := Lib.hid hown2; have HB8 := Lib.hid (ipush_below HB7.out HB7.out.size HWZ.out (Nat.le_refl _) hg2); clear hown2 hg2)
          go_roundg g
          case measure => omega
          case rel => exact ⟨j + 1, ls ++ [x.label], by omega, by go_num, by rw [List.length_append, HLS.out]; rfl, HST.out, HO3.out, HB8.out⟩
theorem ilabel_any (n : Nat) (L : Rel) (lb : Nat) (t : ET) (E : List VarT) (cs : List Value) (v : Value) (w : World) (hl : LatR w lb n L) (hv : ExpAt w w.heap.size cs t) (hE : SlAt w w.heap.size 11 (VarAt w w.heap.size) v E) (hlen : E.length ≤ 10000) :
    Calls Tryz.prog 11 #[.pointer (some ⟨lb, 0, none⟩), .agg ⟨cs⟩, v] w fun e w' => e = .returned (.tuple #[.int .i64 (labE n L E t).1, .int .i64 (labE n L E t).2]) ∧ Below w.heap.size w w' := by
  unfold labE
  cases hr : rightET t with
  | true => rw [if_pos rfl]; exact ilabel_right n L lb t E cs v w hl hv hE hlen hr
  | false => rw [if_neg (by decide)]; exact ilabel_bad lb t cs v w hv hr
end Go.Proofs.YtppmkehdhpgdcaaGreat
end
section
namespace Go.Proofs.YtppmkehdhpgdcaaGreat
open Go Go.RowKit P
set_option linter.unusedVariables false
set_option linter.unusedSimpArgs false
mutual
def szE : ET → Nat
  | .mk _ _ _ _ its => szEL its + 1
def szEL : List ET → Nat
  | [] => 0
  | a :: l => szE a + szEL l
end
theorem szE_pos (t : ET) : 1 ≤ szE t := by cases t; rw [szE]; omega
theorem cntEL_min : ∀ (l : List ET), (∀ x ∈ l, ∀ n, n < 500 → cntE x n = min 500 (n + szE x)) → ∀ n, n ≤ 500 → cntEL l n = min 500 (n + szEL l)
  | [], _, n, hn => by rw [cntEL, szEL]; omega
  | a :: l, h, n, hn => by
    rw [cntEL, szEL]
    by_cases h5 : 500 ≤ n
    · rw [if_pos h5]; omega
    · rw [if_neg h5, h a (by simp) n (by omega), cntEL_min l (fun x hx => h x (by simp [hx])) _ (by omega)]
      omega
theorem cntE_min (t : ET) : ∀ n, n < 500 → cntE t n = min 500 (n + szE t) := by
  induction t using ET.ind with
  | h k s v ns its ih =>
    intro n hn
    rw [cntE, szE, cntEL_min its ih (n + 1) (by omega)]
    omega
mutual
def nmE : ET → List ByteArray
  | .mk k s _ _ its => (if k = 2 then [s] else []) ++ nmEL its
def nmEL : List ET → List ByteArray
  | [] => []
  | a :: l => nmE a ++ nmEL l
end
theorem visEL_nm : ∀ (l : List ET), (∀ x ∈ l, ∀ n, n + szE x ≤ 500 → visE x n = nmE x) → ∀ n, n + szEL l ≤ 500 → visEL l n = nmEL l
  | [], _, n, hn => by rw [visEL, nmEL]
  | a :: l, h, n, hn => by
    rw [szEL] at hn
    have hp := szE_pos a
    rw [visEL, nmEL, if_neg (by omega), h a (by simp) n (by omega), cntE_min a n (by omega), visEL_nm l (fun x hx => h x (by simp [hx])) _ (by omega)]
theorem visE_nm (t : ET) : ∀ n, n + szE t ≤ 500 → visE t n = nmE t := by
  induction t using ET.ind with
  | h k s v ns its ih =>
    intro n hn
    rw [szE] at hn
    rw [visE, nmE, visEL_nm its ih (n + 1) (by omega)]
theorem mem_putsP (x : List UInt8) : ∀ (m l : List (List UInt8)), x ∈ m.foldl putL l ↔ x ∈ m ∨ x ∈ l
  | [], l => by simp
  | a :: m, l => by
    rw [List.foldl_cons, mem_putsP x m, mem_putL, List.mem_cons]
    constructor
    · rintro (h | h | h)
      · exact .inl (.inr h)
      · exact .inl (.inl h)
      · exact .inr h
    · rintro ((h | h) | h)
      · exact .inr (.inl h)
      · exact .inl h
      · exact .inr (.inr h)
theorem reads_both (k : Int) (s : ByteArray) (v : VT) (ns : List ByteArray) (x y : ET) (hk : k ≠ 2) (hc : cntE (.mk k s v ns [x, y]) 0 ≤ 200) (z : List UInt8) :
    z ∈ readL (.mk k s v ns [x, y]) ↔ z ∈ readL x ∨ z ∈ readL y := by
  rw [cntE_min _ 0 (by omega), szE, szEL, szEL, szEL] at hc
  have hx := szE_pos x
  have hy := szE_pos y
  unfold readL
  rw [visE_nm _ 0 (by rw [szE, szEL, szEL, szEL]; omega), visE_nm x 0 (by omega), visE_nm y 0 (by omega), mem_putsP, mem_putsP, mem_putsP]
  rw [nmE, if_neg hk, nmEL, nmEL, nmEL]
  simp only [List.nil_append, List.append_nil, List.map_append, List.mem_append, List.not_mem_nil, or_false]
theorem rightEL_down : ∀ (l : List ET) (d : Nat), (∀ x ∈ l, ∀ d, rightE x (d + 1) = true → rightE x d = true) → rightEL l (d + 1) = true → rightEL l d = true
  | [], _, _, _ => by rw [rightEL]
  | a :: l, d, h, hr => by
    rw [rightEL, Bool.and_eq_true] at hr
    rw [rightEL, h a (by simp) d hr.1, rightEL_down l d (fun x hx => h x (by simp [hx])) hr.2]; rfl
theorem rightE_down (t : ET) : ∀ d, rightE t (d + 1) = true → rightE t d = true := by
  induction t using ET.ind with
  | h k s v ns its ih =>
    intro d hr
    rw [rightE] at hr ⊢
    simp only [Bool.and_eq_true, decide_eq_true_eq] at hr ⊢
    obtain ⟨h1, h2, h3, h4, h5⟩ := hr
    exact ⟨by omega, h2, h3, h4, rightEL_down its (d + 1) ih h5⟩
theorem right_two {k : Int} {s : ByteArray} {v : VT} {ns : List ByteArray} {x y : ET} (h : rightET (.mk k s v ns [x, y]) = true) :
    rightET x = true ∧ rightET y = true ∧ cntE (.mk k s v ns [x, y]) 0 ≤ 200 := by
  unfold rightET at *
  simp only [Bool.and_eq_true, decide_eq_true_eq] at *
  obtain ⟨hc, hr⟩ := h
  have hc0 := hc
  rw [cntE_min _ 0 (by omega), szE, szEL, szEL, szEL] at hc0
  rw [rightE] at hr
  simp only [Bool.and_eq_true, decide_eq_true_eq, rightEL] at hr
  obtain ⟨_, _, _, _, h6, h7, _⟩ := hr
  refine ⟨⟨?_, rightE_down x 1 h6⟩, ⟨?_, rightE_down y 1 h7⟩, hc⟩
  · rw [cntE_min x 0 (by omega)]; omega
  · rw [cntE_min y 0 (by omega)]; omega
def knownL (E : List VarT) (ok : Int → Bool) (s : List UInt8) : Bool := match labOf E s with
  | none => false
  | some a => ok a
theorem labsV_zero (E : List VarT) (ok : Int → Bool) : ∀ l : List (List UInt8), (labsV E ok l).2 = 0 ↔ ∀ s ∈ l, knownL E ok s = true
  | [] => by simp [labsV]
  | s :: r => by
    rw [labsV]
    have ih := labsV_zero E ok r
    cases h : labOf E s with
    | none => simp [knownL, h]
    | some a =>
      cases ha : ok a with
      | true => dsimp only; rw [if_pos ha]; simp only [List.mem_cons, forall_eq_or_imp]; rw [ih]; simp [knownL, h, ha]
      | false => simp [knownL, h, ha]
theorem labsV_all (E : List VarT) (ok : Int → Bool) : ∀ l : List (List UInt8), (labsV E ok l).2 = 0 → (labsV E ok l).1 = l.map fun s => (labOf E s).getD 0
  | [], _ => rfl
  | s :: r, h => by
    rw [labsV] at h ⊢
    cases hl : labOf E s with
    | none => simp [hl] at h
    | some a =>
      rw [hl] at h
      cases ha : ok a with
      | true => simp only [ha, if_true] at h ⊢; rw [labsV_all E ok r h]; simp [hl]
      | false => simp [ha] at h
theorem labsV_okL (E : List VarT) (ok : Int → Bool) : ∀ l : List (List UInt8), (labsV E ok l).1.all ok = true
  | [] => rfl
  | s :: r => by
    rw [labsV]
    cases hl : labOf E s with
    | none => rfl
    | some a =>
      cases ha : ok a with
      | true => dsimp only; rw [if_pos ha]; simp only [List.all_cons, ha, Bool.true_and]; exact labsV_okL E ok r
      | false => dsimp only; rw [if_neg (by rw [ha]; decide)]; rfl
theorem fold_leP {n : Nat} {L : Rel} (h : Lat n L) {d : Nat} : ∀ (l : List Int) (x : Nat), x < n → allL n l = true → L (foldJ n L x l) d = (L x d && l.all fun a => L a.toNat d)
  | [], x, _, _ => by simp [foldJ]
  | a :: l, x, hx, ha => by
    simp only [allL, List.all_cons, Bool.and_eq_true] at ha
    obtain ⟨y, rfl, hy⟩ := isL_true ha.1
    have ih := fold_leP h (d := d) l (jj n L x y) (h.jj_lt hx hy) ha.2
    show L (foldJ n L (jj n L x ((y : Int)).toNat) l) d = _
    have hj : L (jj n L x y) d = (L x d && L y d) := by
      have sp := h.jj_spec hx hy
      rw [Bool.eq_iff_iff, Bool.and_eq_true]
      exact ⟨fun k => ⟨h.trans _ _ _ sp.2.2.1 k, h.trans _ _ _ sp.2.2.2.1 k⟩, fun k => sp.2.2.2.2 _ k.1 k.2⟩
    rw [Int.toNat_natCast, ih, hj, List.all_cons, Int.toNat_natCast, Bool.and_assoc]
theorem fold_union {n : Nat} {L : Rel} (h : Lat n L) {a b c : List Int} (ha : allL n a = true) (hb : allL n b = true) (hc : allL n c = true) (hm : ∀ z, z ∈ c ↔ z ∈ a ∨ z ∈ b) :
    foldJ n L (bot n L) c = jj n L (foldJ n L (bot n L) a) (foldJ n L (bot n L) b) := by
  have l1 := foldJ_lt h a _ h.bot_lt ha
  have l2 := foldJ_lt h b _ h.bot_lt hb
  have sp := h.jj_spec l1 l2
  refine (h.jj_eq ?_ ?_ fun d k1 k2 => ?_).symm
  · rw [fold_leP h a _ h.bot_lt ha, Bool.and_eq_true, List.all_eq_true]
    have r := h.refl _ (foldJ_lt h c _ h.bot_lt hc)
    rw [fold_leP h c _ h.bot_lt hc, Bool.and_eq_true, List.all_eq_true] at r
    exact ⟨r.1, fun z hz => r.2 z ((hm z).2 (.inl hz))⟩
  · rw [fold_leP h b _ h.bot_lt hb, Bool.and_eq_true, List.all_eq_true]
    have r := h.refl _ (foldJ_lt h c _ h.bot_lt hc)
    rw [fold_leP h c _ h.bot_lt hc, Bool.and_eq_true, List.all_eq_true] at r
    exact ⟨r.1, fun z hz => r.2 z ((hm z).2 (.inr hz))⟩
  · rw [fold_leP h a _ h.bot_lt ha, Bool.and_eq_true, List.all_eq_true] at k1
    rw [fold_leP h b _ h.bot_lt hb, Bool.and_eq_true, List.all_eq_true] at k2
    rw [fold_leP h c _ h.bot_lt hc, Bool.and_eq_true, List.all_eq_true]
    refine ⟨k1.1, fun z hz => ?_⟩
    rcases (hm z).1 hz with h1 | h1
    · exact k1.2 z h1
    · exact k2.2 z h1
theorem parts_law {n : Nat} {L : Rel} (h : Lat n L) (E : List VarT) {k : Int} {s : ByteArray} {v : VT} {ns : List ByteArray} {x y : ET} (hk : k ≠ 2) (hr : rightET (.mk k s v ns [x, y]) = true) :
    ((decide ((labE n L E x).2 = 0) && decide ((labE n L E y).2 = 0)) = decide ((labE n L E (.mk k s v ns [x, y])).2 = 0)) ∧
    ((labE n L E (.mk k s v ns [x, y])).2 = 0 → (labE n L E (.mk k s v ns [x, y])).1 = jnI n L (labE n L E x).1 (labE n L E y).1) := by
  obtain ⟨hx, hy, hc⟩ := right_two hr
  have hm := reads_both k s v ns x y hk hc
  unfold labE labX
  rw [if_pos hx, if_pos hy, if_pos hr]
  generalize readL (.mk k s v ns [x, y]) = C at *
  generalize readL x = A at *
  generalize readL y = B at *
  have hz : (labsV E (isL n) C).2 = 0 ↔ (labsV E (isL n) A).2 = 0 ∧ (labsV E (isL n) B).2 = 0 := by
    rw [labsV_zero, labsV_zero, labsV_zero]
    exact ⟨fun g => ⟨fun z hz => g z ((hm z).2 (.inl hz)), fun z hz => g z ((hm z).2 (.inr hz))⟩, fun g z hz => ((hm z).1 hz).elim (g.1 z) (g.2 z)⟩
  have e2 : ∀ l, ((if (labsV E (isL n) l).2 = 0 then (((foldJ n L (bot n L) (labsV E (isL n) l).1 : Nat) : Int), (0 : Int)) else ((0 : Int), (labsV E (isL n) l).2)).2 = 0) = ((labsV E (isL n) l).2 = 0) := by
    intro l
    by_cases h0 : (labsV E (isL n) l).2 = 0
    · rw [if_pos h0]; simp [h0]
    · rw [if_neg h0]
  refine ⟨?_, fun hg => ?_⟩
  · simp only [e2]
    rw [Bool.eq_iff_iff, Bool.and_eq_true, decide_eq_true_eq, decide_eq_true_eq, decide_eq_true_eq]
    exact hz.symm
  · have hC : (labsV E (isL n) C).2 = 0 := by rw [e2] at hg; exact hg
    obtain ⟨hA, hB⟩ := hz.1 hC
    rw [if_pos hA, if_pos hB, if_pos hC]
    have aA : allL n (labsV E (isL n) A).1 = true := labsV_okL E (isL n) A
    have aB : allL n (labsV E (isL n) B).1 = true := labsV_okL E (isL n) B
    have aC : allL n (labsV E (isL n) C).1 = true := labsV_okL E (isL n) C
    have l1 := foldJ_lt h _ _ h.bot_lt aA
    have l2 := foldJ_lt h _ _ h.bot_lt aB
    show ((foldJ n L (bot n L) (labsV E (isL n) C).1 : Nat) : Int) = _
    unfold jnI
    rw [isL_nat l1, isL_nat l2, fold_union h aA aB aC]
    · simp
    · intro z
      rw [labsV_all E _ C hC, labsV_all E _ A hA, labsV_all E _ B hB]
      simp only [List.mem_map]
      constructor
      · rintro ⟨q, hq, rfl⟩
        rcases (hm q).1 hq with g | g
        · exact .inl ⟨q, g, rfl⟩
        · exact .inr ⟨q, g, rfl⟩
      · rintro (⟨q, hq, rfl⟩ | ⟨q, hq, rfl⟩)
        · exact ⟨q, (hm q).2 (.inl hq), rfl⟩
        · exact ⟨q, (hm q).2 (.inr hq), rfl⟩
end Go.Proofs.YtppmkehdhpgdcaaGreat
end
