/- Parts of a proof: VOrd, SameE, VRowP, KeepS, IOwn. -/
import Derived.Test.YtpmjcbjdcjjplaaGreatPack4
import Derived.Test.YtpmjcbjdcjjplaaGreatPack6
import Derived.Test.YtpmjcbjdcjjplaaGreatPack9
import Derived.Test.YtpmjcbjdcjjplaaGreatPack10
import Derived.Test.YtpmjcbjdcjjplaaGreatPack11
import Derived.Test.YtpmjcbjdcjjplaaGreatPack12
section
namespace Go.Proofs.YtpmjcbjdcjjplaaGreat
open Go Go.RowKit
set_option linter.unusedVariables false
mutual
def ordV : VT → VT → Int
  | .mk k n f s ns its, .mk k' n' f' s' ns' its' =>
    if cmpI k k' ≠ 0 then cmpI k k' else if rowV k n n' f f' s s' ns ns' ≠ 0 ∨ leafK k = true then rowV k n n' f f' s s' ns ns' else ordL its its'
def ordL : List VT → List VT → Int
  | [], [] => 0
  | [], _ :: _ => -1
  | _ :: _, [] => 1
  | a :: l, b :: r => if ordV a b ≠ 0 then ordV a b else ordL l r
end
theorem ordL_eq : ∀ l r : List VT, ordL l r = listC ordV l r
  | [], [] => by simp [ordL, listC]
  | [], _ :: _ => by simp [ordL, listC]
  | _ :: _, [] => by simp [ordL, listC]
  | a :: l, b :: r => by
    rw [ordL, listC, ordL_eq l r]
theorem val_one {w : World} {B : Nat} {cs : List Value} {t : VT} (h : ValAt w B cs t) : cs.length = 6 ∧ ∀ u ∈ cs, u.oneCell' = true := by
  cases t with
  | mk k n f s ns its =>
    obtain ⟨vn, vi, rfl, _, _, _, _, h1, _, h2⟩ := h.inv
    obtain ⟨_, A, c, rfl, _⟩ := h1
    obtain ⟨_, A', c', rfl, _⟩ := h2
    refine ⟨rfl, fun u hu => ?_⟩
    simp only [List.mem_cons, List.not_mem_nil, or_false] at hu
    rcases hu with rfl | rfl | rfl | rfl | rfl | rfl <;> rfl
theorem ValAt.next {w w' : World} {cs : List Value} {t : VT} (h : ValAt w w.heap.size cs t) (hb : Below w.heap.size w w') : ValAt w' w'.heap.size cs t := (h.under hb).more hb.size
theorem vals_at {w : World} {v : Value} {l : List VT} (h : SlAt w w.heap.size 6 (ValAt w w.heap.size) v l) : ∃ A c, v = .slice A l.length c ∧ l.length ≤ 9223372036854775807 ∧
    (0 < l.length → ∃ b o, A = some ⟨b, o, none⟩ ∧ b < w.heap.size ∧ ∀ (i : Nat) x, l[i]? = some x → ∃ cs : List Value, w.rangeAt b (o + i * 6) cs ∧ ValAt w w.heap.size cs x) := by
  obtain ⟨h0, A, c, h1, h2⟩ := h
  refine ⟨A, c, h1, h0, fun hp => ?_⟩
  obtain ⟨b, o, h3, h4, h5⟩ := h2 hp
  refine ⟨b, o, h3, h4, fun i x hx => ?_⟩
  obtain ⟨cs, _, h7, h8⟩ := h5 i x hx
  exact ⟨cs, h7, h8⟩
def OrdPost (r : Int) (w : World) (e : Ending) (w' : World) : Prop := e = .returned (.int .i64 r) ∧ Below w.heap.size w w'
set_option maxHeartbeats 4000000 in
set_option maxRecDepth 100000 in
theorem cmpf_any (l r : List VT) (u v : Value) (w : World) (hu : SlAt w w.heap.size 6 (ValAt w w.heap.size) u l) (hv : SlAt w w.heap.size 6 (ValAt w w.heap.size) v r)
    (hF : ∀ x ∈ l, ∀ y cs cs' z, ValAt z z.heap.size cs x → ValAt z z.heap.size cs' y → Calls Tryz.prog 64 #[.agg ⟨cs⟩, .agg ⟨cs'⟩] z (OrdPost (ordV x y) z)) :
    Calls Tryz.prog 76 #[u, v, .func (.func 64) #[] #[]] w (OrdPost (listC ordV l r) w) := by
  obtain ⟨A, ca, rfl, hl, ha⟩ := vals_at hu
  obtain ⟨D, cb, rfl, hr, hb⟩ := vals_at hv
  have HA := Lib.hid ha
  have HB := Lib.hid hb
  have HF := Lib.hid hF
  have HS := Lib.hid (fun k x y => listC_step (f := ordV) (l := l) (r := r) (k := k) (x := x) (y := y))
  have HL := Lib.hid (fun k x => listC_long (f := ordV) (l := l) (r := r) (k := k) (x := x))
  have HE := Lib.hid (fun k => listC_end (f := ordV) (l := l) (r := r) (k := k))
  have HT := Lib.hid (fun k => listC_both (f := ordV) (l := l) (r := r) (k := k))
  have H0 : Hid (listC ordV (l.drop 0) (r.drop 0) = listC ordV l r) := Lib.hid rfl
  have hl2 : (l.length : Int) ≤ 9223372036854775807 := by omega
  have hr2 : (r.length : Int) ≤ 9223372036854775807 := by omega
  clear ha hb hu hv hF
  generalize listC ordV l r = res at *
  go_enter Tryz.func76, Tryz.ntmps76
  go_wp2
  go_loopg [13] l.length (fun q x u => ∃ k : Nat, k + q = l.length ∧ x = .int .i64 k ∧ Below w.heap.size w u ∧ listC ordV (l.drop k) (r.drop k) = res)
  case atStart => exact ⟨0, by omega, rfl, Below.refl _ _, H0.out⟩
  case round =>
    obtain ⟨k, hk, rfl, hb, hres⟩ := hrel
    have HR := Lib.hid hres
    have HBK := Lib.hid hb
    clear hres hb
    cases gk with
    | zero =>
      obtain rfl : k = l.length := by omega
      have hge : ¬ ((l.length : Int) < (l.length : Int)) := by omega
      by_cases hlr : l.length < r.length
      · have HV := Lib.hid ((HR.out).symm.trans (HE.out l.length (Nat.le_refl _) hlr))
        have t1 : (l.length : Int) < (r.length : Int) := by omega
        clear HR hlr
        go_wp2
        go_ret
        exact ⟨ret_int HV.out.symm, HBK.out⟩
      · have HV := Lib.hid ((HR.out).symm.trans (HT.out l.length (Nat.le_refl _) (by omega)))
        have t1 : ¬ ((l.length : Int) < (r.length : Int)) := by omega
        clear HR hlr
        go_wp2
        go_ret
        exact ⟨ret_int HV.out.symm, HBK.out⟩
    | succ q =>
      have hlt : (k : Int) < (l.length : Int) := by omega
      obtain ⟨x, hx⟩ : ∃ x, l[k]? = some x := ⟨_, List.getElem?_eq_getElem (by omega)⟩
      obtain ⟨b1, o1, rfl, hb1, c1⟩ := HA.out (by omega)
      obtain ⟨cs, hcs, hvx⟩ := c1 k x hx
      have HR1 := Lib.hid (rangeAt_below hcs HBK.out hb1)
      have HVX := Lib.hid (ValAt.next hvx HBK.out)
      have HCL := Lib.hid (val_one hvx)
      have HMX := Lib.hid (List.mem_of_getElem? hx)
      have HKX := Lib.hid hx
      clear c1 hcs hvx hx
      go_upto_region 4 with (first | ((with_reducible refine wl_sload 38 _ rfl ?hwa b1 (o1 + k * 6) cs _ rfl HR1.out Tryz.underlying38 rfl ?hia ?_); (case hwa => exact wantA rfl); (case hia => rw [HCL.out.1]; kernel_rfl)) | ((with_reducible refine wl_sbox 38 _ _ rfl ?hwb wr ?znb cs ?hwldb ?hzb ?hxb ?hyb ?hib ?h1b ?_); (case hwldb => rfl); (case hxb => rfl); (case hyb => rfl); (case hwb => exact wantA rfl); (case hzb => rw [HCL.out.1]; rfl); (case hib => rw [HCL.out.1]; kernel_rfl); (case h1b => exact HCL.out.2); intro Z hbx; have HX := Lib.hid hbx; clear hbx))
      have HBZ := Lib.hid (HBK.out.trans (HX.out.below.mono HBK.out.size))
      have HRA := Lib.hid HX.out.range
      have HVX2 := Lib.hid (ValAt.next HVX.out HX.out.below)
      obtain ⟨pa, hpa⟩ : ∃ pa, wr.heap.size = pa := ⟨_, rfl⟩
      rw [hpa] at HRA
      have HPA : Hid (pa < Z.heap.size) := Lib.hid (hpa ▸ HX.out.size)
      rw [hpa]
      clear hpa HR1 HVX HX
      by_cases hkr : k < r.length
      · obtain ⟨y, hy⟩ : ∃ y, r[k]? = some y := ⟨_, List.getElem?_eq_getElem hkr⟩
        obtain ⟨b2, o2, rfl, hb2, c2⟩ := HB.out (by omega)
        obtain ⟨cs', hcs, hvy⟩ := c2 k y hy
        have HR2 := Lib.hid (rangeAt_below hcs HBZ.out hb2)
        have HVY := Lib.hid (ValAt.next hvy HBZ.out)
        have HCM := Lib.hid (val_one hvy)
        have hlt2 : (k : Int) < (r.length : Int) := by omega
        have HV := Lib.hid ((HR.out).symm.trans (HS.out k x y HKX.out hy))
        clear c2 hcs hvy hy hkr
        go_upto_region 7 with (first | ((with_reducible refine wl_sload 38 _ rfl ?hwc b2 (o2 + k * 6) cs' _ rfl HR2.out Tryz.underlying38 rfl ?hic ?_); (case hwc => exact wantA rfl); (case hic => rw [HCM.out.1]; kernel_rfl)) | ((with_reducible refine wl_sbox 38 _ _ rfl ?hwd Z ?znd cs' ?hwldd ?hzd ?hxd ?hyd ?hid ?h1d ?_); (case hwldd => rfl); (case hxd => rfl); (case hyd => rfl); (case hwd => exact wantA rfl); (case hzd => rw [HCM.out.1]; rfl); (case hid => rw [HCM.out.1]; kernel_rfl); (case h1d => exact HCM.out.2); intro Z2 hbx; have HX2 := Lib.hid hbx; clear hbx))
        have HBZ2 := Lib.hid (HBZ.out.trans (HX2.out.below.mono HBZ.out.size))
        have HRA2 := Lib.hid (rangeAt_below HRA.out HX2.out.below HPA.out)
        have HRB2 := Lib.hid HX2.out.range
        have HVX3 := Lib.hid (ValAt.next HVX2.out HX2.out.below)
        have HVY3 := Lib.hid (ValAt.next HVY.out HX2.out.below)
        obtain ⟨pb, hpb⟩ : ∃ pb, Z.heap.size = pb := ⟨_, rfl⟩
        rw [hpb] at HRB2
        rw [hpb]
        have HC := Lib.hid (HF.out x HMX.out y cs cs' Z2 HVX3.out HVY3.out)
        clear hpb HX2 HR2 HVX2 HVY HRA HPA HVX3 HVY3
        generalize ordV x y = cv at *
        by_cases hc : cv = 0
        · subst hc
          have HV2 := Lib.hid (HV.out.trans (if_neg (fun h => h rfl)))
          clear HV
          go_wp2_with (first | ((with_reducible refine wl_sload 38 _ rfl ?hwe pa 0 cs _ rfl HRA2.out Tryz.underlying38 rfl ?hie ?_); (case hwe => exact wantA rfl); (case hie => rw [HCL.out.1]; kernel_rfl)) | ((with_reducible refine wl_sload 38 _ rfl ?hwf pb 0 cs' _ rfl HRB2.out Tryz.underlying38 rfl ?hif ?_); (case hwf => exact wantA rfl); (case hif => rw [HCM.out.1]; kernel_rfl)) | (go_at_call 64; refine HC.out.mono ?_; rintro e z ⟨rfl, hbz⟩; have HB3 := Lib.hid hbz; clear hbz))
          go_roundg q
          case measure => omega
          case rel => exact ⟨k + 1, by omega, by go_num, HBZ2.out.trans (HB3.out.mono HBZ2.out.size), HV2.out.symm⟩
        · have HV2 := Lib.hid (HV.out.trans (if_pos hc))
          have t2 : (cv != 0) = true := by simpa using hc
          clear HV hc
          go_wp2_with (first | ((with_reducible refine wl_sload 38 _ rfl ?hwe pa 0 cs _ rfl HRA2.out Tryz.underlying38 rfl ?hie ?_); (case hwe => exact wantA rfl); (case hie => rw [HCL.out.1]; kernel_rfl)) | ((with_reducible refine wl_sload 38 _ rfl ?hwf pb 0 cs' _ rfl HRB2.out Tryz.underlying38 rfl ?hif ?_); (case hwf => exact wantA rfl); (case hif => rw [HCM.out.1]; kernel_rfl)) | (go_at_call 64; refine HC.out.mono ?_; rintro e z ⟨rfl, hbz⟩; have HB3 := Lib.hid hbz; clear hbz))
          go_ret
          exact ⟨ret_int HV2.out.symm, HBZ2.out.trans (HB3.out.mono HBZ2.out.size)⟩
      · have HV := Lib.hid ((HR.out).symm.trans (HL.out k x HKX.out (by omega)))
        have hge : (r.length : Int) ≤ (k : Int) := by omega
        clear HR hkr
        go_wp2
        go_ret
        exact ⟨ret_int HV.out.symm, HBZ.out⟩
set_option maxHeartbeats 4000000 in
set_option maxRecDepth 100000 in
theorem vorder : ∀ (t t' : VT) (cs cs' : List Value) (w : World), ValAt w w.heap.size cs t → ValAt w w.heap.size cs' t' → Calls Tryz.prog 64 #[.agg ⟨cs⟩, .agg ⟨cs'⟩] w (OrdPost (ordV t t') w) := by
  intro t
  induction t using VT.ind with
  | h k n f s ns its ih =>
    intro t' cs cs' w hv hv'
    cases t' with
    | mk k' n' f' s' ns' its' =>
    have IH := Lib.hid ih
    have HVA := Lib.hid hv
    have HVB := Lib.hid hv'
    obtain ⟨vn, vi, rfl, _, _, hf, _, hn, _, hi⟩ := hv.inv
    obtain ⟨vn', vi', rfl, _, _, hf', _, hn', _, hi'⟩ := hv'.inv
    have HF := Lib.hid (And.intro (wf64 hf) (wf64 hf'))
    have HN := Lib.hid hn
    have HN' := Lib.hid hn'
    have HI := Lib.hid hi
    have HI' := Lib.hid hi'
    have HO : Hid (ordV (.mk k n f s ns its) (.mk k' n' f' s' ns' its') = if cmpI k k' ≠ 0 then cmpI k k' else if rowV k n n' f f' s s' ns ns' ≠ 0 ∨ leafK k = true then rowV k n n' f f' s s' ns ns' else listC ordV its its') := Lib.hid (by rw [ordV, ordL_eq])
    clear ih hv hv' hf hf' hn hn' hi hi'
    generalize hres : ordV (.mk k n f s ns its) (.mk k' n' f' s' ns' its') = res at *
    clear hres
    go_enter Tryz.func64, Tryz.ntmps64
    go_upto_region 1 with (fail)
    have HA := Lib.hid (range_box w [.int .i64 k, .int .i64 n, .float .f64 f, .string s, vn, vi] 38)
    have HB1 := Lib.hid (box_below w (.cells ⟨[.int .i64 k, .int .i64 n, .float .f64 f, .string s, vn, vi]⟩ 38))
    have HS1 := Lib.hid (box_size w (.cells ⟨[.int .i64 k, .int .i64 n, .float .f64 f, .string s, vn, vi]⟩ 38))
    have HSE : Hid ((w.alloc (.cells ⟨[.int .i64 k, .int .i64 n, .float .f64 f, .string s, vn, vi]⟩ 38)).heap.size = w.heap.size + 1) := Lib.hid (by simp)
    generalize w.alloc (.cells ⟨[.int .i64 k, .int .i64 n, .float .f64 f, .string s, vn, vi]⟩ 38) = W1 at *
    have HB := Lib.hid (range_box W1 [.int .i64 k', .int .i64 n', .float .f64 f', .string s', vn', vi'] 38)
    have HB2 := Lib.hid (box_below W1 (.cells ⟨[.int .i64 k', .int .i64 n', .float .f64 f', .string s', vn', vi']⟩ 38))
    have HS2 := Lib.hid (box_size W1 (.cells ⟨[.int .i64 k', .int .i64 n', .float .f64 f', .string s', vn', vi']⟩ 38))
    generalize W1.alloc (.cells ⟨[.int .i64 k', .int .i64 n', .float .f64 f', .string s', vn', vi']⟩ 38) = W at *
    have HAW := Lib.hid (rangeAt_below HA.out HB2.out HS1.out)
    have HBW := Lib.hid (HB1.out.trans (HB2.out.mono HB1.out.size))
    have HLT := Lib.hid (Nat.lt_of_lt_of_le HS1.out HB2.out.size)
    rw [HSE.out] at HB HS2
    obtain ⟨pb, hpb⟩ : ∃ pb, w.heap.size + 1 = pb := ⟨_, rfl⟩
    rw [hpb] at HB HS2
    rw [hpb]
    have d0 : W.cell? ⟨w.heap.size, 0, none⟩ = some (.int .i64 k) := by have := HAW.out 0 _ rfl; simpa using this
    have e0 : W.cell? ⟨pb, 0, none⟩ = some (.int .i64 k') := by have := HB.out 0 _ rfl; simpa using this
    have HRW := Lib.hid (row_any k k' n n' f f' s s' ns ns' vn vn' vi vi' w.heap.size pb W HAW.out HB.out ⟨HLT.out, HS2.out⟩ HF.out.1 HF.out.2 ((HN.out.below HBW.out fun _ _ _ h => h).more HBW.out.size) ((HN'.out.below HBW.out fun _ _ _ h => h).more HBW.out.size))
    have HCK := Lib.hid (fun w => cmpi k k' w)
    have HLF := Lib.hid (fun w => leaf_any k w)
    clear HA HB1 HS1 HSE HB2 hpb
    generalize cmpI k k' = ck at *
    by_cases hck : ck = 0
    · subst hck
      have HO2 := Lib.hid (HO.out.trans (if_neg (fun h => h rfl)))
      clear HO
      generalize rowV k n n' f f' s s' ns ns' = rv at *
      by_cases hrv : rv = 0
      · subst hrv
        cases hlf : leafK k with
        | true =>
          have HO3 := Lib.hid (HO2.out.trans (if_pos (.inr hlf)))
          rw [hlf] at HLF
          clear HO2 hlf
          go_wp2_with (first | (go_at_call 73; refine (HCK.out _).mono ?_; rintro e z1 ⟨rfl, rfl⟩) | (go_at_call 74; refine HRW.out.mono ?_; rintro e w2 ⟨rfl, hb2⟩; have HB2 := Lib.hid hb2; have d0' := (hb2.cell (p := ⟨w.heap.size, 0, none⟩) HLT.out).trans d0; clear hb2) | (go_at_call 75; refine (HLF.out _).mono ?_; rintro e z1 ⟨rfl, rfl⟩))
          go_ret
          exact ⟨ret_int HO3.out.symm, HBW.out.trans (HB2.out.mono HBW.out.size)⟩
        | false =>
          have HO3 := Lib.hid (HO2.out.trans (if_neg (fun h => h.elim (fun h => h rfl) (fun h => by rw [hlf] at h; cases h))))
          rw [hlf] at HLF
          clear HO2 hlf
          go_upto_region 5 with (first | (go_at_call 73; refine (HCK.out _).mono ?_; rintro e z1 ⟨rfl, rfl⟩) | (go_at_call 74; refine HRW.out.mono ?_; rintro e w2 ⟨rfl, hb2⟩; have HB2 := Lib.hid hb2; have d0' := (hb2.cell (p := ⟨w.heap.size, 0, none⟩) HLT.out).trans d0; clear hb2))
          have HBT := Lib.hid (HBW.out.trans (HB2.out.mono HBW.out.size))
          have d5 : w2.cell? ⟨w.heap.size, 5, none⟩ = some vi := by have := HAW.out 5 vi rfl; rw [Nat.zero_add] at this; exact (HB2.out.cell (p := ⟨w.heap.size, 5, none⟩) HLT.out).trans this
          have e5 : w2.cell? ⟨pb, 5, none⟩ = some vi' := by have := HB.out 5 vi' rfl; rw [Nat.zero_add] at this; exact (HB2.out.cell (p := ⟨pb, 5, none⟩) HS2.out).trans this
          have HCF := Lib.hid (cmpf_any its its' vi vi' w2 ((HI.out.below HBT.out fun _ _ _ h => ValAt.under h HBT.out).more HBT.out.size |>.weak fun _ _ h => h.more HBT.out.size) ((HI'.out.below HBT.out fun _ _ _ h => ValAt.under h HBT.out).more HBT.out.size |>.weak fun _ _ h => h.more HBT.out.size) (fun x hx y cs cs' z h1 h2 => IH.out x hx y cs cs' z h1 h2))
          clear d0 e0 HRW HAW HB
          go_wp2_with (first | (go_at_call 75; refine (HLF.out _).mono ?_; rintro e z1 ⟨rfl, rfl⟩) | (go_at_call 76; refine HCF.out.mono ?_; rintro e z1 ⟨rfl, hb3⟩; have HB3 := Lib.hid hb3; clear hb3))
          go_ret
          exact ⟨ret_int HO3.out.symm, HBT.out.trans (HB3.out.mono HBT.out.size)⟩
      · have HO3 := Lib.hid (HO2.out.trans (if_pos (.inl hrv)))
        have t2 : (rv != 0) = true := by simpa using hrv
        clear HO2 hrv
        go_wp2_with (first | (go_at_call 73; refine (HCK.out _).mono ?_; rintro e z1 ⟨rfl, rfl⟩) | (go_at_call 74; refine HRW.out.mono ?_; rintro e w2 ⟨rfl, hb2⟩; have HB2 := Lib.hid hb2; clear hb2))
        go_ret
        exact ⟨ret_int HO3.out.symm, HBW.out.trans (HB2.out.mono HBW.out.size)⟩
    · have HO2 := Lib.hid (HO.out.trans (if_pos hck))
      have t2 : (ck != 0) = true := by simpa using hck
      clear HO hck
      go_wp2_with (first | (go_at_call 73; refine (HCK.out _).mono ?_; rintro e z1 ⟨rfl, rfl⟩))
      go_ret
      exact ⟨ret_int HO2.out.symm, HBW.out⟩
theorem vsame (t t' : VT) (cs cs' : List Value) (w : World) (h : ValAt w w.heap.size cs t) (h' : ValAt w w.heap.size cs' t') :
    Calls Tryz.prog 48 #[.agg ⟨cs⟩, .agg ⟨cs'⟩] w fun e w' => e = .returned (.bool (ordV t t' == 0)) ∧ Below w.heap.size w w' := by
  have HA := Lib.hid (range_box w cs 38)
  have HB1 := Lib.hid (box_below w (.cells ⟨cs⟩ 38))
  have HS1 := Lib.hid (box_size w (.cells ⟨cs⟩ 38))
  have HSE : Hid ((w.alloc (.cells ⟨cs⟩ 38)).heap.size = w.heap.size + 1) := Lib.hid (by simp)
  have HL := Lib.hid (val_one h)
  have HL' := Lib.hid (val_one h')
  have HV := Lib.hid h
  have HV' := Lib.hid h'
  clear h h'
  go_enter Tryz.func48, Tryz.ntmps48
  go_upto_region 1 with (fail)
  generalize w.alloc (.cells ⟨cs⟩ 38) = W1 at *
  have HB := Lib.hid (range_box W1 cs' 38)
  have HB2 := Lib.hid (box_below W1 (.cells ⟨cs'⟩ 38))
  have HS2 := Lib.hid (box_size W1 (.cells ⟨cs'⟩ 38))
  generalize W1.alloc (.cells ⟨cs'⟩ 38) = W at *
  have HAW := Lib.hid (rangeAt_below HA.out HB2.out HS1.out)
  have HBW := Lib.hid (HB1.out.trans (HB2.out.mono HB1.out.size))
  rw [HSE.out] at HB
  obtain ⟨pb, hpb⟩ : ∃ pb, w.heap.size + 1 = pb := ⟨_, rfl⟩
  rw [hpb] at HB
  rw [hpb]
  have HC := Lib.hid (vorder t t' cs cs' W (HV.out.next HBW.out) (HV'.out.next HBW.out))
  clear HA HB1 HS1 HSE HB2 HS2 hpb HV HV'
  go_wp2_with (first | ((with_reducible refine wl_sload 38 _ rfl ?hwa w.heap.size 0 cs _ rfl HAW.out Tryz.underlying38 rfl ?hia ?_); (case hwa => exact wantA rfl); (case hia => rw [HL.out.1]; kernel_rfl)) | ((with_reducible refine wl_sload 38 _ rfl ?hwb pb 0 cs' _ rfl HB.out Tryz.underlying38 rfl ?hib ?_); (case hwb => exact wantA rfl); (case hib => rw [HL'.out.1]; kernel_rfl)) | (go_at_call 64; refine HC.out.mono ?_; rintro e z1 ⟨rfl, hb3⟩; have HB3 := Lib.hid hb3; clear hb3))
  go_ret
  exact ⟨rfl, HBW.out.trans (HB3.out.mono HBW.out.size)⟩
end Go.Proofs.YtpmjcbjdcjjplaaGreat
end
section
namespace Go.Proofs.YtpmjcbjdcjjplaaGreat
open Go Go.RowKit
set_option linter.unusedVariables false
def eqN : List ByteArray → List ByteArray → Bool
  | [], [] => true
  | a :: l, b :: r => (a.toList == b.toList) && eqN l r
  | _, _ => false
mutual
def sameE : ET → ET → Bool
  | .mk k s v ns its, .mk k' s' v' ns' its' => (k == k') && ((s.toList == s'.toList) && ((ordV v v' == 0) && (((ns.length : Int) == ns'.length) && (((its.length : Int) == its'.length) && (eqN ns ns' && sameEL its its')))))
def sameEL : List ET → List ET → Bool
  | [], [] => true
  | a :: l, b :: r => sameE a b && sameEL l r
  | [], _ :: _ => false
  | _ :: _, [] => false
end
theorem eqN_at {l r : List ByteArray} {k : Nat} {x y : ByteArray} (h : l[k]? = some x) (h' : r[k]? = some y) : eqN (l.drop k) (r.drop k) = ((x.toList == y.toList) && eqN (l.drop (k + 1)) (r.drop (k + 1))) := by
  obtain ⟨h1, h2⟩ := List.getElem?_eq_some_iff.1 h
  obtain ⟨h3, h4⟩ := List.getElem?_eq_some_iff.1 h'
  rw [List.drop_eq_getElem_cons h1, List.drop_eq_getElem_cons h3, h2, h4, eqN]
theorem eqN_end {l r : List ByteArray} (h : l.length = r.length) : eqN (l.drop l.length) (r.drop l.length) = true := by
  rw [List.drop_length, h, List.drop_length, eqN]
theorem sameEL_at {l r : List ET} {k : Nat} {x y : ET} (h : l[k]? = some x) (h' : r[k]? = some y) : sameEL (l.drop k) (r.drop k) = (sameE x y && sameEL (l.drop (k + 1)) (r.drop (k + 1))) := by
  obtain ⟨h1, h2⟩ := List.getElem?_eq_some_iff.1 h
  obtain ⟨h3, h4⟩ := List.getElem?_eq_some_iff.1 h'
  rw [List.drop_eq_getElem_cons h1, List.drop_eq_getElem_cons h3, h2, h4, sameEL]
theorem sameEL_end {l r : List ET} (h : l.length = r.length) : sameEL (l.drop l.length) (r.drop l.length) = true := by
  rw [List.drop_length, h, List.drop_length, sameEL]
theorem eqN_iff : ∀ {l r : List ByteArray}, eqN l r = true ↔ l = r
  | [], [] => by simp [eqN]
  | [], _ :: _ => by simp [eqN]
  | _ :: _, [] => by simp [eqN]
  | a :: l, b :: r => by
    rw [eqN, Bool.and_eq_true, eqN_iff, List.cons.injEq, beq_iff_eq]
    constructor
    · rintro ⟨h, h2⟩
      refine ⟨?_, h2⟩
      rw [toList_eq, toList_eq] at h
      cases a
      cases b
      simp only at h
      rw [Array.toList_inj.1 h]
    · rintro ⟨rfl, h2⟩
      exact ⟨rfl, h2⟩
theorem eqN_dec (l r : List ByteArray) : decide (l = r) = eqN l r := by
  rw [Bool.eq_iff_iff, decide_eq_true_eq, eqN_iff]
theorem eqN_len {l r : List ByteArray} (h : eqN l r = true) : l.length = r.length := by rw [eqN_iff.1 h]
theorem sameEL_len : ∀ {l r : List ET}, l.length ≠ r.length → sameEL l r = false
  | [], [], h => absurd rfl h
  | [], _ :: _, _ => by rw [sameEL]
  | _ :: _, [], _ => by rw [sameEL]
  | a :: l, b :: r, h => by rw [sameEL, sameEL_len (l := l) (r := r) (by simpa using h), Bool.and_false]
theorem sameE_prog {k k' : Int} {s s' : ByteArray} {v v' : VT} {ns ns' : List ByteArray} {its its' : List ET} :
    sameE (.mk k s v ns its) (.mk k' s' v' ns' its') = ((k == k') && ((s.toList == s'.toList) && ((ordV v v' == 0) && (eqN ns ns' && sameEL its its')))) := by
  rw [sameE]
  congr 3
  cases h1 : eqN ns ns' with
  | false => simp
  | true =>
    have h1 := eqN_len h1
    cases h2 : sameEL its its' with
    | false => simp
    | true =>
      have h2 : its.length = its'.length := by
        rcases Decidable.em (its.length = its'.length) with h | h
        · exact h
        · rw [sameEL_len h] at h2; cases h2
      simp [h1, h2]
mutual
def sameT : TT → TT → Bool
  | .mk k ns its, .mk k' ns' its' => (k == k') && (eqN ns ns' && sameTL its its')
def sameTL : List TT → List TT → Bool
  | [], [] => true
  | a :: l, b :: r => sameT a b && sameTL l r
  | [], _ :: _ => false
  | _ :: _, [] => false
end
theorem sameTL_at {l r : List TT} {k : Nat} {x y : TT} (h : l[k]? = some x) (h' : r[k]? = some y) : sameTL (l.drop k) (r.drop k) = (sameT x y && sameTL (l.drop (k + 1)) (r.drop (k + 1))) := by
  obtain ⟨h1, h2⟩ := List.getElem?_eq_some_iff.1 h
  obtain ⟨h3, h4⟩ := List.getElem?_eq_some_iff.1 h'
  rw [List.drop_eq_getElem_cons h1, List.drop_eq_getElem_cons h3, h2, h4, sameTL]
theorem sameTL_end {l r : List TT} (h : l.length = r.length) : sameTL (l.drop l.length) (r.drop l.length) = true := by
  rw [List.drop_length, h, List.drop_length, sameTL]
theorem sameTL_len : ∀ {l r : List TT}, l.length ≠ r.length → sameTL l r = false
  | [], [], h => absurd rfl h
  | [], _ :: _, _ => by rw [sameTL]
  | _ :: _, [], _ => by rw [sameTL]
  | a :: l, b :: r, h => by rw [sameTL, sameTL_len (l := l) (r := r) (by simpa using h), Bool.and_false]
theorem sameTL_eq : ∀ {l r : List TT}, (∀ x ∈ l, ∀ y, sameT x y = true ↔ x = y) → (sameTL l r = true ↔ l = r)
  | [], [], _ => by simp [sameTL]
  | [], _ :: _, _ => by simp [sameTL]
  | _ :: _, [], _ => by simp [sameTL]
  | a :: l, b :: r, h => by
    rw [sameTL, Bool.and_eq_true, h a (by simp) b, sameTL_eq (fun x hx => h x (by simp [hx])), List.cons.injEq]
theorem sameT_iff (t : TT) : ∀ u, sameT t u = true ↔ t = u := by
  induction t using TT.ind with
  | h k ns its ih =>
    intro u
    cases u with
    | mk k' ns' its' =>
      rw [sameT, Bool.and_eq_true, Bool.and_eq_true, beq_iff_eq, eqN_iff, sameTL_eq ih, TT.mk.injEq]
end Go.Proofs.YtpmjcbjdcjjplaaGreat
end
section
namespace Go.Proofs.YtpmjcbjdcjjplaaGreat
open Go
set_option linter.unusedVariables false
def VT.kind : VT → Int | .mk k _ _ _ _ _ => k
end Go.Proofs.YtpmjcbjdcjjplaaGreat
end
section
namespace Go.Proofs.YtpmjcbjdcjjplaaGreat
open Go Go.RowKit
set_option linter.unusedVariables false
def KeptS (p : Nat → Prop) (w : World) (v : Value) (ns : List ByteArray) : Prop := SlAt (only w p) w.heap.size 1 StrR v ns
theorem KeptS.to {p q : Nat → Prop} {w w' : World} {v : Value} {ns : List ByteArray} (h : KeptS p w v ns) (hb : ∀ b, p b → b < w.heap.size → q b ∧ w'.heap[b]? = w.heap[b]?) (hs : w.heap.size ≤ w'.heap.size) : KeptS q w' v ns :=
  (SlAt.cells h (only_to hb) fun _ _ _ h => h).more hs
theorem own_lt {α : Type} {T : TypeId} {k base b : Nat} {enc : α → List Value} {w : World} {v : Value} {l : List α} (h : OwnSl T k enc w base v l) (hb : v.ownBlock = some b) : b < w.heap.size := by
  rcases h.2 with ⟨rfl, _⟩ | ⟨g, cap, cur, rfl, _, hg, _⟩
  · cases hb
  · have : g = b := by simpa [Value.ownBlock] using hb
    subst this
    rcases Nat.lt_or_ge g w.heap.size with h2 | h2
    · exact h2
    · rw [Array.getElem?_eq_none h2] at hg; cases hg
theorem keptS_own {w w' : World} {v : Value} {ns : List ByteArray} (hs : ∀ s ∈ ns, s.size ≤ maxLen) (hl : ns.length ≤ 9223372036854775807) (h : w'.ownsRow w.heap.size 9 1 v ns.length (ns.map (Value.string))) : KeptS (fun b => w.heap.size ≤ b) w' v ns := by
  refine ⟨hl, ?_⟩
  have h' : OwnSl 9 1 (fun s : ByteArray => [Value.string s]) w' w.heap.size v ns := by
    have e : ns.map (Value.string) = flat (fun s : ByteArray => [Value.string s]) ns := by
      clear hs hl h
      induction ns with
      | nil => rfl
      | cons a l ih =>
        show Value.string a :: l.map (Value.string) = Value.string a :: flat (fun s : ByteArray => [Value.string s]) l
        rw [ih]
    unfold OwnSl
    rw [← e]; exact h
  rcases h.2 with ⟨rfl, h0⟩ | ⟨g, cap, cur, hv, hg, _, _⟩
  · exact ⟨none, 0, by rw [h0], fun h1 => by omega⟩
  · refine ⟨some ⟨g, 0, none⟩, cap, hv, fun _ => ?_⟩
    have hown : v.ownBlock = some g := by rw [hv]; rfl
    refine ⟨g, 0, rfl, own_lt h' hown, fun i x hx => ⟨[.string x], rfl, fun j u hu => ?_, rfl, hs x (List.mem_of_getElem? hx)⟩⟩
    refine only_cell.2 ⟨hg, ?_⟩
    have := World.ownsRow.cells h' hown (i * 1 + j) u (flat_at (enc := fun s : ByteArray => [Value.string s]) (fun _ => rfl) ns i x hx j u hu)
    rw [Addr.add_mid] at this
    rw [show 0 + i * 1 + j = 0 + (i * 1 + j) by omega]; exact this
theorem clone_names (w : World) (vn : Value) (ns : List ByteArray) (h : SlAt w w.heap.size 1 StrR vn ns) (hl : ns.length * 16 ≤ reachBytes) :
    Calls Tryz.prog 54 #[vn] w fun e w' => ∃ v', e = .returned v' ∧ Below w.heap.size w w' ∧ KeptS (fun b => w.heap.size ≤ b) w' v' ns := by
  obtain ⟨h0, A, c, rfl, h1⟩ := h
  have hr : reachBytes = 140737488351232 := rfl
  rcases Nat.eq_zero_or_pos ns.length with hz | hz
  · obtain rfl : ns = [] := List.eq_nil_of_length_eq_zero hz
    cases A with
    | none => exact (Tryz.slices_Clone_string_nil _ _ _).mono fun e u' h => ⟨_, h.1, by rw [h.2]; exact Below.refl _ _, SlAt.nil _ _ _ _⟩
    | some ad => exact (Tryz.slices_Clone_string_zero ad c w).mono fun e u' ⟨v', h1, h2, _, h3⟩ => ⟨v', h1, h3, keptS_own (fun s hs => by cases hs) (by simp) h2⟩
  · obtain ⟨b, o, rfl, hb, h2⟩ := h1 hz
    refine (Tryz.slices_Clone_string b o ns.length c ns w (Nat.le_refl _) (by omega) fun j hj => ?_).mono fun e u' ⟨v', h5, h6, _, h7⟩ => ⟨v', h5, h7, keptS_own (fun s hs => ?_) h0 (by rwa [List.take_length] at h6)⟩
    · obtain ⟨cs, h3, h4, h5, h6⟩ := h2 j _ (List.getElem?_eq_getElem hj)
      subst h5
      have := h4 0 _ rfl
      rw [Nat.mul_one, Nat.add_zero] at this
      rw [List.getD_eq_getElem?_getD, List.getElem?_eq_getElem hj]
      exact this
    · obtain ⟨i, hi⟩ := List.mem_iff_getElem?.1 hs
      obtain ⟨cs, _, _, _, h6⟩ := h2 i s hi
      exact h6
end Go.Proofs.YtpmjcbjdcjjplaaGreat
end
section
namespace Go.Proofs.YtpmjcbjdcjjplaaGreat
open Go Go.RowKit
set_option linter.unusedVariables false
set_option linter.unusedSimpArgs false
inductive FitE : ET → Prop where
  | mk {k : Int} {s : ByteArray} {v : VT} {ns : List ByteArray} {its : List ET} (h1 : ns.length * 16 ≤ reachBytes) (h2 : its.length * 160 ≤ reachBytes) (h3 : ∀ x ∈ its, FitE x) : FitE (.mk k s v ns its)
theorem FitE.inv {k : Int} {s : ByteArray} {v : VT} {ns : List ByteArray} {its : List ET} (h : FitE (.mk k s v ns its)) : ns.length * 16 ≤ reachBytes ∧ its.length * 160 ≤ reachBytes ∧ ∀ x ∈ its, FitE x := by
  cases h with
  | mk h1 h2 h3 => exact ⟨h1, h2, h3⟩
structure C10 where
  cs : List Value
  len : cs.length = 10
def enc10 (q : C10) : List Value := q.cs
theorem enc10_len (q : C10) : (enc10 q).length = 10 := q.len
def KeptX (p : Nat → Prop) (w : World) (cs : List Value) (t : ET) : Prop := ExpAt (only w p) w.heap.size cs t
theorem KeptX.exp {p : Nat → Prop} {w : World} {cs : List Value} {t : ET} (h : KeptX p w cs t) : ExpAt w w.heap.size cs t := ExpAt.cells h fun a v hv => (only_cell.1 hv).2
theorem KeptX.to {p q : Nat → Prop} {w w' : World} {cs : List Value} {t : ET} (h : KeptX p w cs t) (hb : ∀ b, p b → b < w.heap.size → q b ∧ w'.heap[b]? = w.heap[b]?) (hs : w.heap.size ≤ w'.heap.size) : KeptX q w' cs t :=
  (ExpAt.cells h (only_to hb)).more hs
structure OwnE (TV : TypeId) (B : Nat) (W u : World) (v : Value) (l : List ET) (i : Nat) (KL : List C10) : Prop where
  own : OwnSl TV 10 enc10 u W.heap.size v KL
  len : KL.length = i
  bel : Below W.heap.size W u
  old : B ≤ W.heap.size
  els : ∀ (j : Nat) k x, KL[j]? = some k → l[j]? = some x → KeptX (fun b => (b < B ∨ W.heap.size ≤ b) ∧ some b ≠ v.ownBlock) u k.cs x
theorem OwnE.start (TV : TypeId) {B : Nat} (W : World) (l : List ET) (hB : B ≤ W.heap.size) : OwnE TV B W W (.slice none 0 0) l 0 [] := ⟨OwnSl.nil _ _, rfl, Below.refl _ _, hB, fun j k x hk _ => by cases hk⟩
theorem OwnE.next {TV : TypeId} {B : Nat} {W u u5 u6 u7 u8 : World} {v v' : Value} {l : List ET} {i : Nat} {KL : List C10} (h : OwnE TV B W u v l i KL) (h5 : Below u.heap.size u u5) (h6 : Below u5.heap.size u5 u6) (h7 : Below u6.heap.size u6 u7) {k : C10} {x : ET} (hx : l[i]? = some x)
    (hk : KeptX (fun b => b < B ∨ u5.heap.size ≤ b) u6 k.cs x) (hown : OwnSl TV 10 enc10 u8 W.heap.size v' (KL ++ [k])) (hg : u7.grownBy u8 v.ownBlock) (hb : v'.ownBlock = v.ownBlock ∨ v'.ownBlock = some u7.heap.size) :
    OwnE TV B W u8 v' l (i + 1) (KL ++ [k]) := by
  have h57 := h5.trans ((h6.trans (h7.mono h6.size)).mono h5.size)
  have hbase := h.bel.size
  have hold := h.old
  have hblk : ∀ b, b < u.heap.size → some b ≠ v.ownBlock → some b ≠ v'.ownBlock ∧ u8.heap[b]? = u.heap[b]? := fun b hlt hne => by
    have e1 := h57.block b hlt
    have e2 := hg.block b (Nat.lt_of_lt_of_le hlt h57.size) hne
    refine ⟨?_, e2.trans e1⟩
    rcases hb with hb | hb
    · rw [hb]; exact hne
    · rw [hb]
      intro e
      injection e with e
      have := h57.size
      omega
  have hnew : ∀ b, b < B ∨ u5.heap.size ≤ b → b < u6.heap.size → some b ≠ v'.ownBlock ∧ u8.heap[b]? = u6.heap[b]? := fun b hge hlt => by
    have hne : some b ≠ v.ownBlock := fun e => by
      have h1 := own_lt h.own e.symm
      have h2 := h.own.block e.symm
      have := h5.size
      omega
    have e1 := h7.block b hlt
    have e2 := hg.block b (Nat.lt_of_lt_of_le hlt h7.size) hne
    refine ⟨?_, e2.trans e1⟩
    rcases hb with hb | hb
    · rw [hb]; exact hne
    · rw [hb]
      intro e
      injection e with e
      have := h7.size
      omega
  refine ⟨hown, by rw [List.length_append, h.len]; rfl, ?_, hold, fun j k' y hk' hy => ?_⟩
  · refine ⟨hg.os.trans (h57.os.trans h.bel.os), hg.tape.trans (h57.tape.trans h.bel.tape), hg.output.trans (h57.output.trans h.bel.output), ?_, fun b hlt => ?_⟩
    · have := hg.size
      have := h57.size
      omega
    · have hne : some b ≠ v.ownBlock := fun e => by
        have := h.own.block e.symm
        omega
      exact (hblk b (by omega) hne).2.trans (h.bel.block b hlt)
  · rcases Nat.lt_or_ge j KL.length with hj | hj
    · rw [List.getElem?_append_left hj] at hk'
      refine (h.els j k' y hk' hy).to (fun b hp hlt => ⟨⟨hp.1, (hblk b hlt hp.2).1⟩, (hblk b hlt hp.2).2⟩) ?_
      have := hg.size
      have := h57.size
      omega
    · rw [List.getElem?_append_right hj] at hk'
      have hj2 : j = KL.length := by
        have := (List.getElem?_eq_some_iff.1 hk').1
        simp only [List.length_singleton] at this
        omega
      rw [hj2, Nat.sub_self] at hk'
      injection hk' with hk'
      subst hk'
      have e : y = x := by
        rw [hj2, h.len, hx] at hy
        injection hy with hy
        exact hy.symm
      subst e
      refine hk.to (fun b hp hlt => ⟨⟨?_, (hnew b hp hlt).1⟩, (hnew b hp hlt).2⟩) ?_
      · have := h5.size
        omega
      · have := hg.size
        have := h7.size
        omega
theorem OwnE.row {TV : TypeId} {B : Nat} {W u u' : World} {v : Value} {l : List ET} {KL : List C10} {B2 : Nat} (h : OwnE TV B W u v l l.length KL) (hl : l.length ≤ maxLen) (hB : B2 ≤ W.heap.size) (hk : ∀ b, b < B ∨ W.heap.size ≤ b → b < u.heap.size → u'.heap[b]? = u.heap[b]?) (hs : u.heap.size ≤ u'.heap.size) :
    SlAt (only u' (fun b => b < B ∨ B2 ≤ b)) u'.heap.size 10 (ExpAt (only u' (fun b => b < B ∨ B2 ≤ b)) u'.heap.size) v l := by
  refine ⟨Nat.le_trans hl maxLen_small, ?_⟩
  rcases h.own.2 with ⟨rfl, h0⟩ | ⟨g, cap, cur, hv, hg, _, _⟩
  · rw [h.len] at h0
    exact ⟨none, 0, by rw [h0], fun h1 => by omega⟩
  · refine ⟨some ⟨g, 0, none⟩, cap, by rw [hv, h.len], fun _ => ?_⟩
    have hown : v.ownBlock = some g := by rw [hv]; rfl
    have hlt := own_lt h.own hown
    refine ⟨g, 0, rfl, by omega, fun i y hy => ?_⟩
    have hi := (List.getElem?_eq_some_iff.1 hy).1
    have hki : KL[i]? = some (KL[i]'(by rw [h.len]; exact hi)) := List.getElem?_eq_getElem _
    refine ⟨_, (KL[i]'(by rw [h.len]; exact hi)).len, fun j c hc => ?_, ?_⟩
    · refine only_cell.2 ⟨?_, ?_⟩
      · show g < B ∨ B2 ≤ g
        omega
      · refine (World.cell?_of_block (a := ⟨g, _, none⟩) (hk g (.inr hg) hlt)).trans ?_
        have := World.ownsRow.cells h.own hown (i * 10 + j) c (flat_at enc10_len KL i _ hki j c hc)
        rw [Addr.add_mid] at this
        rw [show 0 + i * 10 + j = 0 + (i * 10 + j) by omega]; exact this
    · exact (h.els i _ y hki hy).to (fun b hp hb => ⟨hp.1.imp id (fun h => Nat.le_trans hB h), hk b hp.1 hb⟩) hs
theorem wl_push10 {α : Type} {P : Program} {ops : Array Oper} {rest : List Oper} {o : Oper} {a : Act} {w : World} {Q : Exit → Act → World → Prop} (hgd : o.guard = none) (s x : Operand) (t : TypeId) (ho : o.op = .call { callee := .builtin .append, args := #[s, x], argTypes := #[t, t] })
    (base : Nat) (e : TypeId) (i : TypeInfo) (z : Value) (k bytes : Nat) (enc : α → List Value) (ht : P.underlying t = some (.slice e)) (hi : P.info? e = some i) (hz : i.zero = some z)
    (hsize : i.size = k) (hby : i.bytes = bytes) (hzs : z.cells.size = k) (hsz : 0 < k) (hk : ∀ x, (enc x).length = k)
    (v : Value) (l : List α) (hs : a.eval s = v) (hown : OwnSl e k enc w base v l) (nb c : Nat) (y : α) (h1 : ∀ u ∈ enc y, u.oneCell' = true) (hx : a.eval x = .slice (some ⟨nb, 0, none⟩) 1 c)
    (hc : ∀ j u, (enc y)[j]? = some u → w.cell? ⟨nb, j, none⟩ = some u) (h63 : l.length + 1 ≤ maxLen) (hbytes : (l.length + 1) * bytes ≤ 140737488355328) (hbase : base ≤ w.heap.size)
    (h : ∀ v' w', OwnSl e k enc w' base v' (l ++ [y]) → w.grownBy w' v.ownBlock → (v'.ownBlock = v.ownBlock ∨ v'.ownBlock = some w.heap.size) → wpList P ops Q rest (a.put o.dst v') w') : wpList P ops Q (o :: rest) a w := by
  obtain ⟨v', w', hrun, k2, k3, _, k5⟩ := run_append_own_at (P := P) w base t o.type e i z k bytes ht hi hz hsize hby hzs hsz v l.length (flat enc l) hown ⟨nb, 0, none⟩ 1 c (enc y) (by rw [hk]; omega)
    (fun j u hu => by rw [Addr.add_mid, Nat.zero_add]; exact hc j u hu) h1 h63 hbytes hbase
  refine wpList_plain hgd fun _ hK => ?_
  unfold Oper.wp execOp
  simp only [ho, resolve, invoke, builtin, Sem.run_bind, Sem.run_pure, Result.andThen_ok, List.map_toArray, List.map_cons, List.map_nil, hs, hx, hrun]
  exact hK _ _ (h v' w' (by unfold OwnSl; rw [flat_snoc, List.length_append]; exact k2) k3 k5)
theorem info_exprO : (Tryz.prog.info? 40).map (fun i => (i.zero, i.size, i.bytes)) = some (some (.agg #[.int .i64 0, .string ⟨#[]⟩, .int .i64 0, .int .i64 0, .float .f64 0, .string ⟨#[]⟩, .slice none 0 0, .slice none 0 0, .slice none 0 0, .slice none 0 0]), 10, 160) := by kernel_rfl
theorem info_partsE {P : Program} {e : TypeId} {z : Option Value} {s b : Nat} (h : (P.info? e).map (fun i => (i.zero, i.size, i.bytes)) = some (z, s, b)) : ∃ i, P.info? e = some i ∧ i.zero = z ∧ i.size = s ∧ i.bytes = b := by
  cases h2 : P.info? e with
  | none => rw [h2] at h; cases h
  | some i =>
    rw [h2] at h
    injection h with h
    injection h with h3 h4
    injection h4 with h4 h5
    exact ⟨i, rfl, h3, h4, h5⟩
theorem Whole.put {T : TypeId} {w : World} {b : Nat} {cs : List Value} (h : Whole T w b cs) (i : Nat) (v : Value) : Whole T (w.setCell ⟨b, i, none⟩ v) b (cs.set i v) := by
  unfold Whole at h ⊢
  simp [World.setCell, Array.getElem?_modify, h]
theorem put_other (w : World) (b i k : Nat) (v : Value) (h : k ≠ b) : (w.setCell ⟨b, i, none⟩ v).heap[k]? = w.heap[k]? := Below.heap_setCell w ⟨b, i, none⟩ v k h
theorem put_sizeE (w : World) (p : Addr) (v : Value) : (w.setCell p v).heap.size = w.heap.size := by simp [World.setCell]
theorem own_formE {α : Type} {T : TypeId} {k base : Nat} {enc : α → List Value} {w : World} {v : Value} {l : List α} (h : OwnSl T k enc w base v l) : ∃ A c, v = .slice A l.length c := by
  rcases h.2 with ⟨rfl, h2⟩ | ⟨g, cap, cur, rfl, _⟩
  · exact ⟨none, 0, by rw [h2]⟩
  · exact ⟨_, _, rfl⟩
theorem SlAt.cellsB {α : Type} {w w' : World} {B k : Nat} {R R' : List Value → α → Prop} {v : Value} {l : List α} (h : SlAt w B k R v l) (hc : ∀ a v, a.block < B → w.cell? a = some v → w'.cell? a = some v) (hR : ∀ cs x, x ∈ l → R cs x → R' cs x) : SlAt w' B k R' v l := by
  obtain ⟨h0, A, c, rfl, h1⟩ := h
  refine ⟨h0, A, c, rfl, fun hp => ?_⟩
  obtain ⟨b, o, rfl, hlt, h2⟩ := h1 hp
  refine ⟨b, o, rfl, hlt, fun i x hx => ?_⟩
  obtain ⟨cs, h3, h4, h5⟩ := h2 i x hx
  exact ⟨cs, h3, fun j u hu => hc _ _ hlt (h4 j u hu), hR cs x (List.mem_of_getElem? hx) h5⟩
theorem ValAt.cellsB {w w' : World} {B : Nat} {cs : List Value} {t : VT} (h : ValAt w B cs t) (hc : ∀ a v, a.block < B → w.cell? a = some v → w'.cell? a = some v) : ValAt w' B cs t := by
  induction h with
  | mk b o css hk hn hf hs hns hl hA hcc hi ih =>
    exact .mk b o css hk hn hf hs (hns.cellsB hc fun _ _ _ h => h) hl hA (fun i h => ⟨(hcc i h).1, fun j u hu => hc _ _ (hA (by omega)).2 ((hcc i h).2 j u hu)⟩) ih
structure TwoB (w W : World) (p q m : Nat) (cs : List Value) : Prop where
  wa : Whole 40 W p cs
  wb : ∃ z, z.length = 10 ∧ Whole 40 W q z
  bel : Below w.heap.size w W
  wp : w.heap.size ≤ p
  wq : w.heap.size ≤ q
  ne : p ≠ q
  pm : p < m
  qm : q < m
  mw : m ≤ W.heap.size
section
variable {w W W' : World} {p q m : Nat} {cs : List Value}
theorem TwoB.below (h : TwoB w W p q m cs) (hb : Below W.heap.size W W') : TwoB w W' p q m cs :=
  ⟨h.wa.keep (hb.block p (Nat.lt_of_lt_of_le h.pm h.mw)), by obtain ⟨z, hz, h2⟩ := h.wb; exact ⟨z, hz, h2.keep (hb.block q (Nat.lt_of_lt_of_le h.qm h.mw))⟩, h.bel.trans (hb.mono h.bel.size), h.wp, h.wq, h.ne, h.pm, h.qm, Nat.le_trans h.mw hb.size⟩
theorem TwoB.put (h : TwoB w W p q m cs) (i : Nat) (v : Value) : TwoB w (W.setCell ⟨p, i, none⟩ v) p q m (cs.set i v) :=
  ⟨h.wa.put i v, by obtain ⟨z, hz, h2⟩ := h.wb; exact ⟨z, hz, h2.keep (put_other W p i q v h.ne.symm)⟩, below_sets (vs := [v]) h.bel h.wp i, h.wp, h.wq, h.ne, h.pm, h.qm, by rw [put_sizeE]; exact h.mw⟩
theorem Whole.fz {T : TypeId} {b : Nat} (h : Whole T W b cs) (i : Nat) : W.frozen? ⟨b, i, none⟩ = false := by
  unfold World.frozen?
  have h2 : W.heap[b]? = some (.cells ⟨cs⟩ T (0, 0)) := h
  simp [h2]
theorem Whole.at {T : TypeId} {b : Nat} (h : Whole T W b cs) (k : Nat) {v : Value} (hv : cs[k]? = some v) : W.cell? ⟨b, k, none⟩ = some v := by
  have := h.range k v hv
  rwa [Nat.zero_add] at this
end
end Go.Proofs.YtpmjcbjdcjjplaaGreat
end
