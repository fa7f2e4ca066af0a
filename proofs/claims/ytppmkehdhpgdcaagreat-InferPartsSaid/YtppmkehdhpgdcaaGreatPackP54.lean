/- Parts of a proof: Same11, Awake11. -/
import Derived.Test.YtppmkehdhpgdcaaGreatPackP9
import Derived.Test.YtppmkehdhpgdcaaGreatPackP18
import Derived.Test.YtppmkehdhpgdcaaGreatPackP20
import Derived.Test.YtppmkehdhpgdcaaGreatPackP45
import Derived.Test.YtppmkehdhpgdcaaGreatPackP51
import Derived.Test.YtppmkehdhpgdcaaGreatPackP52
import Derived.Test.YtppmkehdhpgdcaaGreatPackP53
section
namespace Go.Proofs.YtppmkehdhpgdcaaGreat
open Go Go.RowKit P
set_option linter.unusedVariables false
set_option linter.unusedSimpArgs false
def NameR (cs : List Value) (x : List UInt8) : Prop := cs = [.string ⟨x.toArray⟩]
theorem names_own {w : World} {base : Nat} {v : Value} {l : List (List UInt8)} (h : w.ownsRow base 9 1 v l.length (l.map encStr)) (hl : l.length ≤ 500) : SlAt w w.heap.size 1 NameR v l := by
  obtain ⟨A, c, rfl⟩ := own_form h
  refine ⟨by omega, A, c, rfl, fun h0 => ?_⟩
  obtain ⟨g, rfl, hg, hc⟩ := names_cell h h0
  refine ⟨g, 0, rfl, hg, fun i x hx => ⟨[.string ⟨x.toArray⟩], rfl, fun j u hu => ?_, rfl⟩⟩
  match j, hu with
  | 0, hu =>
    simp at hu
    subst hu
    have := hc i x hx
    rw [show 0 + i * 1 + 0 = i by omega]; exact this
  | j + 1, hu => simp at hu
theorem name_cell {w : World} {b o : Nat} {l : List (List UInt8)} (hc : ∀ (i : Nat) x, l[i]? = some x → ∃ cs : List Value, cs.length = 1 ∧ w.rangeAt b (o + i * 1) cs ∧ NameR cs x) {j : Nat} {x : List UInt8} (hx : l[j]? = some x) :
    w.cell? ⟨b, o + j, none⟩ = some (.string ⟨x.toArray⟩) := by
  obtain ⟨cs, _, hr, he⟩ := hc j x hx
  have := hr 0 (.string ⟨x.toArray⟩) (by rw [he]; rfl)
  simpa using this
set_option maxHeartbeats 1000000 in
set_option maxRecDepth 100000 in
theorem rsame11 (u v : Value) (l : List (List UInt8)) (w : World) (hu : SlAt w w.heap.size 1 NameR u l) (hv : SlAt w w.heap.size 1 NameR v l) (hl : l.length ≤ 500) :
    Calls Tryz.prog 14 #[u, v] w fun e w' => e = .returned (.bool true) ∧ Below w.heap.size w w' := by
  obtain ⟨_, A, c, rfl, hA⟩ := hu
  obtain ⟨_, D, c', rfl, hD⟩ := hv
  have HA := Lib.hid hA
  have HD := Lib.hid hD
  have hl2 : (l.length : Int) ≤ 500 := by omega
  clear hA hD
  go_enter Tryz.func14, Tryz.ntmps14
  go_wp2
  go_loopg [5] l.length (fun g i wr => ∃ j : Nat, j + g = l.length ∧ i = .int .i64 j ∧ Below w.heap.size w wr)
  case atStart => exact ⟨0, by omega, rfl, Below.refl _ _⟩
  case round =>
    obtain ⟨j, hj, rfl, hb⟩ := hrel
    have HB := Lib.hid hb
    cases gk with
    | zero =>
      obtain rfl : j = l.length := by omega
      have hge : ¬ ((l.length : Int) < (l.length : Int)) := by omega
      clear hb
      go_wp2
      go_ret
      exact ⟨rfl, HB.out⟩
    | succ g =>
      have hlt : (j : Int) < (l.length : Int) := by omega
      obtain ⟨x, hx⟩ : ∃ x, l[j]? = some x := ⟨_, List.getElem?_eq_getElem (by omega)⟩
      obtain ⟨b1, o1, rfl, hb1, hc1⟩ := HA.out (by omega)
      obtain ⟨b2, o2, rfl, hb2, hc2⟩ := HD.out (by omega)
      have d1 := (hb.cell (p := ⟨b1, o1 + j, none⟩) hb1).trans (name_cell hc1 hx)
      have d2 := (hb.cell (p := ⟨b2, o2 + j, none⟩) hb2).trans (name_cell hc2 hx)
      clear hb hx hc1 hc2 hb1 hb2
      generalize (⟨x.toArray⟩ : ByteArray) = s at *
      have hs : (s.toList == s.toList) = true := by simp
      go_upto_region 6 with (fail)
      go_quiet (fail)
      go_wp2
      go_roundg g
      case measure => omega
      case rel => exact ⟨j + 1, by omega, by go_num, below_drewN HB.out _⟩
def zvarC (nm : ByteArray) (l : Int) : List Value := [.string nm, .int .i64 l, .int .i64 0, .slice none 0 0, .slice none 0 0, .int .i64 0, .int .i64 0, .float .f64 0, .string ⟨#[]⟩, .slice none 0 0, .slice none 0 0]
def zvar (nm : ByteArray) (l : Int) : VarT := ⟨nm, l, .mk 0 [] [], .mk 0 0 0 ⟨#[]⟩ [] []⟩
theorem zvar_at (w : World) (B : Nat) (nm : ByteArray) (l : Int) (hn : nm.size ≤ maxLen) (hl : wfI l) : VarAt w B (zvarC nm l) (zvar nm l) where
  ex := ⟨[.int .i64 0, .slice none 0 0, .slice none 0 0], [.int .i64 0, .int .i64 0, .float .f64 0, .string ⟨#[]⟩, .slice none 0 0, .slice none 0 0], rfl, rfl, rfl,
    TypAt.of (wf_int 0 (by decide +kernel)) (SlAt.nil _ _ _ _) (by unfold maxLen; simp) (SlAt.nil _ _ _ _),
    ValAt.of (wf_int 0 (by decide +kernel)) (wf_int 0 (by decide +kernel)) (by decide +kernel) (Nat.zero_le _) (SlAt.nil _ _ _ _) (by unfold maxLen; simp) (SlAt.nil _ _ _ _)⟩
  name := hn
  label := hl
theorem vars_two (w : World) (a b : ByteArray) (i j : Int) (ha : a.size ≤ maxLen) (hb : b.size ≤ maxLen) (hi : wfI i) (hj : wfI j) :
    SlAt (w.alloc (.cells ⟨zvarC a i ++ zvarC b j⟩ 64)) (w.alloc (.cells ⟨zvarC a i ++ zvarC b j⟩ 64)).heap.size 11 (VarAt (w.alloc (.cells ⟨zvarC a i ++ zvarC b j⟩ 64)) (w.alloc (.cells ⟨zvarC a i ++ zvarC b j⟩ 64)).heap.size) (.slice (some ⟨w.heap.size, 0, none⟩) 2 2) [zvar a i, zvar b j] := by
  have hr := range_box w (zvarC a i ++ zvarC b j) 64
  refine ⟨by simp, _, 2, rfl, fun _ => ⟨w.heap.size, 0, rfl, by simp, fun k x hx => ?_⟩⟩
  match k, hx with
  | 0, hx =>
    simp at hx
    subst hx
    refine ⟨zvarC a i, rfl, fun p u hu => ?_, zvar_at _ _ a i ha hi⟩
    exact hr p u (by rw [List.getElem?_append_left (List.getElem?_eq_some_iff.1 hu).1]; exact hu)
  | 1, hx =>
    simp at hx
    subst hx
    refine ⟨zvarC b j, rfl, fun p u hu => ?_, zvar_at _ _ b j hb hj⟩
    have := hr (11 + p) u (by rw [List.getElem?_append_right (by show 11 ≤ 11 + p; omega), show 11 + p - (zvarC a i).length = p by show 11 + p - 11 = p; omega]; exact hu)
    rw [show 0 + 1 * 11 + p = 0 + (11 + p) by omega]; exact this
  | k + 2, hx => simp at hx
end Go.Proofs.YtppmkehdhpgdcaaGreat
end
section
namespace Go.Proofs.YtppmkehdhpgdcaaGreat
open Go Go.RowKit P
set_option linter.unusedVariables false
set_option linter.unusedSimpArgs false
def ps2 : List (Int × Int) := [(0, 1)]
def L2 : Rel := ordOf 2 ps2
theorem mk2 : makeE 2 ps2 = 0 := by decide +kernel
def E11 : List VarT := [zvar ⟨#[120]⟩ 1, zvar ⟨#[121]⟩ 0]
theorem lb_xy : labE 2 L2 E11 ex_xy = (1, 0) := by decide +kernel
theorem lb_three : labE 2 L2 E11 ex_three = (0, 0) := by decide +kernel
theorem lb_z : labE 2 L2 E11 ex_z = (0, 11) := by decide +kernel
theorem rd_bab : readL ex_bab = [[97], [98]] := by decide +kernel
theorem rp_xy : replE ⟨#[120]⟩ ex_one ex_xy = ex_oney := by kernel_rfl
theorem sm_oney : sameE ex_oney ex_oney = true := by decide +kernel
theorem ps_xy : ∀ w, Calls Tryz.prog 21 #[.string ⟨#[120, 43, 121]⟩] w fun e w' => ∃ cs, e = .returned (.agg ⟨cs⟩) ∧ ExpAt w' w'.heap.size cs ex_xy ∧ Below w.heap.size w w' := parsed_any tx_xy ex_xy (parse_any tx_xy tk_xy ex_xy 2 (by decide) lx_xy (by decide) (by decide) (fun pb tb c => pcx_xy pb tb c _) (by decide) rt_xy)
theorem ps_three : ∀ w, Calls Tryz.prog 21 #[.string ⟨#[51]⟩] w fun e w' => ∃ cs, e = .returned (.agg ⟨cs⟩) ∧ ExpAt w' w'.heap.size cs ex_three ∧ Below w.heap.size w w' := parsed_any tx_three ex_three (parse_any tx_three tk_three ex_three 2 (by decide) lx_three (by decide) (by decide) (fun pb tb c => pcx_three pb tb c _) (by decide) rt_three)
theorem ps_z : ∀ w, Calls Tryz.prog 21 #[.string ⟨#[122]⟩] w fun e w' => ∃ cs, e = .returned (.agg ⟨cs⟩) ∧ ExpAt w' w'.heap.size cs ex_z ∧ Below w.heap.size w w' := parsed_any tx_z ex_z (parse_any tx_z tk_z ex_z 2 (by decide) lx_z (by decide) (by decide) (fun pb tb c => pcx_z pb tb c _) (by decide) rt_z)
theorem ps_one : ∀ w, Calls Tryz.prog 21 #[.string ⟨#[49]⟩] w fun e w' => ∃ cs, e = .returned (.agg ⟨cs⟩) ∧ ExpAt w' w'.heap.size cs ex_one ∧ Below w.heap.size w w' := parsed_any tx_one ex_one (parse_any tx_one tk_one ex_one 2 (by decide) lx_one (by decide) (by decide) (fun pb tb c => pcx_one pb tb c _) (by decide) rt_one)
theorem ps_bab : ∀ w, Calls Tryz.prog 21 #[.string ⟨#[98, 43, 97, 43, 98]⟩] w fun e w' => ∃ cs, e = .returned (.agg ⟨cs⟩) ∧ ExpAt w' w'.heap.size cs ex_bab ∧ Below w.heap.size w w' := parsed_any tx_bab ex_bab (parse_any tx_bab tk_bab ex_bab 2 (by decide) lx_bab (by decide) (by decide) (fun pb tb c => pcx_bab pb tb c _) (by decide) rt_bab)
theorem ps_oney : ∀ w, Calls Tryz.prog 21 #[.string ⟨#[49, 43, 121]⟩] w fun e w' => ∃ cs, e = .returned (.agg ⟨cs⟩) ∧ ExpAt w' w'.heap.size cs ex_oney ∧ Below w.heap.size w w' := parsed_any tx_oney ex_oney (parse_any tx_oney tk_oney ex_oney 2 (by decide) lx_oney (by decide) (by decide) (fun pb tb c => pcx_oney pb tb c _) (by decide) rt_oney)
theorem fit_leaf (k : Int) (s : ByteArray) (v : VT) : FitE (.mk k s v [] []) := .mk (by simp) (by simp) (fun x hx => by cases hx)
theorem fit_xy : FitE ex_xy := .mk (by simp) (by show 2 * 160 ≤ 140737488351232; omega) (fun x hx => by
  simp only [List.mem_cons, List.not_mem_nil, or_false] at hx
  rcases hx with rfl | rfl
  · exact fit_leaf _ _ _
  · exact fit_leaf _ _ _)
theorem fit_one : FitE ex_one := fit_leaf _ _ _
def t11r : OrdT := .act 22 (.take 23 (.take 24 (.take 25 (.act 26 (.act 27 (.take 28 (.take 29 .done)))))))
def t11 : OrdT := OrdT.of [(0, true), (1, true), (2, true), (3, true), (4, true), (5, true), (6, true), (7, true), (8, true), (9, true), (10, true), (11, true), (12, true), (13, true), (14, true), (15, true), (16, true), (17, true), (18, true)] (.two 19 21 (.two 20 21 (.act 21 t11r) (.act 20 t11r)) (.act 19 (.act 20 t11r)))
set_option maxHeartbeats 8000000 in
set_option maxRecDepth 100000 in
theorem awake11 (w : World) : Calls Tryz.prog 7 #[] w fun e w' => e = .returned (.bool true) ∧ Below w.heap.size w w' := by
  go_enter Tryz.func7, Tryz.ntmps7
  go_wp2_with fail
  refine (make_ok 2 _ 1 1 ps2 _ rfl (Pairs.new w ps2 _ _ rfl (by unfold okPs ps2; decide) (by decide)) mk2).mono ?_
  rintro e w1 ⟨rfl, hl, hb⟩
  have HL1 := Lib.hid hl
  have HB1 : Hid (Below w.heap.size w w1) := Lib.hid ((box_below w _).trans (hb.mono (by simp)))
  clear hl hb
  obtain ⟨lb, hlb⟩ : ∃ lb, (w.alloc (.cells (pcells ps2).toArray 59)).heap.size = lb := ⟨_, rfl⟩
  have hlb2 : w.heap.size + 1 = lb := by rw [← hlb]; simp
  have HL2 : Hid (LatR w1 lb 2 L2) := Lib.hid (by rw [← hlb]; exact HL1.out)
  go_upto_region 3 with (fail)
  clear hlb hlb2 HL1
  have HV := Lib.hid (vars_two w1 ⟨#[120]⟩ ⟨#[121]⟩ 1 0 (by decide) (by decide) (wf_int 1 (by decide +kernel)) (wf_int 0 (by decide +kernel)))
  have HB2 := Lib.hid (box_below w1 (.cells ⟨zvarC ⟨#[120]⟩ 1 ++ zvarC ⟨#[121]⟩ 0⟩ 64))
  show Code.wp _ _ _ _ (w1.alloc (.cells ⟨zvarC ⟨#[120]⟩ 1 ++ zvarC ⟨#[121]⟩ 0⟩ 64))
  have HBX := Lib.hid (HB1.out.trans (HB2.out.mono HB1.out.size))
  have HLX := Lib.hid (HL2.out.here HB2.out)
  have HVX : Hid (SlAt (w1.alloc (.cells ⟨zvarC ⟨#[120]⟩ 1 ++ zvarC ⟨#[121]⟩ 0⟩ 64)) (w1.alloc (.cells ⟨zvarC ⟨#[120]⟩ 1 ++ zvarC ⟨#[121]⟩ 0⟩ 64)).heap.size 11 (VarAt (w1.alloc (.cells ⟨zvarC ⟨#[120]⟩ 1 ++ zvarC ⟨#[121]⟩ 0⟩ 64)) (w1.alloc (.cells ⟨zvarC ⟨#[120]⟩ 1 ++ zvarC ⟨#[121]⟩ 0⟩ 64)).heap.size) (.slice (some ⟨w1.heap.size, 0, none⟩) 2 2) E11) := Lib.hid HV.out
  clear HB1 HB2 HL2 HV
  generalize w1.alloc (.cells ⟨zvarC ⟨#[120]⟩ 1 ++ zvarC ⟨#[121]⟩ 0⟩ 64) = W at *
  go_wp2_with (go_at_call 21; fail)
  refine (ps_xy _).mono ?_
  rintro e w3a ⟨c3, rfl, hv, hb⟩
  have HE := Lib.hid hv
  have HBA := Lib.hid (HBX.out.trans (hb.mono HBX.out.size))
  have HLA := Lib.hid (HLX.out.here hb)
  have HVA := Lib.hid ((HVX.out.below hb (R' := VarAt w3a w3a.heap.size) fun _ _ _ h => (h.under hb).more hb.size).more hb.size)
  have HLC := Lib.hid (ilabel_any 2 L2 lb ex_xy E11 c3 (.slice (some ⟨w1.heap.size, 0, none⟩) 2 2) w3a HLA.out HE.out HVA.out (by decide))
  rw [lb_xy] at HLC
  simp only at HLC
  clear hv hb HBX HLX HVX
  go_wp2_with (go_at_call 11; fail)
  refine HLC.out.mono ?_
  rintro e w3b ⟨rfl, hb⟩
  have HBX := Lib.hid (HBA.out.trans (hb.mono HBA.out.size))
  have HLX := Lib.hid (HLA.out.here hb)
  have HVX := Lib.hid ((HVA.out.below hb (R' := VarAt w3b w3b.heap.size) fun _ _ _ h => (h.under hb).more hb.size).more hb.size)
  clear hb HBA HLA HVA HE HLC
  go_wp2_with (go_at_call 21; fail)
  refine (ps_three _).mono ?_
  rintro e w4a ⟨c4, rfl, hv, hb⟩
  have HE := Lib.hid hv
  have HBA := Lib.hid (HBX.out.trans (hb.mono HBX.out.size))
  have HLA := Lib.hid (HLX.out.here hb)
  have HVA := Lib.hid ((HVX.out.below hb (R' := VarAt w4a w4a.heap.size) fun _ _ _ h => (h.under hb).more hb.size).more hb.size)
  have HLC := Lib.hid (ilabel_any 2 L2 lb ex_three E11 c4 (.slice (some ⟨w1.heap.size, 0, none⟩) 2 2) w4a HLA.out HE.out HVA.out (by decide))
  rw [lb_three] at HLC
  simp only at HLC
  clear hv hb HBX HLX HVX
  go_wp2_with (go_at_call 11; fail)
  refine HLC.out.mono ?_
  rintro e w4b ⟨rfl, hb⟩
  have HBX := Lib.hid (HBA.out.trans (hb.mono HBA.out.size))
  have HLX := Lib.hid (HLA.out.here hb)
  have HVX := Lib.hid ((HVA.out.below hb (R' := VarAt w4b w4b.heap.size) fun _ _ _ h => (h.under hb).more hb.size).more hb.size)
  clear hb HBA HLA HVA HE HLC
  go_wp2_with (go_at_call 21; fail)
  refine (ps_z _).mono ?_
  rintro e w5a ⟨c5, rfl, hv, hb⟩
  have HE := Lib.hid hv
  have HBA := Lib.hid (HBX.out.trans (hb.mono HBX.out.size))
  have HLA := Lib.hid (HLX.out.here hb)
  have HVA := Lib.hid ((HVX.out.below hb (R' := VarAt w5a w5a.heap.size) fun _ _ _ h => (h.under hb).more hb.size).more hb.size)
  have HLC := Lib.hid (ilabel_any 2 L2 lb ex_z E11 c5 (.slice (some ⟨w1.heap.size, 0, none⟩) 2 2) w5a HLA.out HE.out HVA.out (by decide))
  rw [lb_z] at HLC
  simp only at HLC
  clear hv hb HBX HLX HVX
  go_wp2_with (go_at_call 11; fail)
  refine HLC.out.mono ?_
  rintro e w5b ⟨rfl, hb⟩
  have HBX := Lib.hid (HBA.out.trans (hb.mono HBA.out.size))
  have HLX := Lib.hid (HLA.out.here hb)
  have HVX := Lib.hid ((HVA.out.below hb (R' := VarAt w5b w5b.heap.size) fun _ _ _ h => (h.under hb).more hb.size).more hb.size)
  clear hb HBA HLA HVA HE HLC
  clear HLX HVX
  go_wp2_with (go_at_call 21; fail)
  refine (ps_xy _).mono ?_
  rintro e w6 ⟨c6, rfl, hv, hb⟩
  have HE := Lib.hid hv
  have HB6 := Lib.hid (HBX.out.trans (hb.mono HBX.out.size))
  clear hv hb HBX
  go_wp2_with (go_at_call 21; fail)
  refine (ps_one _).mono ?_
  rintro e w7 ⟨c7, rfl, hv, hb⟩
  have HE7 := Lib.hid ((HE.out.under hb).more hb.size)
  have HO7 := Lib.hid hv
  have HB7 := Lib.hid (HB6.out.trans (hb.mono HB6.out.size))
  clear hv hb HE HB6
  have HRC := Lib.hid (ireplace_any ⟨#[120]⟩ ex_one fit_one ex_xy w7.heap.size c6 c7 w7 fit_xy (Nat.le_refl _) HE7.out HO7.out)
  rw [rp_xy] at HRC
  go_wp2_with (go_at_call 22; fail)
  refine HRC.out.mono ?_
  rintro e z9 ⟨cr, rfl, hk, hb⟩
  have HRX := Lib.hid hk.exp
  have HRL := Lib.hid (eslen hk.exp)
  have HRO := Lib.hid hk.exp.one
  have HB9 := Lib.hid (HB7.out.trans (hb.mono HB7.out.size))
  clear hk hb HE7 HO7 HB7 HRC
  go_upto_region 7 with (first | ((with_reducible refine wl_sbox 30 _ _ rfl ?hwx z9 ?zz cr ?hwld ?hz ?hx ?hy ?hi ?h1 ?_); (case hwld => rfl); (case hx => rfl); (case hy => rfl); (case hwx => (first | exact wanted_none rfl | exact wanted_if rfl rfl rfl rfl)); (case hz => rw [HRL.out]; rfl); (case hi => rw [HRL.out]; kernel_rfl); (case h1 => exact HRO.out); intro Z hZ; have HX := Lib.hid hZ; clear hZ))
  have HBZ := Lib.hid (HB9.out.trans (HX.out.below.mono HB9.out.size))
  have HRG := Lib.hid HX.out.range
  have HEZ := Lib.hid ((HRX.out.under HX.out.below).more HX.out.below.size)
  have HZS := Lib.hid HX.out.size
  clear HX HRX HB9
  refine wp_region_tree t11 (fun z => Below Z.heap.size Z z) (by kernel_rfl) (by kernel_rfl) (by kernel_rfl) rfl (by intro c a d v w h; cases d <;> exact h) ?_
  have hs0 : Below Z.heap.size Z Z.drew := (Below.refl _ Z).drew
  generalize Z.drew = Zd at *
  refine tree_move (some 44) (.int .i64 1) _ _ rfl rfl rfl (by first | exact wanted_none rfl | exact wanted_if rfl rfl rfl rfl) hs0 rfl ?_
  go_frame
  refine tree_load (some 45) (.bool true) _ rfl rfl (by first | exact wanted_none rfl | exact wanted_if rfl rfl rfl rfl) hs0 (fun z hz => by go_simp) ?_
  go_frame
  refine tree_move (some 46) (.bool true) _ _ rfl rfl rfl (by first | exact wanted_none rfl | exact wanted_if rfl rfl rfl rfl) hs0 rfl ?_
  go_frame
  refine tree_move (some 47) (.int .i64 0) _ _ rfl rfl rfl (by first | exact wanted_none rfl | exact wanted_if rfl rfl rfl rfl) hs0 rfl ?_
  go_frame
  refine tree_load (some 48) (.bool true) _ rfl rfl (by first | exact wanted_none rfl | exact wanted_if rfl rfl rfl rfl) hs0 (fun z hz => by go_simp) ?_
  go_frame
  refine tree_pick (some 49) (.bool true) _ _ _ _ true rfl rfl rfl rfl (by first | exact wanted_none rfl | exact wanted_if rfl rfl rfl rfl) hs0 rfl ?_
  go_frame
  refine tree_move (some 50) (.bool true) _ _ rfl rfl rfl (by first | exact wanted_none rfl | exact wanted_if rfl rfl rfl rfl) hs0 rfl ?_
  go_frame
  refine tree_move (some 51) (.int .i64 0) _ _ rfl rfl rfl (by first | exact wanted_none rfl | exact wanted_if rfl rfl rfl rfl) hs0 rfl ?_
  go_frame
  refine tree_load (some 52) (.bool true) _ rfl rfl (by first | exact wanted_none rfl | exact wanted_if rfl rfl rfl rfl) hs0 (fun z hz => by go_simp) ?_
  go_frame
  refine tree_pick (some 53) (.bool true) _ _ _ _ true rfl rfl rfl rfl (by first | exact wanted_none rfl | exact wanted_if rfl rfl rfl rfl) hs0 rfl ?_
  go_frame
  refine tree_move (some 54) (.bool true) _ _ rfl rfl rfl (by first | exact wanted_none rfl | exact wanted_if rfl rfl rfl rfl) hs0 rfl ?_
  go_frame
  refine tree_move (some 55) (.int .i64 0) _ _ rfl rfl rfl (by first | exact wanted_none rfl | exact wanted_if rfl rfl rfl rfl) hs0 rfl ?_
  go_frame
  refine tree_load (some 56) (.bool true) _ rfl rfl (by first | exact wanted_none rfl | exact wanted_if rfl rfl rfl rfl) hs0 (fun z hz => by go_simp) ?_
  go_frame
  refine tree_pick (some 57) (.bool true) _ _ _ _ true rfl rfl rfl rfl (by first | exact wanted_none rfl | exact wanted_if rfl rfl rfl rfl) hs0 rfl ?_
  go_frame
  refine tree_move (some 58) (.bool true) _ _ rfl rfl rfl (by first | exact wanted_none rfl | exact wanted_if rfl rfl rfl rfl) hs0 rfl ?_
  go_frame
  refine tree_move (some 59) (.int .i64 11) _ _ rfl rfl rfl (by first | exact wanted_none rfl | exact wanted_if rfl rfl rfl rfl) hs0 rfl ?_
  go_frame
  refine tree_load (some 60) (.bool true) _ rfl rfl (by first | exact wanted_none rfl | exact wanted_if rfl rfl rfl rfl) hs0 (fun z hz => by go_simp) ?_
  go_frame
  refine tree_pick (some 61) (.bool true) _ _ _ _ true rfl rfl rfl rfl (by first | exact wanted_none rfl | exact wanted_if rfl rfl rfl rfl) hs0 rfl ?_
  go_frame
  refine tree_move (some 62) (.bool true) _ _ rfl rfl rfl (by first | exact wanted_none rfl | exact wanted_if rfl rfl rfl rfl) hs0 rfl ?_
  go_frame
  have HZR := Lib.hid HRG.out
  refine tree_cc (fun u z => ∃ cs, u = .agg ⟨cs⟩ ∧ ExpAt z z.heap.size cs ex_bab) (fun v z => SlAt z z.heap.size 1 NameR v [[97], [98]]) (fun v z => SlAt z z.heap.size 1 NameR v [[97], [98]])
    21 15 Tryz.func21 (by kernel_rfl) (by kernel_rfl) Tryz.func15 (by kernel_rfl) (by kernel_rfl) (.string ⟨#[98, 43, 97, 43, 98]⟩) #[.string ⟨#[97]⟩, .string ⟨#[98]⟩] _ _ _ _ _ rfl rfl rfl rfl rfl rfl rfl rfl
    (by first | exact wanted_none rfl | exact wanted_if rfl rfl rfl rfl) (fun v => (by first | exact wanted_none rfl | exact wanted_if rfl rfl rfl rfl)) (fun u => (by first | exact wanted_none rfl | exact wanted_if rfl rfl rfl rfl)) (fun u v => (by first | exact wanted_none rfl | exact wanted_if rfl rfl rfl rfl)) (by first | exact wanted_none rfl | exact wanted_if rfl rfl rfl rfl) (fun u => (by first | exact wanted_none rfl | exact wanted_if rfl rfl rfl rfl)) (fun u v => (by first | exact wanted_none rfl | exact wanted_if rfl rfl rfl rfl)) (fun u => rfl) (fun u v => rfl) (T := 9) (n := 2)
    (fun z => by go_simp) (fun u z => by go_simp) (fun u v z => by go_simp) ?c1 ?c2 ?p1 ?p2 ?p3 ?p4 (by decide) (by decide) hs0 ?_
  case c1 =>
    intro z hz
    refine (ps_bab z).mono ?_
    rintro e z' ⟨cs, rfl, hv, hb⟩
    exact ⟨_, rfl, hz.trans (hb.mono hz.size), ⟨cs, rfl, hv⟩, fun u hu => (hu.below hb fun _ _ _ h => h).more hb.size⟩
  case c2 =>
    rintro u z hz ⟨cs, rfl, hv⟩
    refine (reads_any ex_bab cs z hv).mono ?_
    rintro e z' ⟨v, base, rfl, hbs, hrow, hb⟩
    rw [rd_bab] at hrow
    exact ⟨_, rfl, hz.trans (hb.mono hz.size), names_own hrow (by decide), fun u hu => (hu.below hb fun _ _ _ h => h).more hb.size⟩
  case p1 => exact fun z hz => hz.alloc hz.size _
  case p2 => rintro v z ⟨cs, rfl, hv⟩; exact ⟨cs, rfl, (hv.under (box_below z _)).more (box_below z _).size⟩
  case p3 => exact fun v z hv => (hv.below (box_below z _) fun _ _ _ h => h).more (box_below z _).size
  case p4 =>
    intro z
    refine ⟨by decide, _, 2, rfl, fun _ => ⟨z.heap.size, 0, rfl, by simp, fun k x hx => ?_⟩⟩
    have hr := range_box z [.string ⟨#[97]⟩, .string ⟨#[98]⟩] 9
    match k, hx with
    | 0, hx =>
      simp at hx
      subst hx
      exact ⟨[.string ⟨#[97]⟩], rfl, fun p u hu => by
        match p, hu with
        | 0, hu => simp at hu; subst hu; exact hr 0 _ rfl
        | p + 1, hu => simp at hu, rfl⟩
    | 1, hx =>
      simp at hx
      subst hx
      exact ⟨[.string ⟨#[98]⟩], rfl, fun p u hu => by
        match p, hu with
        | 0, hu => simp at hu; subst hu; exact hr 1 _ rfl
        | p + 1, hu => simp at hu, rfl⟩
    | k + 2, hx => simp at hx
  intro u v x z hz hvn hxn
  clear hs0
  go_frame
  refine tree_to (some 66) 14 Tryz.func14 (by kernel_rfl) (by kernel_rfl) [v, x] _ _ _ rfl rfl rfl (by first | exact wanted_none rfl | exact wanted_if rfl rfl rfl rfl) rfl ?_
  refine (rsame11 v x [[97], [98]] z hvn hxn (by decide)).mono ?_
  rintro e z2 ⟨rfl, hb⟩
  have hs0 := hz.trans (hb.mono hz.size)
  refine ⟨_, rfl, hs0, ?_⟩
  go_frame
  clear hvn hxn hb hz
  refine tree_pick (some 67) (.bool true) _ _ _ _ true rfl rfl rfl rfl (by first | exact wanted_none rfl | exact wanted_if rfl rfl rfl rfl) hs0 rfl ?_
  go_frame
  refine tree_move (some 68) (.bool true) _ _ rfl rfl rfl (by first | exact wanted_none rfl | exact wanted_if rfl rfl rfl rfl) hs0 rfl ?_
  go_frame
  refine tree_load (some 69) (.agg cr.toArray) _ rfl rfl (by first | exact wanted_none rfl | exact wanted_if rfl rfl rfl rfl) hs0 (fun z hz => exec_sload 30 rfl z9.heap.size 0 cr _ rfl (rangeAt_below HZR.out hz HZS.out) Tryz.underlying30 rfl (by rw [HRL.out]; kernel_rfl)) ?_
  go_frame
  refine tree_to (some 70) 21 Tryz.func21 (by kernel_rfl) (by kernel_rfl) [.string ⟨#[49, 43, 121]⟩] _ _ _ rfl rfl rfl (by first | exact wanted_none rfl | exact wanted_if rfl rfl rfl rfl) rfl ?_
  refine (ps_oney z2).mono ?_
  rintro e z3 ⟨c3, rfl, hv3, hb⟩
  have hs1 := hs0.trans (hb.mono hs0.size)
  refine ⟨_, rfl, hs1, ?_⟩
  go_frame
  clear hb hs0
  refine tree_to (some 71) 23 Tryz.func23 (by kernel_rfl) (by kernel_rfl) [.agg cr.toArray, .agg ⟨c3⟩] _ _ _ rfl rfl rfl (by first | exact wanted_none rfl | exact wanted_if rfl rfl rfl rfl) rfl ?_
  have hsm := resame_any ex_oney ex_oney cr c3 z3 ((HEZ.out.under hs1).more hs1.size) hv3
  rw [sm_oney] at hsm
  refine hsm.mono ?_
  rintro e z4 ⟨rfl, hb⟩
  have hs0 := hs1.trans (hb.mono hs1.size)
  refine ⟨_, rfl, hs0, ?_⟩
  go_frame
  clear hb hs1 hsm hv3
  refine tree_pick (some 72) (.bool true) _ _ _ _ true rfl rfl rfl rfl (by first | exact wanted_none rfl | exact wanted_if rfl rfl rfl rfl) hs0 rfl ?_
  go_frame
  refine tree_assign (some 0) (.bool true) _ _ rfl rfl rfl (by first | exact wanted_none rfl | exact wanted_if rfl rfl rfl rfl) hs0 rfl ?_
  go_frame
  refine tree_end ?_
  have HEND := Lib.hid (HBZ.out.trans (hs0.mono HBZ.out.size))
  clear hs0
  go_wp2
  go_ret
  exact ⟨rfl, HEND.out⟩
end Go.Proofs.YtppmkehdhpgdcaaGreat
end
