/- Parts of a proof: RefMake. -/
import Derived.Test.YtppmkehdhpgdcaaGreatPackP9
namespace Go.Proofs.YtppmkehdhpgdcaaGreat
open Go.RowKit P
def rmkN (n : Int) (ps : List (Int × Int)) : Nat := if makeE n ps = 0 then n.toNat else 0
def rmkL (n : Int) (ps : List (Int × Int)) : Rel := if makeE n ps = 0 then ordOf n.toNat ps else fun _ _ => false
def RMakePost (w : World) (n : Int) (ps : List (Int × Int)) (e : Ending) (w' : World) : Prop :=
  e = .returned (.tuple #[.agg (rv (rmkN n ps) (rmkL n ps)), .int .i64 (makeE n ps)]) ∧ Below w.heap.size w w'
theorem rv_ne (n : Nat) (L : Rel) : (rv n L = #[]) = False := by
  rw [eq_iff_iff, iff_false]; intro h; have := congrArg Array.size h; rw [rv_size] at this; simp at this
theorem rv_set0 (k : Nat) : (rv 0 fun _ _ => false).setIfInBounds 0 (.int .i64 k) = rv k fun _ _ => false := rfl
theorem results_rmake {fn : Func} {p q : Tmp} (h : fn.results = #[.cell p 36, .tmp q]) (tmps : Array Value) (w : World) (g n : Nat) (L : Rel) (v : Value)
    (hp : tmps.getD p undef = .pointer (some ⟨g, 0, none⟩)) (hq : tmps.getD q undef = v) (hm : Rm w g n L) : (results fn tmps).run Tryz.prog w = .ok (.tuple #[.agg (rv n L), v]) w := by
  have hp' : tmps[p]?.getD undef = .pointer (some ⟨g, 0, none⟩) := by simpa using hp
  have hq' : tmps[q]?.getD undef = v := by simpa using hq
  have hl := run_loadVar_mid (P := Tryz.prog) w g 0 36 (rl n L) _ hm.range Tryz.underlying36 rfl (by rw [rl_len]; kernel_rfl)
  simp [results, h, hp', hq', asAddr, hl, rv]
structure Rk (wr w : World) (n : Nat) (R : Rel) : Prop where
  m1 : ∃ n' L', Rm wr w.heap.size n' L'
  m : Rm wr (w.heap.size + 1) n R
  b : Below w.heap.size w wr
  s : w.heap.size + 1 < wr.heap.size
theorem Rk.set {wr w : World} {n : Nat} {R : Rel} (h : Rk wr w n R) {i j : Nat} (hi : i < 8) (hj : j < 8) : Rk (wr.setCell ⟨w.heap.size + 1, 1 + i * 8 + j, none⟩ (.bool true)) w n (upd2 R i j true) := by
  obtain ⟨n', L', h1⟩ := h.m1
  exact ⟨⟨n', L', h1.setCell_far (by simp) _⟩, h.m.set hi hj true, h.b.setCell (by simp) _, by rw [size_set]; exact h.s⟩
theorem Rk.below {wr w w1 : World} {n : Nat} {R : Rel} (h : Rk wr w n R) (hb : Below wr.heap.size wr w1) : Rk w1 w n R := by
  obtain ⟨n', L', h1⟩ := h.m1
  have := h.s
  exact ⟨⟨n', L', h1.below hb (by omega)⟩, h.m.below hb h.s, h.b.trans (hb.mono (by omega)), by have := hb.size; omega⟩
theorem Rk.drewN {wr w : World} {n : Nat} {R : Rel} (h : Rk wr w n R) (k : Nat) : Rk (wr.drewN k) w n R := by
  obtain ⟨n', L', h1⟩ := h.m1
  exact ⟨⟨n', L', h1.drewN k⟩, h.m.drewN k, below_drewN h.b k, h.s⟩
theorem Rk.store {wr w : World} {n : Nat} {R : Rel} (h : Rk wr w n R) (n2 : Nat) (R2 : Rel) : Rk (wr.setCells (w.heap.size + 1) 0 (rl n2 R2)) w n2 R2 := by
  obtain ⟨n', L', h1⟩ := h.m1
  exact ⟨⟨n', L', h1.far (by omega) _ _⟩, h.m.setCells n2 R2, below_setCells h.b (by omega) _ _, by rw [size_setCells]; exact h.s⟩
theorem Rk.congr {wr w : World} {n : Nat} {R M : Rel} (h : Rk wr w n R) (hc : ∀ i j, i < 8 → j < 8 → R i j = M i j) : Rk wr w n M := ⟨h.m1, h.m.congr hc, h.b, h.s⟩
theorem diag_set (x a b : Nat) : upd2 (diag x) x x true a b = diag (x + 1) a b := by
  unfold upd2 diag
  by_cases e : a = x ∧ b = x
  · obtain ⟨rfl, rfl⟩ := e; simp
  · rw [if_neg e]
    by_cases e2 : a = b
    · subst e2
      have : (a < x + 1) = (a < x) := by simp; omega
      simp [this]
    · have e3 : (a == b) = false := beq_eq_false_iff_ne.2 e2
      simp [e3]
theorem rel0_set (k : Nat) (ps : List (Int × Int)) (x y : Nat) (hx : x < k) (hy : y < k) (a b : Nat) : upd2 (rel0 k ps) x y true a b = rel0 k (ps ++ [((x : Int), (y : Int))]) a b := by
  rw [← rel0_step k ps x y hx hy a b]
  unfold upd2 upd
  by_cases e : a = x
  · subst e
    by_cases e2 : b = y
    · subst e2; simp
    · have e3 : (b == y) = false := beq_eq_false_iff_ne.2 e2
      simp [e2, e3]
  · simp [e]
theorem rm_end {w w' : World} {n : Int} {ps : List (Int × Int)} {v : Int} {k : Nat} {R : Rel} (hb : Below w.heap.size w w') (h : makeE n ps = v) (hk : rmkN n ps = k) (hR : rmkL n ps = R) :
    RMakePost w n ps (.returned (.tuple #[.agg (rv k R), .int .i64 v])) w' := by
  subst h; subst hk; subst hR
  exact ⟨rfl, hb⟩
theorem rmk_bad {n : Int} {ps : List (Int × Int)} {v : Int} (h : makeE n ps = v) (hv : v ≠ 0) : rmkN n ps = 0 ∧ rmkL n ps = fun _ _ => false := by
  unfold rmkN rmkL; rw [h, if_neg hv, if_neg hv]; exact ⟨rfl, rfl⟩
set_option maxHeartbeats 4000000 in
set_option maxRecDepth 100000 in
theorem rmake_in (k : Nat) (A : Option Addr) (c : Nat) (ps : List (Int × Int)) (w : World) (hp : Pairs w w.heap.size A ps) (h1 : 1 ≤ k) (h8 : k ≤ 8) (hl : ps.length ≤ 64) :
    Calls Tryz.prog 20 #[.int .i64 k, .slice A ps.length c] w (RMakePost w k ps) := by
  have t1 : decide ((k : Int) < 1) = false := by simp; omega
  have t2 : decide ((8 : Int) < k) = false := by simp; omega
  have t3 : decide ((64 : Int) < ps.length) = false := by simp; omega
  have hz := rzero
  have hne := rv_ne
  have hs0 := rv_set0 k
  have HP := Lib.hid hp
  clear hp
  have HK : Hid (Rk ((w.alloc (.cells (rv 0 fun _ _ => false) 36)).alloc (.cells (rv 0 fun _ _ => false) 36)) w 0 fun _ _ => false) := by
    have h2 := Rm.new (w.alloc (.cells (rv 0 fun _ _ => false) 36)) 0 (fun _ _ => false) 36
    exact Lib.hid ⟨⟨0, fun _ _ => false, (Rm.new w 0 _ 36).below ((Below.refl _ _).alloc (Nat.le_refl _) _) (by simp)⟩, by simpa using h2, ((Below.refl _ _).alloc (Nat.le_refl _) _).alloc (by simp) _, by simp⟩
  go_enter Tryz.func20, Tryz.ntmps20
  go_wp2_with (refine wl_rstore _ _ rfl (by simp [Region.wanted]) (w.heap.size + 1) k (fun _ _ => false) rfl rfl ⟨_, _, HK.out.m⟩ ?_)
  clear hz hne hs0
  have HK1 := Lib.hid (HK.out.store k (fun _ _ => false))
  clear HK
  generalize World.setCells _ _ _ _ = W at *
  go_loopg [7] k (fun g i wr => ∃ x : Nat, x + g = k ∧ i = .int .i64 x ∧ Rk wr w k (diag x))
  case atStart => exact ⟨0, by omega, rfl, HK1.out.congr fun _ _ _ _ => diag_zero _ _⟩
  case round =>
    obtain ⟨x, hx, rfl, hk⟩ := hrel
    have HK2 := Lib.hid hk
    cases gk with
    | succ g =>
      have hlt : (x : Int) < (k : Int) := by omega
      have hx8 : (x : Int) < 8 := by omega
      have cu := hk.m.cl x x (by omega) (by omega)
      have fu := hk.m.fz (1 + x * 8 + x)
      clear hk
      go_wp2
      go_roundg g
      case measure => omega
      case rel => exact ⟨x + 1, by omega, by go_num, (HK2.out.set (by omega) (by omega)).congr fun _ _ _ _ => diag_set _ _ _⟩
    | zero =>
      have hge : ¬ ((x : Int) < (k : Int)) := by omega
      obtain rfl : x = k := by omega
      clear hk
      have HK3 := Lib.hid (HK2.out.congr fun a b ha hb => diag_rel _ a b ha hb)
      go_wp2
      go_loopg [8] ps.length (fun g i wr => ∃ j : Nat, j + g = ps.length ∧ i = .int .i64 j ∧ okPairs x (ps.take j) = true ∧ Rk wr w x (rel0 x (ps.take j)))
      case atStart => exact ⟨0, by omega, rfl, rfl, HK3.out⟩
      case round =>
        obtain ⟨j, hj, rfl, hok, hk⟩ := hrel
        have HK4 := Lib.hid hk
        have HO := Lib.hid hok
        clear hok hk
        cases gk with
        | succ g =>
          have hlt : (j : Int) < (ps.length : Int) := by omega
          obtain ⟨p, hp⟩ : ∃ p, ps[j]? = some p := ⟨_, List.getElem?_eq_getElem (by omega)⟩
          obtain ⟨b, o, rfl, hbl, hcell⟩ := HP.out.2 (by omega)
          obtain ⟨c0, c1, wf0, wf1⟩ := hcell j p hp
          have d0 := (HK4.out.b.cell (p := ⟨b, o + j * 2, none⟩) hbl).trans c0
          have d1 := (HK4.out.b.cell (p := ⟨b, o + j * 2 + 1, none⟩) hbl).trans c1
          clear c0 c1 hcell
          obtain ⟨p0, p1⟩ := p
          have HPJ := Lib.hid hp
          clear hp
          simp only at d0 d1 wf0 wf1
          go_wp2
          go_quiet (fail)
          cases hr : (isLb x p0 && isLb x p1) with
          | false =>
            have HR := Lib.hid hr
            have hr2 : p0 < 0 ∨ (x : Int) ≤ p0 ∨ p1 < 0 ∨ (x : Int) ≤ p1 := by
              unfold isLb at hr; simp at hr; omega
            have HR2 := Lib.hid hr2
            have h2 : makeE x ps = 2 := by
              unfold makeE
              rw [if_neg (by omega), if_pos (okPairs_take HPJ.out HR.out)]
            have H2 := Lib.hid h2
            have hz := rzero
            clear hr hr2 h2 d0 d1
            go_wp2_with (refine wl_rstore _ _ rfl (by simp [Region.wanted]) w.heap.size 0 (fun _ _ => false) rfl rfl (HK4.out.drewN _).m1 ?_)
            all_goals first
              | (exfalso; have := HR2.out; omega)
              | (obtain ⟨n', L', h1⟩ := (HK4.out.drewN nq).m1
                 exact bodyPost_ret (results_rmake rfl _ _ w.heap.size 0 (fun _ _ => false) (.int .i64 2) rfl rfl (h1.setCells 0 _)) rfl
                   (rm_end (below_setCells (HK4.out.drewN nq).b (Nat.le_refl _) _ _) H2.out (rmk_bad H2.out (by decide)).1 (rmk_bad H2.out (by decide)).2))
          | true =>
            obtain ⟨a, e, rfl, rfl, ha, hb⟩ : ∃ a e : Nat, p0 = a ∧ p1 = e ∧ a < x ∧ e < x := by
              unfold isLb at hr; simp at hr
              exact ⟨p0.toNat, p1.toNat, by omega, by omega, by omega, by omega⟩
            have cu := (HK4.out.drewN nq).m.cl a e (by omega) (by omega)
            have fu := (HK4.out.drewN nq).m.fz (1 + a * 8 + e)
            clear hr d0 d1
            go_wp2
            go_roundg g
            case measure => omega
            case rel =>
              refine ⟨j + 1, by omega, by go_num, ?_, ?_⟩
              · rw [take_snoc HPJ.out, okPairs_snoc, HO.out]; unfold isLb; simp; omega
              · rw [take_snoc HPJ.out]
                exact ((HK4.out.drewN nq).set (show a < 8 by omega) (show e < 8 by omega)).congr fun i l _ _ => rel0_set _ _ _ _ ha hb _ _
        | zero =>
          obtain rfl : j = ps.length := by omega
          rw [List.take_length] at HK4 HO
          have hge2 : ¬ ((ps.length : Int) < (ps.length : Int)) := by omega
          have CC := Lib.hid (rclose_any x (rel0 x ps) wr h8 (rel0_dom x ps))
          go_wp2_with (first | (refine wl_rload _ rfl (by simp [Region.wanted]) (w.heap.size + 1) x (rel0 x ps) rfl HK4.out.m ?_) | (go_at_call 45; refine CC.out.mono ?_; rintro e w1 ⟨rfl, hb⟩; have HK5 := Lib.hid (HK4.out.below hb); clear hb CC) | (refine wl_rstore _ _ rfl (by simp [Region.wanted]) (w.heap.size + 1) x (clo (rel0 x ps) x) rfl rfl ⟨_, _, HK5.out.m⟩ ?_))
          have HK6 := Lib.hid (HK5.out.store x (ordOf x ps))
          change Hid (Rk (w1.setCells (w.heap.size + 1) 0 (rl x (clo (rel0 x ps) x))) _ _ _) at HK6
          generalize World.setCells _ _ _ _ = W2 at *
          have HBAD16 : Hid (∀ a b : Nat, a < x ∧ b < x → badAt x (ordOf x ps) a b = true → makeE x ps = 16) := by
            refine Lib.hid fun a b hab h => ?_
            unfold makeE
            rw [if_neg (by omega), if_neg (by rw [HO.out]; decide), Int.toNat_natCast, isLat_no hab.1 hab.2 h]; rfl
          have HGOOD : Hid ((∀ a b, a < x → b < x → badAt x (ordOf x ps) a b = false) → makeE x ps = 0) := by
            refine Lib.hid fun h => ?_
            unfold makeE
            rw [if_neg (by omega), if_neg (by rw [HO.out]; decide), Int.toNat_natCast, isLat_yes h]; rfl
          have HRL : Hid (makeE x ps = 0 → rmkN x ps = x ∧ rmkL x ps = ordOf x ps) := by
            refine Lib.hid fun h => ?_
            unfold rmkN rmkL; rw [h]; simp
          generalize ordOf x ps = L at *
          go_loopg [11] x (fun g i wr => ∃ a : Nat, a + g = x ∧ i = .int .i64 a ∧ (∀ i j, i < a → j < x → badAt x L i j = false) ∧ Rk wr w x L)
          case atStart => exact ⟨0, by omega, rfl, fun i j hi _ => absurd hi (by omega), HK6.out⟩
          case round =>
            obtain ⟨a, ha, rfl, hb, hk⟩ := hrel
            have HB1 := Lib.hid hb
            have HK7 := Lib.hid hk
            clear hb hk
            cases gk with
            | zero =>
              have hge3 : ¬ ((a : Int) < (x : Int)) := by omega
              obtain rfl : a = x := by omega
              have HE := Lib.hid (HGOOD.out HB1.out)
              go_wp2_with (first | (refine wl_rload _ rfl (by simp [Region.wanted]) (w.heap.size + 1) a L rfl HK7.out.m ?_) | (refine wl_rstore _ _ rfl (by simp [Region.wanted]) w.heap.size a L rfl rfl HK7.out.m1 ?_))
              obtain ⟨n', L', h1⟩ := HK7.out.m1
              exact bodyPost_ret (results_rmake rfl _ _ w.heap.size a L (.int .i64 0) rfl rfl (h1.setCells a L)) rfl
                (rm_end (below_setCells HK7.out.b (Nat.le_refl _) _ _) HE.out (HRL.out HE.out).1 (HRL.out HE.out).2)
            | succ g =>
              have hlt3 : (a : Int) < (x : Int) := by omega
              go_wp2
              obtain ⟨V, hV⟩ : ∃ V : World, V = wr := ⟨_, rfl⟩
              subst hV
              go_loopg [12] x (fun g i wr => ∃ b : Nat, b + g = x ∧ i = .int .i64 b ∧ (∀ j, j < b → badAt x L a j = false) ∧ Rk wr w x L)
              case atStart => exact ⟨0, by omega, rfl, fun j hj => absurd hj (by omega), HK7.out⟩
              case round =>
                obtain ⟨b, hb, rfl, hbd, hk⟩ := hrel
                have HB2 := Lib.hid hbd
                have HK8 := Lib.hid hk
                clear hbd
                cases gk with
                | zero =>
                  have hge4 : ¬ ((b : Int) < (x : Int)) := by omega
                  obtain rfl : b = x := by omega
                  clear hk
                  go_wp2
                  go_roundg g
                  case measure => omega
                  case rel =>
                    refine ⟨a + 1, by omega, by go_num, fun i j hi hj => ?_, HK8.out⟩
                    by_cases e : i = a
                    · subst e; exact HB2.out j hj
                    · exact HB1.out i j (by omega) hj
                | succ g2 =>
                  have hlt4 : (b : Int) < (x : Int) := by omega
                  have ha8 : (a : Int) < 8 := by omega
                  have hb8 : (b : Int) < 8 := by omega
                  have cab := hk.m.cl a b (by omega) (by omega)
                  have cba := hk.m.cl b a (by omega) (by omega)
                  have CJ := Lib.hid (rjoin_any x L a b wr h8 (by omega) (by omega))
                  have HBAD16 := Lib.hid (HBAD16.out a b (show a < x ∧ b < x by omega))
                  have hbad : badAt x L a b = ((a != b && L a b && L b a) || decide (jn x L a b < 0) || decide (mt x L a b < 0)) := rfl
                  have HTW := Lib.hid hbad
                  clear hk hbad
                  generalize L a b = p at *
                  generalize L b a = q at *
                  by_cases hab : a = b
                  · have e1 : ((a : Int) != (b : Int)) = false := by simp [hab]
                    have e2 : (a != b) = false := by simp [hab]
                    rw [e2, Bool.false_and, Bool.false_and, Bool.false_or] at HTW
                    clear hab e2
                    have hbx : badAt x L a b = (decide (jn x L a b < 0) || decide (mt x L a b < 0)) := HTW.out
                    by_cases hj : jn x L a b < 0
                    · have HX : Hid (badAt x L a b = true) := Lib.hid (hbx.trans (by simp [hj]))
                      clear hbx
                      have H16 := Lib.hid (HBAD16.out HX.out)
                      have hz := rzero
                      clear HX
                      go_wp2_with (first | (refine wl_rload _ rfl (by go_simp) (w.heap.size + 1) x L rfl HK8.out.m ?_) | (go_at_call 38; refine CJ.out.mono ?_; rintro e w1 ⟨rfl, hb1⟩; have HK9 := Lib.hid (HK8.out.below hb1); have CM := Lib.hid (rmeet_any x L a b w1 h8 (by omega) (by omega)); clear hb1 CJ) | (refine wl_rstore _ _ rfl (by simp [Region.wanted]) w.heap.size 0 (fun _ _ => false) rfl rfl HK9.out.m1 ?_))
                      obtain ⟨n', L', h1⟩ := HK9.out.m1
                      exact bodyPost_ret (results_rmake rfl _ _ w.heap.size 0 (fun _ _ => false) (.int .i64 16) rfl rfl (h1.setCells 0 _)) rfl
                        (rm_end (below_setCells HK9.out.b (Nat.le_refl _) _ _) H16.out (rmk_bad H16.out (by decide)).1 (rmk_bad H16.out (by decide)).2)
                    · have hj2 : 0 ≤ jn x L a b := by omega
                      by_cases hm : mt x L a b < 0
                      · have HX : Hid (badAt x L a b = true) := Lib.hid (hbx.trans (by simp [hm]))
                        clear hbx
                        have H16 := Lib.hid (HBAD16.out HX.out)
                        have hz := rzero
                        clear HX
                        go_wp2_with (first | (refine wl_rload _ rfl (by go_simp) (w.heap.size + 1) x L rfl HK8.out.m ?_) | (go_at_call 38; refine CJ.out.mono ?_; rintro e w1 ⟨rfl, hb1⟩; have HK9 := Lib.hid (HK8.out.below hb1); have CM := Lib.hid (rmeet_any x L a b w1 h8 (by omega) (by omega)); clear hb1 CJ) | (refine wl_rload _ rfl (by go_simp) (w.heap.size + 1) x L rfl HK9.out.m ?_) | (go_at_call 46; refine CM.out.mono ?_; rintro e w2 ⟨rfl, hb2⟩; have HK10 := Lib.hid (HK9.out.below hb2); clear hb2 CM) | (refine wl_rstore _ _ rfl (by simp [Region.wanted]) w.heap.size 0 (fun _ _ => false) rfl rfl HK10.out.m1 ?_))
                        obtain ⟨n', L', h1⟩ := HK10.out.m1
                        exact bodyPost_ret (results_rmake rfl _ _ w.heap.size 0 (fun _ _ => false) (.int .i64 16) rfl rfl (h1.setCells 0 _)) rfl
                          (rm_end (below_setCells HK10.out.b (Nat.le_refl _) _ _) H16.out (rmk_bad H16.out (by decide)).1 (rmk_bad H16.out (by decide)).2)
                      · have hm2 : 0 ≤ mt x L a b := by omega
                        have HX := Lib.hid (hbx.trans (show (decide (jn x L a b < 0) || decide (mt x L a b < 0)) = false by simp; omega))
                        clear hbx
                        go_wp2_with (first | (refine wl_rload _ rfl (by go_simp) (w.heap.size + 1) x L rfl HK8.out.m ?_) | (go_at_call 38; refine CJ.out.mono ?_; rintro e w1 ⟨rfl, hb1⟩; have HK9 := Lib.hid (HK8.out.below hb1); have CM := Lib.hid (rmeet_any x L a b w1 h8 (by omega) (by omega)); clear hb1 CJ) | (refine wl_rload _ rfl (by go_simp) (w.heap.size + 1) x L rfl HK9.out.m ?_) | (go_at_call 46; refine CM.out.mono ?_; rintro e w2 ⟨rfl, hb2⟩; have HK10 := Lib.hid (HK9.out.below hb2); clear hb2 CM))
                        go_roundg g2
                        case measure => omega
                        case rel =>
                          refine ⟨b + 1, by omega, by go_num, fun c hc => ?_, HK10.out⟩
                          by_cases e : c = b
                          · subst e; exact HX.out
                          · exact HB2.out c (by omega)
                  · have e1 : ((a : Int) != (b : Int)) = true := by simp; omega
                    have e2 : (a != b) = true := by simpa using hab
                    rw [e2, Bool.true_and] at HTW
                    clear hab e2
                    cases p with
                    | false =>
                      rw [Bool.false_and, Bool.false_or] at HTW
                      have hbx : badAt x L a b = (decide (jn x L a b < 0) || decide (mt x L a b < 0)) := HTW.out
                      by_cases hj : jn x L a b < 0
                      · have HX : Hid (badAt x L a b = true) := Lib.hid (hbx.trans (by simp [hj]))
                        clear hbx
                        have H16 := Lib.hid (HBAD16.out HX.out)
                        have hz := rzero
                        clear HX
                        go_wp2_with (first | (refine wl_rload _ rfl (by go_simp) (w.heap.size + 1) x L rfl HK8.out.m ?_) | (go_at_call 38; refine CJ.out.mono ?_; rintro e w1 ⟨rfl, hb1⟩; have HK9 := Lib.hid (HK8.out.below hb1); have CM := Lib.hid (rmeet_any x L a b w1 h8 (by omega) (by omega)); clear hb1 CJ) | (refine wl_rstore _ _ rfl (by simp [Region.wanted]) w.heap.size 0 (fun _ _ => false) rfl rfl HK9.out.m1 ?_))
                        obtain ⟨n', L', h1⟩ := HK9.out.m1
                        exact bodyPost_ret (results_rmake rfl _ _ w.heap.size 0 (fun _ _ => false) (.int .i64 16) rfl rfl (h1.setCells 0 _)) rfl
                          (rm_end (below_setCells HK9.out.b (Nat.le_refl _) _ _) H16.out (rmk_bad H16.out (by decide)).1 (rmk_bad H16.out (by decide)).2)
                      · have hj2 : 0 ≤ jn x L a b := by omega
                        by_cases hm : mt x L a b < 0
                        · have HX : Hid (badAt x L a b = true) := Lib.hid (hbx.trans (by simp [hm]))
                          clear hbx
                          have H16 := Lib.hid (HBAD16.out HX.out)
                          have hz := rzero
                          clear HX
                          go_wp2_with (first | (refine wl_rload _ rfl (by go_simp) (w.heap.size + 1) x L rfl HK8.out.m ?_) | (go_at_call 38; refine CJ.out.mono ?_; rintro e w1 ⟨rfl, hb1⟩; have HK9 := Lib.hid (HK8.out.below hb1); have CM := Lib.hid (rmeet_any x L a b w1 h8 (by omega) (by omega)); clear hb1 CJ) | (refine wl_rload _ rfl (by go_simp) (w.heap.size + 1) x L rfl HK9.out.m ?_) | (go_at_call 46; refine CM.out.mono ?_; rintro e w2 ⟨rfl, hb2⟩; have HK10 := Lib.hid (HK9.out.below hb2); clear hb2 CM) | (refine wl_rstore _ _ rfl (by simp [Region.wanted]) w.heap.size 0 (fun _ _ => false) rfl rfl HK10.out.m1 ?_))
                          obtain ⟨n', L', h1⟩ := HK10.out.m1
                          exact bodyPost_ret (results_rmake rfl _ _ w.heap.size 0 (fun _ _ => false) (.int .i64 16) rfl rfl (h1.setCells 0 _)) rfl
                            (rm_end (below_setCells HK10.out.b (Nat.le_refl _) _ _) H16.out (rmk_bad H16.out (by decide)).1 (rmk_bad H16.out (by decide)).2)
                        · have hm2 : 0 ≤ mt x L a b := by omega
                          have HX := Lib.hid (hbx.trans (show (decide (jn x L a b < 0) || decide (mt x L a b < 0)) = false by simp; omega))
                          clear hbx
                          go_wp2_with (first | (refine wl_rload _ rfl (by go_simp) (w.heap.size + 1) x L rfl HK8.out.m ?_) | (go_at_call 38; refine CJ.out.mono ?_; rintro e w1 ⟨rfl, hb1⟩; have HK9 := Lib.hid (HK8.out.below hb1); have CM := Lib.hid (rmeet_any x L a b w1 h8 (by omega) (by omega)); clear hb1 CJ) | (refine wl_rload _ rfl (by go_simp) (w.heap.size + 1) x L rfl HK9.out.m ?_) | (go_at_call 46; refine CM.out.mono ?_; rintro e w2 ⟨rfl, hb2⟩; have HK10 := Lib.hid (HK9.out.below hb2); clear hb2 CM))
                          go_roundg g2
                          case measure => omega
                          case rel =>
                            refine ⟨b + 1, by omega, by go_num, fun c hc => ?_, HK10.out⟩
                            by_cases e : c = b
                            · subst e; exact HX.out
                            · exact HB2.out c (by omega)
                    | true =>
                      rw [Bool.true_and] at HTW
                      cases q with
                      | false =>
                        rw [Bool.false_or] at HTW
                        have hbx : badAt x L a b = (decide (jn x L a b < 0) || decide (mt x L a b < 0)) := HTW.out
                        by_cases hj : jn x L a b < 0
                        · have HX : Hid (badAt x L a b = true) := Lib.hid (hbx.trans (by simp [hj]))
                          clear hbx
                          have H16 := Lib.hid (HBAD16.out HX.out)
                          have hz := rzero
                          clear HX
                          go_wp2_with (first | (refine wl_rload _ rfl (by go_simp) (w.heap.size + 1) x L rfl HK8.out.m ?_) | (go_at_call 38; refine CJ.out.mono ?_; rintro e w1 ⟨rfl, hb1⟩; have HK9 := Lib.hid (HK8.out.below hb1); have CM := Lib.hid (rmeet_any x L a b w1 h8 (by omega) (by omega)); clear hb1 CJ) | (refine wl_rstore _ _ rfl (by simp [Region.wanted]) w.heap.size 0 (fun _ _ => false) rfl rfl HK9.out.m1 ?_))
                          obtain ⟨n', L', h1⟩ := HK9.out.m1
                          exact bodyPost_ret (results_rmake rfl _ _ w.heap.size 0 (fun _ _ => false) (.int .i64 16) rfl rfl (h1.setCells 0 _)) rfl
                            (rm_end (below_setCells HK9.out.b (Nat.le_refl _) _ _) H16.out (rmk_bad H16.out (by decide)).1 (rmk_bad H16.out (by decide)).2)
                        · have hj2 : 0 ≤ jn x L a b := by omega
                          by_cases hm : mt x L a b < 0
                          · have HX : Hid (badAt x L a b = true) := Lib.hid (hbx.trans (by simp [hm]))
                            clear hbx
                            have H16 := Lib.hid (HBAD16.out HX.out)
                            have hz := rzero
                            clear HX
                            go_wp2_with (first | (refine wl_rload _ rfl (by go_simp) (w.heap.size + 1) x L rfl HK8.out.m ?_) | (go_at_call 38; refine CJ.out.mono ?_; rintro e w1 ⟨rfl, hb1⟩; have HK9 := Lib.hid (HK8.out.below hb1); have CM := Lib.hid (rmeet_any x L a b w1 h8 (by omega) (by omega)); clear hb1 CJ) | (refine wl_rload _ rfl (by go_simp) (w.heap.size + 1) x L rfl HK9.out.m ?_) | (go_at_call 46; refine CM.out.mono ?_; rintro e w2 ⟨rfl, hb2⟩; have HK10 := Lib.hid (HK9.out.below hb2); clear hb2 CM) | (refine wl_rstore _ _ rfl (by simp [Region.wanted]) w.heap.size 0 (fun _ _ => false) rfl rfl HK10.out.m1 ?_))
                            obtain ⟨n', L', h1⟩ := HK10.out.m1
                            exact bodyPost_ret (results_rmake rfl _ _ w.heap.size 0 (fun _ _ => false) (.int .i64 16) rfl rfl (h1.setCells 0 _)) rfl
                              (rm_end (below_setCells HK10.out.b (Nat.le_refl _) _ _) H16.out (rmk_bad H16.out (by decide)).1 (rmk_bad H16.out (by decide)).2)
                          · have hm2 : 0 ≤ mt x L a b := by omega
                            have HX := Lib.hid (hbx.trans (show (decide (jn x L a b < 0) || decide (mt x L a b < 0)) = false by simp; omega))
                            clear hbx
                            go_wp2_with (first | (refine wl_rload _ rfl (by go_simp) (w.heap.size + 1) x L rfl HK8.out.m ?_) | (go_at_call 38; refine CJ.out.mono ?_; rintro e w1 ⟨rfl, hb1⟩; have HK9 := Lib.hid (HK8.out.below hb1); have CM := Lib.hid (rmeet_any x L a b w1 h8 (by omega) (by omega)); clear hb1 CJ) | (refine wl_rload _ rfl (by go_simp) (w.heap.size + 1) x L rfl HK9.out.m ?_) | (go_at_call 46; refine CM.out.mono ?_; rintro e w2 ⟨rfl, hb2⟩; have HK10 := Lib.hid (HK9.out.below hb2); clear hb2 CM))
                            go_roundg g2
                            case measure => omega
                            case rel =>
                              refine ⟨b + 1, by omega, by go_num, fun c hc => ?_, HK10.out⟩
                              by_cases e : c = b
                              · subst e; exact HX.out
                              · exact HB2.out c (by omega)
                      | true =>
                        have HX : Hid (badAt x L a b = true) := Lib.hid (HTW.out.trans (by simp))
                        have H16 := Lib.hid (HBAD16.out HX.out)
                        have hz := rzero
                        clear HX
                        go_wp2_with (first | (refine wl_rstore _ _ rfl (by simp [Region.wanted]) w.heap.size 0 (fun _ _ => false) rfl rfl HK8.out.m1 ?_))
                        obtain ⟨n', L', h1⟩ := HK8.out.m1
                        exact bodyPost_ret (results_rmake rfl _ _ w.heap.size 0 (fun _ _ => false) (.int .i64 16) rfl rfl (h1.setCells 0 _)) rfl
                          (rm_end (below_setCells HK8.out.b (Nat.le_refl _) _ _) H16.out (rmk_bad H16.out (by decide)).1 (rmk_bad H16.out (by decide)).2)
end Go.Proofs.YtppmkehdhpgdcaaGreat
