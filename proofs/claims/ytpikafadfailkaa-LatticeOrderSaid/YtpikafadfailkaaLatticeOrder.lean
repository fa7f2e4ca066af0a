/- THE STATEMENT LatticeOrder is proved: for every number and every list of pairs the Go function LatticeOrder returns true, and its arguments read afterwards as before; without conditions. -/
import Derived.Test.YtpikafadfailkaaBoth1b
namespace Go.Proofs.Ytpikafadfailkaa
open Go.ChangeShapes Go.WideShapes Go.ChangeAt Go.RowKit P
set_option linter.unusedVariables false

theorem lqI_nat {n : Nat} {L : Rel} {x y : Nat} (hx : x < n) (hy : y < n) : lqI n L x y = L x y := by
  unfold lqI; rw [isL_nat hx, isL_nat hy]; simp
theorem ordOf_pair {n : Int} {ps : List (Int × Int)} (h : makeE n ps = 0) : ∀ p, p ∈ ps → lqI n.toNat (ordOf n.toNat ps) p.1 p.2 = true := by
  intro p hp
  rcases makeE_cases n ps with ⟨_, e⟩ | ⟨k, rfl, _, _, _, (⟨_, e⟩ | ⟨_, _, e⟩ | ⟨hok, _, _⟩)⟩
  · rw [e] at h; cases h
  · rw [e] at h; cases h
  · rw [e] at h; cases h
  · unfold okPairs at hok
    rw [List.all_eq_true] at hok
    have := hok p hp
    obtain ⟨a, b, ha, hb, hak, hbk⟩ : ∃ a b : Nat, p.1 = a ∧ p.2 = b ∧ a < k ∧ b < k := by
      unfold isLb at this; simp at this
      exact ⟨p.1.toNat, p.2.toNat, by omega, by omega, by omega, by omega⟩
    rw [ha, hb, Int.toNat_natCast, lqI_nat hak hbk]
    refine clo_sub _ _ _ _ ?_
    unfold rel0
    have : (ps.any fun q => q.1 == (a : Int) && q.2 == (b : Int)) = true := by
      rw [List.any_eq_true]; exact ⟨p, hp, by simp [ha, hb]⟩
    rw [this]; simp [hak, hbk]

set_option maxHeartbeats 2000000 in
set_option maxRecDepth 100000 in
theorem latticeOrder_walk (w : World) (n : Int) (_wn : (Lit.int .i64 n).wf = true) (A : Option Addr) (l c : Nat) (ps : List (Int × Int)) (hl : ps.length = l) (hp : Pairs w w.heap.size A ps) :
    Calls Try.prog 4 #[.int .i64 n, .slice A l c] w fun e w' => e = .returned (.bool true) ∧ Below w.heap.size w w' := by
  have CB := Lib.hid (both1_all n A l c ps w hl hp)
  have hz := rzero
  have HP := Lib.hid hp
  have HLN := Lib.hid hl
  have hl2 := hp.1
  rw [hl] at hl2
  clear hl hp
  go_enter Try.func4, Try.ntmps4
  go_wp2_with fail
  refine CB.out.mono ?_
  rintro e w1 ⟨hb, (⟨N, L, rfl⟩ | ⟨_, h0, k, b, rfl, rfl, hlat⟩)⟩
  · have HB1 := Lib.hid hb
    have HM := Lib.hid (Rm.new w1 0 (fun _ _ => false) 27)
    have HB2 := Lib.hid (below_setCells (hb.alloc hb.size (.cells (rv 0 fun _ _ => false) 27)) (b := w1.heap.size) hb.size (rl N L) 0)
    clear hb CB
    go_wp2_with (first | ((with_reducible show wpList _ _ _ _ _ _); refine wl_rstore _ _ rfl ?hw w1.heap.size N L rfl rfl ?hm ?_; (case hw => simp [Region.wanted]); (case hm => exact ⟨_, _, HM.out⟩)) | (go_at_call 16; fail))
    generalize World.setCells _ _ _ _ = W at *
    refine (awake1 _).mono ?_
    rintro e w2 ⟨rfl, hb⟩
    have HB3 := Lib.hid (HB2.out.trans (hb.mono HB2.out.size))
    clear hb
    go_wp2_with fail
    refine (awake1 _).mono ?_
    rintro e w3 ⟨rfl, hb⟩
    have HB4 := Lib.hid (HB3.out.trans (hb.mono HB3.out.size))
    clear hb
    go_wp2
    go_ret
    exact ⟨rfl, HB4.out⟩
  · have HL1 := Lib.hid hlat
    have HB1 := Lib.hid hb
    have hz1 : w.heap.size ≤ w1.heap.size := hb.size
    have HM := Lib.hid (Rm.new w1 0 (fun _ _ => false) 27)
    have HM2 := Lib.hid (HM.out.setCells k (ordOf k ps))
    have HB2 := Lib.hid (below_setCells (hb.alloc hb.size (.cells (rv 0 fun _ _ => false) 27)) (b := w1.heap.size) hb.size (rl k (ordOf k ps)) 0)
    have HL2 := Lib.hid ((hlat.alloc (.cells (rv 0 fun _ _ => false) 27)).below (below_setCells (Below.refl w1.heap.size _) (Nat.le_refl _) (rl k (ordOf k ps)) 0) hlat.lt)
    have hs2 : w1.heap.size < ((w1.alloc (.cells (rv 0 fun _ _ => false) 27)).setCells w1.heap.size 0 (rl k (ordOf k ps))).heap.size := by rw [size_setCells]; simp
    have h8 := hlat.le8
    have HPR := ordOf_pair h0
    rw [Int.toNat_natCast] at HPR
    have HPR := Lib.hid HPR
    have HLA := Lib.hid hlat.lat
    clear h0
    have HD := Lib.hid hlat.lat.dom
    clear hb hlat CB
    go_wp2_with (first | ((with_reducible show wpList _ _ _ _ _ _); refine wl_rstore _ _ rfl ?hw w1.heap.size k (ordOf k ps) rfl rfl ?hm ?_; (case hw => simp [Region.wanted]); (case hm => exact ⟨_, _, HM.out⟩)) | (go_at_call 16; fail))
    clear HM
    generalize World.setCells _ _ _ _ = W at *
    generalize ordOf k ps = L at *
    refine (awake1 _).mono ?_
    rintro e w2 ⟨rfl, hb⟩
    have HB3 := Lib.hid (HB2.out.trans (hb.mono HB2.out.size))
    have HL3 := Lib.hid (HL2.out.here hb)
    have HM3 := Lib.hid (HM2.out.below hb hs2)
    have hs3 : w1.heap.size < w2.heap.size := by have := hb.size; omega
    clear hb HM2 HL2 hs2
    clear HM3 hs3 HL1 HB1 HB2
    go_wp2
    go_loopg [28] k (fun g i wr => ∃ x : Nat, x + g = k ∧ i = .int .i64 x ∧ LatR wr b k L ∧ Below w.heap.size w wr)
    case atStart => exact ⟨0, by omega, rfl, HL3.out, HB3.out⟩
    case round =>
      obtain ⟨x, hx, rfl, hlat, hb⟩ := hrel
      have HL := Lib.hid hlat
      have HB := Lib.hid hb
      clear hlat hb
      cases gk with
      | zero =>
        have hge : ¬ ((x : Int) < (k : Int)) := by omega
        go_wp2
        go_loopg [97] l (fun g i wr => ∃ j : Nat, j + g = l ∧ i = .int .i64 j ∧ LatR wr b k L ∧ Below w.heap.size w wr)
        case atStart => exact ⟨0, by omega, rfl, HL.out, HB.out⟩
        case round =>
          obtain ⟨j, hj, rfl, hlat, hb⟩ := hrel
          have HL := Lib.hid hlat
          have HB := Lib.hid hb
          have hsz := hb.size
          cases gk with
          | zero =>
            have hge2 : ¬ ((j : Int) < (l : Int)) := by omega
            clear hlat hb
            go_wp2
            go_ret
            exact ⟨rfl, HB.out⟩
          | succ g =>
            have hlt : (j : Int) < (l : Int) := by omega
            obtain ⟨p, hp⟩ : ∃ p, ps[j]? = some p := ⟨_, List.getElem?_eq_getElem (by rw [HLN.out]; omega)⟩
            obtain ⟨bb, o, rfl, hbl, hcell⟩ := HP.out.2 (by rw [HLN.out]; omega)
            obtain ⟨c0, c1, wf0, wf1⟩ := hcell j p hp
            have d0 := (hb.cell (p := ⟨bb, o + j * 2, none⟩) hbl).trans c0
            have d1 := (hb.cell (p := ⟨bb, o + j * 2 + 1, none⟩) hbl).trans c1
            have hq := HPR.out p (List.mem_of_getElem? hp)
            clear c0 c1 hcell hlat hb
            obtain ⟨p0, p1⟩ := p
            simp only at d0 d1 wf0 wf1 hq
            clear hp
            have HL2 := Lib.hid (HL.out.alloc (.cells #[.int .i64 p0, .int .i64 p1] 39))
            have HB2 := Lib.hid (HB.out.alloc hsz (.cells #[.int .i64 p0, .int .i64 p1] 39))
            go_wp2_with (go_at_call 22; refine (leq_r HL2.out _ _).mono ?_; rintro e w' ⟨rfl, rfl⟩)
            go_roundg g
            case measure => omega
            case rel => exact ⟨j + 1, by omega, by go_num, HL2.out, HB2.out⟩
      | succ g =>
        have hlt : (x : Int) < (k : Int) := by omega
        have hxk : x < k := by omega
        have q1 : lqI k L x x = true := by rw [lqI_nat hxk hxk]; exact HLA.out.refl x hxk
        have q2 : lqI k L (bot k L) x = true := by rw [lqI_nat HLA.out.bot_lt hxk]; exact HLA.out.bot_le x hxk
        have q3 : lqI k L x (top k L) = true := by rw [lqI_nat hxk HLA.out.top_lt]; exact HLA.out.le_top x hxk
        go_wp2_with (first | (go_at_call 22; refine (leq_r (by first | exact HL.out | exact HL.out.drewN _) _ _).mono ?_; rintro e w' ⟨rfl, rfl⟩) | (go_at_call 23; refine (bottom_r HL.out).mono ?_; rintro e w' ⟨rfl, m, rfl⟩) | (go_at_call 24; refine (top_r (HL.out.drewN _)).mono ?_; rintro e w' ⟨rfl, m2, rfl⟩))
        clear q1 q2 q3
        have HL2 := Lib.hid (HL.out.drewN (m + m2))
        have HB2 := Lib.hid (below_drewN HB.out (m + m2))
        generalize wr.drewN (m + m2) = wr at *
        go_loopg [53] k (fun g i wr => ∃ y : Nat, y + g = k ∧ i = .int .i64 y ∧ LatR wr b k L ∧ Below w.heap.size w wr)
        case atStart => exact ⟨0, by omega, rfl, HL2.out, HB2.out⟩
        case round =>
          obtain ⟨y, hy, rfl, hlat, hb⟩ := hrel
          have HL := Lib.hid hlat
          have HB := Lib.hid hb
          clear hlat hb
          cases gk with
          | zero =>
            have hge : ¬ ((y : Int) < (k : Int)) := by omega
            go_wp2
            go_roundg g
            case measure => omega
            case rel => exact ⟨x + 1, by omega, by go_num, HL.out, HB.out⟩
          | succ g2 =>
            have hlt2 : (y : Int) < (k : Int) := by omega
            have hyk : y < k := by omega
            have qxy := lqI_nat (L := L) hxk hyk
            have qyx := lqI_nat (L := L) hyk hxk
            have hcase : (((x : Int) != (y : Int)) = false) ∨ (((x : Int) != (y : Int)) = true ∧ L x y = false) ∨ (((x : Int) != (y : Int)) = true ∧ L x y = true ∧ L y x = false) := by
              by_cases e : x = y
              · exact .inl (by simp [e])
              · have e' : ((x : Int) != (y : Int)) = true := by simp; omega
                cases h1 : L x y with
                | false => exact .inr (.inl ⟨e', rfl⟩)
                | true =>
                  cases h2 : L y x with
                  | false => exact .inr (.inr ⟨e', rfl, rfl⟩)
                  | true => exact absurd (HLA.out.anti x y h1 h2) e
            rcases hcase with e1 | ⟨e1, e2⟩ | ⟨e1, e2, e3⟩
            all_goals
              go_wp2_with (go_at_call 22; refine (leq_r HL.out _ _).mono ?_; rintro e w' ⟨rfl, rfl⟩)
              try clear e3
              try clear e2
              clear e1 qyx
              go_loopg [72] k (fun g i wz => ∃ z : Nat, z + g = k ∧ i = .int .i64 z ∧ wz = wr)
              case atStart => exact ⟨0, by omega, rfl, rfl⟩
              case round =>
                obtain ⟨z, hz2, rfl, rfl⟩ := hrel
                cases gk with
                | zero =>
                  have hge : ¬ ((z : Int) < (k : Int)) := by omega
                  go_wp2
                  go_roundg g2
                  case measure => omega
                  case rel => exact ⟨y + 1, by omega, by go_num, HL.out, HB.out⟩
                | succ g3 =>
                  have hlt3 : (z : Int) < (k : Int) := by omega
                  have hzk : z < k := by omega
                  have qyz := lqI_nat (L := L) hyk hzk
                  have qxz := lqI_nat (L := L) hxk hzk
                  have hc2 : L x y = false ∨ (L x y = true ∧ L y z = false) ∨ (L x y = true ∧ L y z = true ∧ L x z = true) := by
                    cases h1 : L x y with
                    | false => exact .inl rfl
                    | true =>
                      cases h2 : L y z with
                      | false => exact .inr (.inl ⟨rfl, rfl⟩)
                      | true => exact .inr (.inr ⟨rfl, rfl, HLA.out.trans x y z h1 h2⟩)
                  rcases hc2 with e1 | ⟨e1, e2⟩ | ⟨e1, e2, e3⟩
                  all_goals
                    go_wp2_with (go_at_call 22; refine (leq_r HL.out _ _).mono ?_; rintro e w' ⟨rfl, rfl⟩)
                    go_roundg g3
                    case measure => omega
                    case rel => exact ⟨z + 1, by omega, by go_num, rfl⟩

set_option maxRecDepth 100000 in
/-- the row's step, argument by argument -/
theorem latticeOrder_lifted (os : Os) (started : os.Started) (H : Type) (enc : TypeId × Value → H) :
    ReturnsInHanded {} Try.checked os 4 .any (Rows.latticeOrderSpec.pre6 enc Try.prog Try.f4 Rows.latticeOrderRow.domain false) (Rows.latticeOrderSpec.post enc Try.prog Try.f4 false true false false) := by
  refine returnsInHanded_of_change (C := Try.checked) own started (by kernel_rfl) Try.func4
    (ChangeSpec.witness6 (enc := enc) (C := Try.checked) false ⟨#[], #[.int .i64 0, .slice none 0 0], []⟩ 8 (by kernel_rfl) (by kernel_rfl) (by kernel_rfl) (by kernel_rfl)) ?_
  intro W base args ds gs before hval0 hW hcnd _
  have hval : ∀ (j : Nat) t v, Try.f4.params[j]? = some t → args[j]? = some v → Value.okWide Try.prog W .any base t v := hval0
  have hW' := hW
  obtain ⟨p, q, hA0, hV, rfl, hfz, hnd⟩ := hW
  have hA : DataW.TrodAll enc Try.prog W 0 (fun _ => true) true Try.f4.params.toList args.toList ds p := hA0
  rw [Try.params4] at hA hval
  obtain ⟨v0, vs0, d0, ds0, p0, q0, hargs, rfl, rfl, h0, r0⟩ := trodAll_cons hA
  obtain ⟨v1, vs1, d1, ds1, p1, q1, rfl, rfl, rfl, h1, r1⟩ := trodAll_cons r0
  obtain ⟨rfl, rfl, rfl⟩ := trodAll_nil r1
  obtain rfl : args = #[v0, v1] := by cases args; simp_all
  obtain ⟨rfl, rfl⟩ := trodVars_none hV
  obtain ⟨a0, rfl, rfl, rfl, w0⟩ := open_int Try.underlying3 (hval 0 3 v0 rfl rfl) h0
  obtain ⟨a1, len1, cap1, rfl⟩ := okWide_slice Try.underlying22 (hval 1 22 v1 rfl rfl)
  have k1 := h1
  have lt1 := lt_of_trod k1
  obtain ⟨z1, l1, w1⟩ := open_pairs h1
  clear hA0 hval0
  refine (latticeOrder_walk W a0 w0 a1 len1 cap1 z1 l1 w1).mono fun e W' ⟨he, bel⟩ => ?_
  subst he
  exact ⟨_, rfl, _, _, _, [], _, [], hW', trodAll_mk1 (shut_bool Try.underlying4 _), (trodAll_cons_mk (shut_int Try.underlying3 w0) (trodAll_cons_mk (Below.trod laidOut (by kernel_rfl) (of_decide_eq_true (by kernel_rfl)) k1 bel lt1) trodAll_mk0)), rfl, bel.frame _, fun h => by cases h⟩

theorem latticeOrder_proved : Rows.LatticeOrderSaid :=
  OpenClaim.holds_of_wide 4 Try.f4 rfl rfl rfl rfl rfl rfl rfl ⟨rfl, rfl, rfl, rfl, rfl⟩ rfl rfl rfl rfl rfl (by kernel_rfl) Try.func4 (by kernel_rfl)
    (of_decide_eq_true (by kernel_rfl)) (by unfold Func.isWrapper; first | (rw [if_pos (by decide +kernel)]; kernel_rfl) | (rw [if_neg (by decide +kernel)]; exact ⟨rfl, rfl⟩))
    (fun os started H enc _ => latticeOrder_lifted os started H enc)
#print axioms latticeOrder_proved

end Go.Proofs.Ytpikafadfailkaa
