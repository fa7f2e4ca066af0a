/- THE STATEMENT LatticeDual is proved: for every number, every list of pairs and every two labels the Go function LatticeDual returns true, and its arguments read afterwards as before; without conditions. -/
import Derived.Test.YtpikafadfailkaaBoth1b
namespace Go.Proofs.Ytpikafadfailkaa
open Go.ChangeShapes Go.WideShapes Go.ChangeAt Go.RowKit P
set_option linter.unusedVariables false

theorem jnI_opp (n : Nat) (L : Rel) (a b : Int) : mtI n (opp L) a b = jnI n L a b := rfl
theorem lqI_opp (n : Nat) (L : Rel) (a b : Int) : lqI n (opp L) b a = lqI n L a b := by
  unfold lqI opp; rw [Bool.and_comm (isL n b)]
theorem top_opp (n : Nat) (L : Rel) : top n (opp L) = bot n L := rfl
theorem turn_len (ps : List (Int × Int)) : (turn ps).length = ps.length := by simp [turn]
theorem turn_ok {ps : List (Int × Int)} (h : okPs ps) : okPs (turn ps) := by
  intro p hp
  unfold turn at hp
  rw [List.mem_map] at hp
  obtain ⟨q, hq, rfl⟩ := hp
  exact ⟨(h q hq).2, (h q hq).1⟩
theorem turn_snoc (ps : List (Int × Int)) (p : Int × Int) : turn (ps ++ [p]) = turn ps ++ [(p.2, p.1)] := by simp [turn]
theorem own_pairs_snoc {w1 : World} {base n : Nat} {v' : Value} {ps : List (Int × Int)} {x y : Int} {rest : List (Int × Int)}
    (h : w1.ownsRow base 39 2 v' n (pcells ps ++ [.int .i64 x, .int .i64 y])) (hr : rest = ps ++ [(x, y)]) : w1.ownsRow base 39 2 v' n (pcells rest) := by
  subst hr; rw [pcells_snoc]; exact h
theorem two_new (w : World) (u v : Value) (T : TypeId) (j : Nat) (x : Value) (h : [u, v][j]? = some x) : (w.alloc (.cells #[u, v] T)).cell? ((⟨w.heap.size, 0, none⟩ : Addr).add j) = some x := by
  rw [Addr.add_mid, cell_new, Nat.zero_add]
  rw [← h]; simp

set_option maxHeartbeats 2000000 in
set_option maxRecDepth 100000 in
theorem latticeDual_walk (w : World) (n : Int) (_wn : (Lit.int .i64 n).wf = true) (A : Option Addr) (l c : Nat) (ps : List (Int × Int)) (hl : ps.length = l) (hp : Pairs w w.heap.size A ps)
    (a : Int) (_wa : (Lit.int .i64 a).wf = true) (b : Int) (_wb : (Lit.int .i64 b).wf = true) :
    Calls Try.prog 5 #[.int .i64 n, .slice A l c, .int .i64 a, .int .i64 b] w fun e w' => e = .returned (.bool true) ∧ Below w.heap.size w w' := by
  have HP := Lib.hid hp
  have HL := Lib.hid hl
  have hl2 := hp.1
  rw [hl] at hl2
  clear hl hp
  by_cases h2 : 200 < l
  · have t1 : decide ((200 : Int) < l) = true := by simp; omega
    go_enter Try.func5, Try.ntmps5
    go_wp2_with fail
    refine (awake1 _).mono ?_
    rintro e w2 ⟨rfl, hb⟩
    have HB2 := Lib.hid hb
    clear hb
    go_wp2_with fail
    refine (awake1 _).mono ?_
    rintro e w3 ⟨rfl, hb⟩
    have HB3 := Lib.hid (HB2.out.trans (hb.mono HB2.out.size))
    clear hb
    go_wp2
    go_ret
    exact ⟨rfl, HB3.out⟩
  · have t1 : decide ((200 : Int) < l) = false := by simp; omega
    obtain ⟨i0, hi, hz0, hz1, hz2⟩ := info_parts info_pair
    have HI := Lib.hid hi
    have HZ0 := Lib.hid hz0
    have HZ1 := Lib.hid hz1
    have HZ2 := Lib.hid hz2
    clear hi hz0 hz1 hz2
    go_enter Try.func5, Try.ntmps5
    go_wp2_with fail
    refine (awake1 _).mono ?_
    rintro e w2 ⟨rfl, hb⟩
    have HB2 := Lib.hid hb
    clear hb
    go_wp2
    go_loopg [9, 30] l (fun g v i wr => ∃ j : Nat, j + g = l ∧ i = .int .i64 j ∧ wr.ownsRow w.heap.size 39 2 v j (pcells (turn (ps.take j))) ∧ Below w.heap.size w wr)
    case atStart => exact ⟨0, by omega, rfl, World.ownsRow_nil _ _ _ _, HB2.out⟩
    case round =>
      obtain ⟨j, hj, rfl, hown, hb⟩ := hrel
      have HO := Lib.hid hown
      have HB := Lib.hid hb
      have hsz := hb.size
      clear hown
      cases gk with
      | succ g =>
        have hlt : (j : Int) < (l : Int) := by omega
        obtain ⟨p, hpj⟩ : ∃ p, ps[j]? = some p := ⟨_, List.getElem?_eq_getElem (by rw [HL.out]; omega)⟩
        obtain ⟨bb, o, rfl, hbl, hcell⟩ := HP.out.2 (by rw [HL.out]; omega)
        obtain ⟨c0, c1, wf0, wf1⟩ := hcell j p hpj
        have d0 := (hb.cell (p := ⟨bb, o + j * 2, none⟩) hbl).trans c0
        have d1 := (hb.cell (p := ⟨bb, o + j * 2 + 1, none⟩) hbl).trans c1
        have HT := Lib.hid (turn_snoc (ps.take j) p)
        rw [← take_snoc hpj] at HT
        clear c0 c1 hcell hb hpj
        obtain ⟨p0, p1⟩ := p
        simp only at d0 d1 wf0 wf1
        have HO2 := Lib.hid (World.ownsRow.alloc (World.ownsRow.alloc HO.out (.cells #[.int .i64 p0, .int .i64 p1] 39)) (.cells #[.int .i64 p1, .int .i64 p0] 39))
        have HB2 := Lib.hid ((HB.out.alloc hsz (.cells #[.int .i64 p0, .int .i64 p1] 39)).alloc (by simp; omega) (.cells #[.int .i64 p1, .int .i64 p0] 39))
        go_wp2_with (at_builtin; refine wl_append rfl _ _ 22 rfl w.heap.size 39 i0 (.agg #[.int .i64 0, .int .i64 0]) 2 16 Try.underlying22 HI.out HZ0.out HZ1.out HZ2.out rfl (by decide) _ j _ rfl HO2.out _ 1 _ [.int .i64 p1, .int .i64 p0] rfl rfl ?c2 ?c1 ?c3 ?c4 ?c5 ?_)
        case c1 => exact ⟨rfl, rfl⟩
        case c3 => unfold maxLen; omega
        case c4 => omega
        case c5 => omega
        intro v' w1 hown' hgrow
        have h7 := own_pairs_snoc hown' HT.out
        have h8 : Below w.heap.size w w1 := HB2.out.grown hgrow (by simp; omega) (fun k hk => (HO2.out.lt k hk).1)
        have H7 := Lib.hid h7
        have H8 := Lib.hid h8
        clear h7 h8 hown' hgrow HO2 HB2
        go_wp2
        go_roundg g
        case measure => omega
        case rel => exact ⟨j + 1, by omega, by go_num, H7.out, H8.out⟩
      | zero =>
        have hge : ¬ ((j : Int) < (l : Int)) := by omega
        obtain rfl : j = l := by omega
        have ho2 := HO.out
        rw [List.take_of_length_le (by rw [HL.out]; omega)] at ho2
        obtain ⟨A', c', rfl, hps2⟩ := Pairs.of_own (ps := turn ps) (by rw [turn_len, HL.out]) ho2 (turn_ok HP.out.ok) (by rw [turn_len, HL.out]; omega)
        have hps1 := (HP.out.below HB.out).more hsz
        clear ho2 HO hb
        by_cases h0 : makeE n ps = 0
        · obtain ⟨k, rfl⟩ : ∃ k : Nat, n = k := by
            rcases makeE_cases n ps with ⟨_, h⟩ | ⟨k, rfl, _⟩
            · rw [h] at h0; cases h0
            · exact ⟨k, rfl⟩
          have h0' : makeE k (turn ps) = 0 := (makeE_turn _ _).trans h0
          have C1 := Lib.hid (make_ok k A j c ps wr HL.out hps1 h0)
          have HPS2 := Lib.hid hps2
          have H0' := Lib.hid h0'
          clear hps1 hps2 h0 h0'
          go_wp2_with fail
          refine C1.out.mono ?_
          rintro e w3 ⟨rfl, hlat, hb3⟩
          have HLA := Lib.hid hlat
          have HB3 := Lib.hid (HB.out.trans (hb3.mono hsz))
          have C2 := Lib.hid (make_ok k A' j c' (turn ps) w3 (by rw [turn_len, HL.out]) ((HPS2.out.below hb3).more hb3.size) H0'.out)
          have hz3 : w.heap.size ≤ w3.heap.size := Nat.le_trans hsz hb3.size
          clear hlat hb3
          go_wp2_with fail
          refine C2.out.mono ?_
          rintro e w4 ⟨rfl, hlat2, hb4⟩
          rw [ordOf_turn] at hlat2
          have HL4 := Lib.hid (HLA.out.here hb4)
          have HL5 := Lib.hid hlat2
          have HB4 := Lib.hid (HB3.out.trans (hb4.mono hz3))
          clear hlat2 hb4
          have q1 := fun x y => jnI_opp k (ordOf k ps) x y
          have q2 := lqI_opp k (ordOf k ps) a b
          have q3 := top_opp k (ordOf k ps)
          go_wp2_with fail
          refine (join_r HL4.out a b).mono ?_
          rintro e w' ⟨rfl, rfl⟩
          go_wp2_with fail
          refine (meet_r HL5.out a b).mono ?_
          rintro e w' ⟨rfl, rfl⟩
          go_wp2_with fail
          refine (bottom_r HL4.out).mono ?_
          rintro e w' ⟨rfl, m, rfl⟩
          go_wp2_with fail
          refine (top_r (HL5.out.drewN m)).mono ?_
          rintro e w' ⟨rfl, m2, rfl⟩
          go_wp2_with fail
          refine (leq_r (HL4.out.drewN (m + m2)) a b).mono ?_
          rintro e w' ⟨rfl, rfl⟩
          go_wp2_with fail
          refine (leq_r (HL5.out.drewN (m + m2)) b a).mono ?_
          rintro e w' ⟨rfl, rfl⟩
          go_wp2
          go_ret
          exact ⟨rfl, below_drewN HB4.out _⟩
        · have h0' : makeE n (turn ps) ≠ 0 := by rw [makeE_turn]; exact h0
          have C1 := Lib.hid (make_no n A j c ps _ wr HL.out hps1 rfl h0)
          have HPS2 := Lib.hid hps2
          have H0' := Lib.hid h0'
          clear hps1 hps2 h0 h0'
          go_wp2_with fail
          refine C1.out.mono ?_
          rintro e w3 ⟨rfl, hb3⟩
          have HB3 := Lib.hid (HB.out.trans (hb3.mono hsz))
          have c2 := make_no n A' j c' (turn ps) _ w3 (by rw [turn_len, HL.out]) ((HPS2.out.below hb3).more hb3.size) rfl H0'.out
          rw [makeE_turn] at c2
          have C2 := Lib.hid c2
          have hz3 : w.heap.size ≤ w3.heap.size := Nat.le_trans hsz hb3.size
          clear hb3 c2
          go_wp2_with fail
          refine C2.out.mono ?_
          rintro e w4 ⟨rfl, hb4⟩
          have HB4 := Lib.hid (HB3.out.trans (hb4.mono hz3))
          clear hb4
          go_wp2_with (first | (go_at_call 19; refine (join_nil _ _ _).mono ?_; rintro e w' ⟨rfl, rfl⟩) | (go_at_call 21; refine (meet_nil _ _ _).mono ?_; rintro e w' ⟨rfl, rfl⟩) | (go_at_call 23; refine (bottom_nil _).mono ?_; rintro e w' ⟨rfl, rfl⟩) | (go_at_call 24; refine (top_nil _).mono ?_; rintro e w' ⟨rfl, rfl⟩) | (go_at_call 22; refine (leq_nil _ _ _).mono ?_; rintro e w' ⟨rfl, rfl⟩))
          go_ret
          exact ⟨rfl, HB4.out⟩

set_option maxRecDepth 100000 in
/-- the row's step, argument by argument -/
theorem latticeDual_lifted (os : Os) (started : os.Started) (H : Type) (enc : TypeId × Value → H) :
    ReturnsInHanded {} Try.checked os 5 .any (Rows.latticeDualSpec.pre6 enc Try.prog Try.f5 Rows.latticeDualRow.domain false) (Rows.latticeDualSpec.post enc Try.prog Try.f5 false true false false) := by
  refine returnsInHanded_of_change (C := Try.checked) own started (by kernel_rfl) Try.func5
    (ChangeSpec.witness6 (enc := enc) (C := Try.checked) false ⟨#[], #[.int .i64 0, .slice none 0 0, .int .i64 0, .int .i64 0], []⟩ 8 (by kernel_rfl) (by kernel_rfl) (by kernel_rfl) (by kernel_rfl)) ?_
  intro W base args ds gs before hval0 hW hcnd _
  have hval : ∀ (j : Nat) t v, Try.f5.params[j]? = some t → args[j]? = some v → Value.okWide Try.prog W .any base t v := hval0
  have hW' := hW
  obtain ⟨p, q, hA0, hV, rfl, hfz, hnd⟩ := hW
  have hA : DataW.TrodAll enc Try.prog W 0 (fun _ => true) true Try.f5.params.toList args.toList ds p := hA0
  rw [Try.params5] at hA hval
  obtain ⟨v0, vs0, d0, ds0, p0, q0, hargs, rfl, rfl, h0, r0⟩ := trodAll_cons hA
  obtain ⟨v1, vs1, d1, ds1, p1, q1, rfl, rfl, rfl, h1, r1⟩ := trodAll_cons r0
  obtain ⟨v2, vs2, d2, ds2, p2, q2, rfl, rfl, rfl, h2, r2⟩ := trodAll_cons r1
  obtain ⟨v3, vs3, d3, ds3, p3, q3, rfl, rfl, rfl, h3, r3⟩ := trodAll_cons r2
  obtain ⟨rfl, rfl, rfl⟩ := trodAll_nil r3
  obtain rfl : args = #[v0, v1, v2, v3] := by cases args; simp_all
  obtain ⟨rfl, rfl⟩ := trodVars_none hV
  obtain ⟨a0, rfl, rfl, rfl, w0⟩ := open_int Try.underlying3 (hval 0 3 v0 rfl rfl) h0
  obtain ⟨a1, len1, cap1, rfl⟩ := okWide_slice Try.underlying22 (hval 1 22 v1 rfl rfl)
  have k1 := h1
  have lt1 := lt_of_trod k1
  obtain ⟨z1, l1, w1⟩ := open_pairs h1
  obtain ⟨a2, rfl, rfl, rfl, w2⟩ := open_int Try.underlying3 (hval 2 3 v2 rfl rfl) h2
  obtain ⟨a3, rfl, rfl, rfl, w3⟩ := open_int Try.underlying3 (hval 3 3 v3 rfl rfl) h3
  clear hA0 hval0
  refine (latticeDual_walk W a0 w0 a1 len1 cap1 z1 l1 w1 a2 w2 a3 w3).mono fun e W' ⟨he, bel⟩ => ?_
  subst he
  exact ⟨_, rfl, _, _, _, [], _, [], hW', trodAll_mk1 (shut_bool Try.underlying4 _), (trodAll_cons_mk (shut_int Try.underlying3 w0) (trodAll_cons_mk (Below.trod laidOut (by kernel_rfl) (of_decide_eq_true (by kernel_rfl)) k1 bel lt1) (trodAll_cons_mk (shut_int Try.underlying3 w2) (trodAll_cons_mk (shut_int Try.underlying3 w3) trodAll_mk0)))), rfl, bel.frame _, fun h => by cases h⟩

theorem latticeDual_proved : Rows.LatticeDualSaid :=
  OpenClaim.holds_of_wide 5 Try.f5 rfl rfl rfl rfl rfl rfl rfl ⟨rfl, rfl, rfl, rfl, rfl⟩ rfl rfl rfl rfl rfl (by kernel_rfl) Try.func5 (by kernel_rfl)
    (of_decide_eq_true (by kernel_rfl)) (by unfold Func.isWrapper; first | (rw [if_pos (by decide +kernel)]; kernel_rfl) | (rw [if_neg (by decide +kernel)]; exact ⟨rfl, rfl⟩))
    (fun os started H enc _ => latticeDual_lifted os started H enc)
#print axioms latticeDual_proved

end Go.Proofs.Ytpikafadfailkaa
