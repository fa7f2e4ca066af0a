/- package label: Raise. -/
import Derived.Test.YtpikafadfailkaaLabel5
import Derived.Maps.RangeWalk
import Derived.Deep.QuietTactic
import Derived.BigQuiet
namespace Go.Proofs.Ytpikafadfailkaa
open Go.RowKit P
set_option linter.unusedVariables false

def edg (ps : List (Int × Int)) : List (Nat × Nat) := ps.map fun p => (p.1.toNat, p.2.toNat)
def natl (l : List Int) : List Nat := l.map Int.toNat
def RaisePost (w : World) (n : Nat) (L : Rel) (ps : List (Int × Int)) (low : List Int) (e : Ending) (w' : World) : Prop :=
  Below w.heap.size w w' ∧ ((allL n low && okPairs low.length ps) = false ∧ e = .returned (.tuple #[.slice none 0 0, .int .i64 3]) ∨
    (allL n low && okPairs low.length ps) = true ∧ ∃ v, e = .returned (.tuple #[v, .int .i64 0]) ∧ IntsAt w' w'.heap.size v (labs (raiseN n L (edg ps) (natl low))))
theorem RaisePost.no {w w' : World} {n : Nat} {L : Rel} {ps : List (Int × Int)} {low : List Int} (hb : Below w.heap.size w w') (h : allL n low = false ∨ okPairs low.length ps = false) :
    RaisePost w n L ps low (.returned (.tuple #[.slice none 0 0, .int .i64 3])) w' :=
  ⟨hb, .inl ⟨by rcases h with h | h <;> rw [h] <;> simp, rfl⟩⟩

theorem edg_ok {m : Nat} {ps : List (Int × Int)} (h : okPairs m ps = true) : EdN m (edg ps) := by
  intro e he
  unfold edg at he
  obtain ⟨p, hp, rfl⟩ := List.mem_map.1 he
  unfold okPairs at h
  have := List.all_eq_true.1 h p hp
  unfold isLb at this
  simp at this
  exact ⟨by show p.1.toNat < m; omega, by show p.2.toNat < m; omega⟩
theorem okPairs_nat {m m' : Nat} {ps : List (Int × Int)} {j : Nat} {p : Int × Int} (hE : EdN m (edg ps)) (h : okPairs m' ps = true) (hp : ps[j]? = some p) :
    ∃ a e : Nat, p = ((a : Int), (e : Int)) ∧ (edg ps)[j]? = some (a, e) ∧ a < m ∧ e < m := by
  have h1 := List.mem_of_getElem? hp
  have h2 : (edg ps)[j]? = some (p.1.toNat, p.2.toNat) := by unfold edg; rw [List.getElem?_map, hp]; rfl
  have h3 := hE _ (List.mem_of_getElem? h2)
  unfold okPairs at h
  have := List.all_eq_true.1 h p h1
  unfold isLb at this
  simp at this
  refine ⟨p.1.toNat, p.2.toNat, ?_, h2, h3⟩
  exact Prod.ext (by show p.1 = _; omega) (by show p.2 = _; omega)
theorem natl_labs (o : List Nat) : natl (labs o) = o := by
  unfold natl labs
  rw [List.map_map]
  conv => rhs; rw [← List.map_id o]
  exact List.map_congr_left fun x _ => by simp
theorem jnI_nat' {n : Nat} {L : Rel} {x y : Nat} (hx : x < n) (hy : y < n) : jnI n L x y = jj n L x y := by
  unfold jnI; rw [isL_nat hx, isL_nat hy]; simp
theorem edg_at {ps : List (Int × Int)} {j a e : Nat} (h : ps[j]? = some ((a : Int), (e : Int))) : (edg ps)[j]? = some (a, e) := by
  unfold edg; rw [List.getElem?_map, h]; rfl

/-- a slice of labels in a block of one's own, at whose head it begins -/
def OwnRow (w : World) (base : Nat) (A : Option Addr) (o : List Nat) : Prop := 0 < o.length → ∃ g, A = some ⟨g, 0, none⟩ ∧ base ≤ g ∧ g < w.heap.size ∧ RowAt w g o
theorem OwnRow.of_own {w : World} {base : Nat} {v : Value} {o : List Nat} (h : OwnInts w base v (labs o)) : ∃ A c, v = .slice A o.length c ∧ OwnRow w base A o := by
  rcases Nat.eq_zero_or_pos o.length with h0 | h0
  · rcases h.2 with ⟨rfl, _⟩ | ⟨g, cap, cur, hv, _⟩
    · exact ⟨none, 0, by rw [h0], fun h1 => by omega⟩
    · rw [labs_len] at hv; exact ⟨_, cap, hv, fun h1 => by omega⟩
  · obtain ⟨g, c, hv, h1, h2, h3⟩ := RowAt.of_own h h0
    exact ⟨_, c, hv, fun _ => ⟨g, rfl, h1, h2, h3⟩⟩
theorem OwnRow.mono {w : World} {base base' : Nat} {A : Option Addr} {o : List Nat} (h : OwnRow w base A o) (hb : base' ≤ base) : OwnRow w base' A o := fun h0 => by
  obtain ⟨g, h1, h2, h3⟩ := h h0
  exact ⟨g, h1, by omega, h3⟩
theorem OwnRow.below {w w' : World} {base : Nat} {A : Option Addr} {o : List Nat} (h : OwnRow w base A o) (hb : Below w.heap.size w w') : OwnRow w' base A o := fun h0 => by
  obtain ⟨g, h1, h2, h3, h4⟩ := h h0
  exact ⟨g, h1, h2, Nat.lt_of_lt_of_le h3 hb.size, h4.below hb h3⟩
theorem OwnRow.ints {w : World} {base : Nat} {A : Option Addr} {o : List Nat} (h : OwnRow w base A o) (hl : o.length ≤ 9223372036854775807) (n c : Nat) (hn : n = o.length) : IntsAt w w.heap.size (.slice A n c) (labs o) := by
  rcases Nat.eq_zero_or_pos o.length with h0 | h0
  · subst hn
    exact ⟨by rw [labs_len]; exact hl, A, c, by rw [labs_len], fun h1 => by rw [labs_len] at h1; omega⟩
  · obtain ⟨g, rfl, _, h3, h4⟩ := h h0
    exact h4.ints h3 hl c n hn

set_option maxHeartbeats 2000000 in
theorem raise_r (b n : Nat) (L : Rel) (u v : Value) (ps : List (Int × Int)) (low : List Int) (A : Option Addr) (c : Nat) (w : World) (hlat : LatR w b n L) (hp : Pairs w w.heap.size A ps) (hl : IntsAt w w.heap.size v low) (h3 : low.length ≤ 300) :
    Calls Try.prog 46 #[.pointer (some ⟨b, 0, none⟩), .slice A ps.length c, v] w (RaisePost w n L ps low) := by
  have HLAT := Lib.hid hlat
  have HI0 := Lib.hid hl
  have HP := Lib.hid hp
  have hpl := hp.1
  have hrf := hlat.lat.refl
  obtain ⟨hlen, LA, lc, rfl, hcell⟩ := hl
  have HC := Lib.hid hcell
  have HRF := Lib.hid hrf
  clear hlat hp hcell hrf
  go_enter Try.func46, Try.ntmps46
  go_wp2
  go_step3
  go_wp2
  go_loopg [21] low.length (fun g i wr => ∃ k : Nat, k + g = low.length ∧ i = .int .i64 k ∧ allL n (low.take k) = true ∧ w = wr)
  case atStart => exact ⟨0, by omega, rfl, rfl, rfl⟩
  case round =>
    obtain ⟨k, hk, rfl, hall, rfl⟩ := hrel
    have HA := Lib.hid hall
    cases gk with
    | succ g =>
      have hlt : (k : Int) < (low.length : Int) := by omega
      obtain ⟨a, ha⟩ : ∃ a, low[k]? = some a := ⟨_, List.getElem?_eq_getElem (by omega)⟩
      obtain ⟨bb, o, rfl, _, hc⟩ := HC.out (by omega)
      have d := hc k a ha
      have HAN := Lib.hid (allL_take ha hall)
      have HNO := Lib.hid (fun h => allL_no (n := n) ha h)
      clear hc ha hall
      cases hla : isL n a with
      | false =>
        have HV := Lib.hid (HNO.out hla)
        have q1 : lqI n L a a = false := by unfold lqI; rw [hla]; rfl
        clear hla
        go_wp2_with (go_at_call 22; refine (leq_r HLAT.out _ _).mono ?_; rintro e w' ⟨rfl, rfl⟩)
        rw [Exit.noGoto_ret]
        go_ret2
        exact RaisePost.no (Below.refl _ _) (.inl HV.out)
      | true =>
        have HLA := Lib.hid hla
        have q1 : lqI n L a a = true := by
          obtain ⟨y, rfl, hy⟩ := isL_true hla
          unfold lqI; rw [hla]; simpa using HRF.out y hy
        clear hla
        go_wp2_with (go_at_call 22; refine (leq_r HLAT.out _ _).mono ?_; rintro e w' ⟨rfl, rfl⟩)
        go_roundg g
        case measure => omega
        case rel => exact ⟨k + 1, by omega, by go_num, by rw [HAN.out]; exact HLA.out, rfl⟩
    | zero =>
      have hge : ¬ ((k : Int) < (low.length : Int)) := by omega
      have HALL : Hid (allL n low = true) := Lib.hid (by
        have h1 := HA.out
        rw [List.take_of_length_le (by omega)] at h1
        exact h1)
      clear hall HA
      go_wp2
      clear hge hk
      go_loopg [33] ps.length (fun g i wr => ∃ k : Nat, k + g = ps.length ∧ i = .int .i64 k ∧ okPairs low.length (ps.take k) = true ∧ Below w.heap.size w wr)
      case atStart => exact ⟨0, by omega, rfl, rfl, Below.refl _ _⟩
      case round =>
        obtain ⟨j, hj, rfl, hok, hb⟩ := hrel
        have HB3 := Lib.hid hb
        have hz3 := hb.size
        have HO3 := Lib.hid hok
        clear hok
        cases gk with
        | succ g =>
          have hlt : (j : Int) < (ps.length : Int) := by omega
          obtain ⟨p, hp⟩ : ∃ p, ps[j]? = some p := ⟨_, List.getElem?_eq_getElem (by omega)⟩
          obtain ⟨bb, o, rfl, hbl, hcell⟩ := HP.out.2 (by omega)
          obtain ⟨c0, c1, wf0, wf1⟩ := hcell j p hp
          have d0 := (hb.cell (p := ⟨bb, o + j * 2, none⟩) hbl).trans c0
          have d1 := (hb.cell (p := ⟨bb, o + j * 2 + 1, none⟩) hbl).trans c1
          clear c0 c1 hcell hb
          obtain ⟨p0, p1⟩ := p
          have HPJ := Lib.hid hp
          clear hp
          simp only at d0 d1 wf0 wf1
          cases hr : (isLb low.length p0 && isLb low.length p1) with
          | false =>
            have HR := Lib.hid hr
            have hr2 : p0 < 0 ∨ (low.length : Int) ≤ p0 ∨ p1 < 0 ∨ (low.length : Int) ≤ p1 := by
              unfold isLb at hr; simp at hr; omega
            have HR2 := Lib.hid hr2
            clear hr hr2
            go_wp2
            all_goals first
              | (exfalso; have := HR2.out; omega)
              | (try rw [Exit.noGoto_ret]
                 go_ret2
                 exact RaisePost.no (HB3.out.alloc (by omega) _) (.inr (okPairs_take HPJ.out HR.out)))
          | true =>
            obtain ⟨a, e, rfl, rfl, ha, he⟩ : ∃ a e : Nat, p0 = a ∧ p1 = e ∧ a < low.length ∧ e < low.length := by
              unfold isLb at hr; simp at hr
              exact ⟨p0.toNat, p1.toNat, by omega, by omega, by omega, by omega⟩
            have HR := Lib.hid hr
            clear hr
            go_wp2
            all_goals first
              | (exfalso; omega)
              | (go_roundg g
                 (case measure => omega)
                 (case rel => exact ⟨j + 1, by omega, by go_num, by rw [take_snoc HPJ.out, okPairs_snoc, HO3.out, HR.out]; rfl, HB3.out.alloc (by omega) _⟩))
        | zero =>
          have hge : ¬ ((j : Int) < (ps.length : Int)) := by omega
          have HOK : Hid (okPairs low.length ps = true) := Lib.hid (by
            have h1 := HO3.out
            rw [List.take_of_length_le (by omega)] at h1
            exact h1)
          clear HO3
          obtain ⟨lo, hlo, hlab⟩ := labs_of HALL.out
          have hll : low.length = lo.length := by rw [hlo, labs_len]
          have hE := edg_ok HOK.out
          rw [hll] at hE
          have HLO := Lib.hid hlo
          have HLL := Lib.hid hll
          have HE := Lib.hid hE
          have HST := Lib.hid (Under.start (E := edg ps) HLAT.out.lat hlab)
          have HCL := Lib.hid (clone_any (.slice LA low.length lc) low wr ((HI0.out.below hb).more hz3) h3)
          clear hb hlo hE hll
          go_wp2_with fail
          refine HCL.out.mono ?_
          rintro e w2 ⟨v', rfl, hown, hb2⟩
          rw [HLO.out] at hown
          obtain ⟨A2, c2, rfl, hrow⟩ := OwnRow.of_own hown
          have HROW := Lib.hid hrow
          have HB4 := Lib.hid (HB3.out.trans (hb2.mono hz3))
          clear hown hb2 hrow
          go_wp2
          go_step3
          go_wp2
          have hz4 := HB4.out.size
          clear HCL
          go_loopg [] (mu n L lo + 1) (fun g wr => ∃ o, Under n L (edg ps) lo o ∧ mu n L o < g ∧ OwnRow wr w.heap.size A2 o ∧ Below w.heap.size w wr)
          case atStart => exact ⟨lo, HST.out, by omega, HROW.out.mono hz3, HB4.out⟩
          case round =>
            obtain ⟨o, hu, hmu, hrow, hb⟩ := hrel
            have HU := Lib.hid hu
            have HR1 := Lib.hid hrow
            have HB5 := Lib.hid hb
            have hz5 := hb.size
            have HOL : Hid (lo.length = o.length) := Lib.hid hu.le.1
            clear hu hrow hb
            cases gk with
            | zero => omega
            | succ g =>
              go_wp2
              go_loopg [58] ps.length (fun g i wy => ∃ j : Nat, j + g = ps.length ∧ i = .int .i64 j ∧ (∀ e, e ∈ (edg ps).take j → jj n L (gv o e.1) (gv o e.2) = gv o e.2) ∧ Below wr.heap.size wr wy)
              case atStart => exact ⟨0, by omega, rfl, fun e he => by simp at he, Below.refl _ _⟩
              case round =>
                obtain ⟨j, hj, rfl, hsame, hb⟩ := hrel
                have HSM := Lib.hid hsame
                have HB6 := Lib.hid hb
                have hz6 := hb.size
                clear hsame hb
                cases gk with
                | zero =>
                  have hge : ¬ ((j : Int) < (ps.length : Int)) := by omega
                  go_wp2
                  go_ret2
                  have hcl : ClosedN L (edg ps) o := closed_of HLAT.out.lat HU.out.lab (by rw [← HOL.out]; exact HE.out) (fun e he => HSM.out e (by rw [List.take_of_length_le (by unfold edg; rw [List.length_map]; omega)]; exact he))
                  have he : o = raiseN n L (edg ps) lo := raise_eq HLAT.out.lat HLAT.out.le8 HE.out hlab HU.out hcl
                  refine ⟨HB5.out.trans (HB6.out.mono hz5), .inr ⟨by rw [HALL.out, HOK.out]; rfl, _, rfl, ?_⟩⟩
                  rw [HLO.out, natl_labs, ← he]
                  exact (HR1.out.below HB6.out).ints (by rw [← HOL.out, ← HLL.out]; omega) _ _ HOL.out
                | succ g2 =>
                  have hlt : (j : Int) < (ps.length : Int) := by omega
                  obtain ⟨p, hp⟩ : ∃ p, ps[j]? = some p := ⟨_, List.getElem?_eq_getElem (by omega)⟩
                  obtain ⟨bb, o2, rfl, hbl, hcell⟩ := HP.out.2 (by omega)
                  obtain ⟨c0, c1, wf0, wf1⟩ := hcell j p hp
                  have d0 := ((HB5.out.trans (HB6.out.mono hz5)).cell (p := ⟨bb, o2 + j * 2, none⟩) hbl).trans c0
                  have d1 := ((HB5.out.trans (HB6.out.mono hz5)).cell (p := ⟨bb, o2 + j * 2 + 1, none⟩) hbl).trans c1
                  clear c0 c1 hcell
                  obtain ⟨a, e, rfl, hp2, ha, he⟩ : ∃ a e : Nat, p = ((a : Int), (e : Int)) ∧ (edg ps)[j]? = some (a, e) ∧ a < lo.length ∧ e < lo.length := okPairs_nat HE.out HOK.out hp
                  have HPJ := Lib.hid hp2
                  clear hp hp2
                  simp only at d0 d1 wf0 wf1
                  obtain ⟨gb, rfl, hg1, hg2, hrow⟩ := HR1.out (by rw [← HOL.out]; omega)
                  have hg3 : gb < wr.heap.size := by omega
                  have HRZ := Lib.hid ((hrow.below HB6.out hg2).below ((Below.refl wr.heap.size wr).alloc (Nat.le_refl _) (.cells #[.int .i64 a, .int .i64 e] 39)) hg3)
                  have HBZ := Lib.hid (HB6.out.alloc hz6 (.cells #[.int .i64 a, .int .i64 e] 39))
                  have e0 : (wr.alloc (.cells #[.int .i64 a, .int .i64 e] 39)).cell? ⟨wr.heap.size, 0, none⟩ = some (.int .i64 a) := by rw [cell_new]; rfl
                  have e1 : (wr.alloc (.cells #[.int .i64 a, .int .i64 e] 39)).cell? ⟨wr.heap.size, 1, none⟩ = some (.int .i64 e) := by rw [cell_new]; rfl
                  clear hrow
                  go_upto_region 19 with (fail)
                  clear d0 d1
                  generalize wr.alloc (.cells #[.int .i64 a, .int .i64 e] 39) = wz at *
                  have HLZ := Lib.hid (HLAT.out.here (HB5.out.trans (HBZ.out.mono hz5)))
                  have hae : a < o.length ∧ e < o.length := by rw [← HOL.out]; exact ⟨ha, he⟩
                  have da := HRZ.out.c a hae.1
                  have de := HRZ.out.c e hae.2
                  have fe := HRZ.out.fz e hae.2
                  have sp := HLAT.out.lat.jj_spec (HU.out.lab a hae.1) (HU.out.lab e hae.2)
                  have q2 := jnI_nat' (L := L) (HU.out.lab a hae.1) (HU.out.lab e hae.2)
                  have q1 : tabE n (gv o a : Nat) (gv o e : Nat) = 0 := by unfold tabE; rw [isL_nat (HU.out.lab a hae.1), isL_nat (HU.out.lab e hae.2)]; rfl
                  have MS := Lib.hid (mu_step HLAT.out.lat HU.out.lab (e := (a, e)) hae.1 hae.2)
                  have HAE := Lib.hid hae
                  have HX : Hid (∃ x y, jj n L (gv o a) (gv o e) = x ∧ gv o e = y) := Lib.hid ⟨_, _, rfl, rfl⟩
                  clear sp hae
                  obtain ⟨x, y, hx, hy⟩ := HX.out
                  rw [hx] at q2
                  rw [hy] at q1 q2 de
                  have HXX := Lib.hid hx
                  have HYY := Lib.hid hy
                  clear hx hy HX
                  generalize hz : gv o a = z at da q1 q2
                  have HZZ := Lib.hid hz
                  clear hz
                  by_cases hxy : x = y
                  · subst hxy
                    go_quiet ((go_at_call 19; refine Calls.quiet_of_same ((join_r (HLZ.out.drewN _) _ _).mono fun e w' h => ⟨h.1, h.2.symm⟩)))
                    go_wp2
                    go_roundg g2
                    case measure => omega
                    case rel => exact ⟨j + 1, by omega, by go_num, fun e' he' => by
                      rw [take_snoc HPJ.out] at he'
                      rcases List.mem_append.1 he' with h1 | h1
                      · exact HSM.out e' h1
                      · rw [List.mem_singleton.1 h1]; exact HXX.out.trans HYY.out.symm, below_drewN HBZ.out _⟩
                  · have hne : ¬ ((x : Int) = (y : Int)) := by omega
                    go_quiet ((go_at_call 19; refine Calls.quiet_of_same ((join_r (HLZ.out.drewN _) _ _).mono fun e w' h => ⟨h.1, h.2.symm⟩)))
                    go_wp2

                    go_roundg g
                    case measure => omega
                    case rel =>
                      have hst : stepR n L o (a, e) = o.set e x := by unfold stepR; rw [HXX.out]
                      rcases MS.out with ⟨k1, _⟩ | ⟨_, k2⟩
                      · exact absurd (HXX.out.symm.trans (k1.trans HYY.out)) hxy
                      · rw [hst] at k2
                        refine ⟨o.set e x, hst ▸ HU.out.step HLAT.out.lat HE.out (List.mem_of_getElem? HPJ.out), by omega, fun h0 => ⟨gb, rfl, hg1, ?_, ?_⟩, ?_⟩
                        · have := HBZ.out.size; simpa [World.drewN] using Nat.lt_of_lt_of_le hg2 this
                        · exact (show RowAt (wz.drewN nq) gb o from HRZ.out.keep (fun _ => rfl) (fun _ => rfl)).set HAE.out.2 x
                        · exact (below_drewN (HB5.out.trans (HBZ.out.mono hz5)) _).setCell (p := ⟨gb, e, none⟩) hg1 _

end Go.Proofs.Ytpikafadfailkaa
