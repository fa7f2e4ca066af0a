/- Parts of a proof: LatMake, LatR. -/
import Derived.Test.YtppmkehdhpgdcaaGreatPackP6
section
namespace Go.Proofs.YtppmkehdhpgdcaaGreat
open Go.RowKit P
def Pairs (w : World) (B : Nat) (A : Option Addr) (ps : List (Int × Int)) : Prop :=
  ps.length ≤ 9223372036854775807 ∧ (0 < ps.length → ∃ b o, A = some ⟨b, o, none⟩ ∧ b < B ∧ ∀ i p, ps[i]? = some p →
    w.cell? ⟨b, o + i * 2, none⟩ = some (.int .i64 p.1) ∧ w.cell? ⟨b, o + i * 2 + 1, none⟩ = some (.int .i64 p.2) ∧ (Lit.int .i64 p.1).wf = true ∧ (Lit.int .i64 p.2).wf = true)
def zlat : Array Value := (.int .i64 0 :: (List.replicate 16 (.int .u8 0) ++ List.replicate 128 (.int .i8 0))).toArray
def nlat (k : Nat) : Array Value := zlat.setIfInBounds 0 (.int .i64 k)
theorem zlat_zero (w : World) : (zeroValue 97).run Tryz.prog w = .ok (.agg zlat) w := by kernel_rfl
theorem zlat_ne : (zlat = #[]) = False := by
  rw [eq_iff_iff, iff_false]; intro h; have := congrArg Array.size h; simp [zlat] at this
theorem nlat_get (k i : Nat) : (nlat k)[i]? = if i = 0 then some (.int .i64 k) else if i < 17 then some (.int .u8 0) else if i < 145 then some (.int .i8 0) else none := by
  unfold nlat zlat
  by_cases h0 : i = 0
  · subst h0; simp
  · rw [if_neg h0, Array.getElem?_setIfInBounds_ne (by omega)]
    obtain ⟨j, rfl⟩ : ∃ j, i = j + 1 := ⟨i - 1, by omega⟩
    simp only [List.getElem?_toArray, List.getElem?_cons_succ]
    by_cases h1 : j < 16
    · rw [List.getElem?_append_left (by simpa using h1), if_pos (by omega)]; rw [List.getElem?_replicate, if_pos h1]
    · rw [List.getElem?_append_right (by simp; omega), if_neg (by omega)]
      simp only [List.length_replicate, List.getElem?_replicate]
      by_cases h2 : j - 16 < 128
      · rw [if_pos h2, if_pos (by omega)]
      · rw [if_neg h2, if_neg (by omega)]
theorem cell_new (w : World) (cs : Array Value) (T : TypeId) (i : Nat) : (w.alloc (.cells cs T)).cell? ⟨w.heap.size, i, none⟩ = cs[i]? :=
  cell_of_row _ w.heap.size i cs T (0, 0) (heap_alloc_new w _)
theorem frozen_new (w : World) (cs : Array Value) (T : TypeId) (i : Nat) : (w.alloc (.cells cs T)).frozen? ⟨w.heap.size, i, none⟩ = false := by
  have h := heap_alloc_new w (.cells cs T)
  unfold World.frozen?
  rw [h]
  simp
theorem lm_start (w : World) (k : Nat) (T : TypeId) : Lm (w.alloc (.cells (nlat k) T)) w.heap.size k (fun _ _ => false) (fun _ _ => false) (fun _ _ => 0) (fun _ _ => 0) := by
  refine ⟨?_, fun i hi => ?_, fun i hi => ?_, fun i j hi hj => ?_, fun i j hi hj => ?_, fun i hi => frozen_new _ _ _ _⟩
  · rw [cell_new, nlat_get]; rfl
  · rw [cell_new, nlat_get, if_neg (by omega), if_pos (by omega), mask_zero']; rfl
  · rw [cell_new, nlat_get, if_neg (by omega), if_pos (by omega), mask_zero']; rfl
  · rw [cell_new, nlat_get, if_neg (by omega), if_neg (by omega), if_pos (by omega)]
  · rw [cell_new, nlat_get, if_neg (by omega), if_neg (by omega), if_pos (by omega)]
theorem Lm.alloc {w : World} {b n : Nat} {U D : Rel} {J M : Nat → Nat → Int} (h : Lm w b n U D J M) (hb : b < w.heap.size) (o : Obj) : Lm (w.alloc o) b n U D J M :=
  h.below ((Below.refl w.heap.size w).alloc (Nat.le_refl _) o) hb
theorem size_set (w : World) (a : Addr) (v : Value) : (w.setCell a v).heap.size = w.heap.size := by simp [World.setCell]
def diag (x : Nat) : Rel := fun a b => decide (a < x) && (a == b)
theorem diag_zero (a b : Nat) : (false : Bool) = diag 0 a b := by simp [diag]
theorem diag_step (x a b : Nat) : upd (diag x) x (fun i => i == x) a b = diag (x + 1) a b := by
  unfold upd diag
  by_cases e : a = x
  · subst e; simp [Bool.beq_comm]
  · have : (a < x + 1) = (a < x) := by simp; omega
    simp [e, this]
theorem diag_rel (k a b : Nat) (_ha : a < 8) (_hb : b < 8) : diag k a b = rel0 k [] a b := by
  unfold diag rel0
  by_cases e : a = b
  · subst e; simp
  · have e' : (a == b) = false := beq_eq_false_iff_ne.2 e
    simp [e']
theorem one_mask (x : Nat) (hx : x < 8) : ((2 : Int) ^ x % 256) = ((mask (fun i => i == x) : Nat) : Int) := by
  rw [pow_mod x hx, ← mask_one x hx]; simp
theorem rel0_step (k : Nat) (ps : List (Int × Int)) (x y : Nat) (hx : x < k) (hy : y < k) (a b : Nat) :
    upd (rel0 k ps) x (fun i => rel0 k ps x i || i == y) a b = rel0 k (ps ++ [((x : Int), (y : Int))]) a b := by
  unfold upd rel0
  rw [List.any_append]
  by_cases e : a = x
  · subst e
    by_cases e2 : b = y
    · subst e2; simp [hx, hy]
    · have e3 : ((y : Int) == (b : Int)) = false := beq_eq_false_iff_ne.2 (by omega)
      have e4 : (b == y) = false := beq_eq_false_iff_ne.2 e2
      simp [e3, e4]
  · have e3 : ((x : Int) == (a : Int)) = false := beq_eq_false_iff_ne.2 (by omega)
    simp [e, e3]
theorem okPairs_snoc (n : Int) (ps : List (Int × Int)) (p : Int × Int) : okPairs n (ps ++ [p]) = (okPairs n ps && (isLb n p.1 && isLb n p.2)) := by
  unfold okPairs; simp [List.all_append]
theorem okPairs_take {n : Int} {ps : List (Int × Int)} {i : Nat} {p : Int × Int} (h : ps[i]? = some p) (hb : (isLb n p.1 && isLb n p.2) = false) : okPairs n ps = false := by
  cases e : okPairs n ps with
  | false => rfl
  | true =>
    unfold okPairs at e
    rw [List.all_eq_true] at e
    rw [e p (List.mem_of_getElem? h)] at hb; cases hb
theorem take_snoc {α : Type} {ps : List α} {i : Nat} {p : α} (h : ps[i]? = some p) : ps.take (i + 1) = ps.take i ++ [p] := by
  rw [List.take_add_one, h]; rfl
structure LatR (w : World) (b n : Nat) (L : Rel) : Prop where
  at_ : LatAt w b n L (tab n (jn n L)) (tab n (mt n L))
  lat : Lat n L
  le8 : n ≤ 8
  lt : b < w.heap.size
def MakePost (w : World) (n : Int) (ps : List (Int × Int)) (e : Ending) (w' : World) : Prop :=
  Below w.heap.size w w' ∧ ((makeE n ps ≠ 0 ∧ e = .returned (.tuple #[.pointer none, .int .i64 (makeE n ps)])) ∨
    (makeE n ps = 0 ∧ ∃ k : Nat, n = k ∧ e = .returned (.tuple #[.pointer (some ⟨w.heap.size, 0, none⟩), .int .i64 0]) ∧ LatR w' w.heap.size k (ordOf k ps)))
theorem below_only {B b : Nat} {u w w' : World} (h : Below B u w) (hb : B ≤ b) (hB : B ≤ w.heap.size) (hg : w.grownBy w' (some b)) : Below B u w' :=
  h.grown hg hB (fun k hk => by injection hk with hk; omega)
theorem mk_bad {w w' : World} {B : Nat} {n : Int} {ps : List (Int × Int)} {v : Int} (hb : Below B w w') (hB : w.heap.size = B) (h : makeE n ps = v) (hv : v ≠ 0) :
    MakePost w n ps (.returned (.tuple #[.pointer none, .int .i64 v])) w' := by
  subst hB; subst h
  exact ⟨hb, .inl ⟨hv, rfl⟩⟩
theorem mk_good {w w' : World} {B k : Nat} {ps : List (Int × Int)} (hb : Below B w w') (hB : w.heap.size = B) (h : makeE k ps = 0) (hl : LatR w' B k (ordOf k ps)) :
    MakePost w k ps (.returned (.tuple #[.pointer (some ⟨B, 0, none⟩), .int .i64 0])) w' := by
  subst hB
  exact ⟨hb, .inr ⟨h, k, rfl, rfl, hl⟩⟩
set_option maxHeartbeats 4000000 in
set_option maxRecDepth 100000 in
theorem make_in (k : Nat) (A : Option Addr) (c : Nat) (ps : List (Int × Int)) (w : World) (hp : Pairs w w.heap.size A ps) (h1 : 1 ≤ k) (h8 : k ≤ 8) (hl : ps.length ≤ 64) :
    Calls Tryz.prog 19 #[.int .i64 k, .slice A ps.length c] w (MakePost w k ps) := by
  have t1 : decide ((k : Int) < 1) = false := by simp; omega
  have t2 : decide ((8 : Int) < k) = false := by simp; omega
  have t3 : decide ((64 : Int) < ps.length) = false := by simp; omega
  have hz := zlat_zero
  have hne := zlat_ne
  have HP := Lib.hid hp
  clear hp
  go_enter Tryz.func19, Tryz.ntmps19
  go_wp2
  clear hz hne
  have HM := Lib.hid (lm_start w k 97)
  have HB := Lib.hid ((Below.refl w.heap.size w).alloc (Nat.le_refl _) (.cells (nlat k) 97))
  have HS : w.heap.size < (w.alloc (.cells (nlat k) 97)).heap.size := by simp
  change Hid (Lm (w.alloc (.cells (zlat.setIfInBounds 0 (.int .i64 k)) 97)) _ _ _ _ _ _) at HM
  change Hid (Below _ _ (w.alloc (.cells (zlat.setIfInBounds 0 (.int .i64 k)) 97))) at HB
  change _ < (w.alloc (.cells (zlat.setIfInBounds 0 (.int .i64 k)) 97)).heap.size at HS
  generalize w.alloc (.cells (zlat.setIfInBounds 0 (.int .i64 k)) 97) = W0 at *
  have hBS : w.heap.size ≤ w.heap.size := Nat.le_refl _
  generalize hB : w.heap.size = B at *
  have HBE := Lib.hid hB
  clear hB
  go_loopg [25] k (fun g i wr => ∃ x : Nat, x + g = k ∧ i = .int .i64 x ∧ Lm wr B k (diag x) (fun _ _ => false) (fun _ _ => 0) (fun _ _ => 0) ∧ Below B w wr ∧ B < wr.heap.size)
  case atStart => exact ⟨0, by omega, rfl, HM.out.congr (fun _ _ _ _ => diag_zero _ _) (fun _ _ _ _ => rfl) (fun _ _ _ _ => rfl) (fun _ _ _ _ => rfl), HB.out, HS⟩
  case round =>
    obtain ⟨x, hx, rfl, hm, hb, hs⟩ := hrel
    have HM1 := Lib.hid hm
    have HB1 := Lib.hid hb
    have HS1 := hs
    cases gk with
    | succ g =>
      have hlt : (x : Int) < (k : Int) := by omega
      have hx8 : (x : Int) < 8 := by omega
      have cu := hm.cu x (by omega)
      have fu := hm.fz (1 + x) (by omega)
      clear hm hb hs
      go_wp2
      go_region
      all_goals go_wp2
      all_goals go_roundg g
      case measure => omega
      case rel =>
        rw [one_mask x (by omega)]
        refine ⟨x + 1, by omega, by go_num, ((HM1.out.setU (show x < 8 by omega) _).congr (fun _ _ _ _ => diag_step _ _ _) (fun _ _ _ _ => rfl) (fun _ _ _ _ => rfl) (fun _ _ _ _ => rfl)).drew, ?_, by simpa [World.setCell] using HS1⟩
        exact (HB1.out.setCell (by simp) _).drew
    | zero =>
      have hge : ¬ ((x : Int) < (k : Int)) := by omega
      obtain rfl : x = k := by omega
      clear hm hb hs
      have HM2 := Lib.hid (HM1.out.congr (fun a b ha hb => diag_rel _ a b ha hb) (fun _ _ _ _ => rfl) (fun _ _ _ _ => rfl) (fun _ _ _ _ => rfl))
      go_wp2
      go_loopg [38] ps.length (fun g i wr => ∃ j : Nat, j + g = ps.length ∧ i = .int .i64 j ∧ okPairs x (ps.take j) = true ∧ Lm wr B x (rel0 x (ps.take j)) (fun _ _ => false) (fun _ _ => 0) (fun _ _ => 0) ∧ Below B w wr ∧ B < wr.heap.size)
      case atStart => exact ⟨0, by omega, rfl, rfl, HM2.out, HB1.out, HS1⟩
      case round =>
        obtain ⟨j, hj, rfl, hok, hm, hb, hs⟩ := hrel
        have HM3 := Lib.hid hm
        have HB3 := Lib.hid hb
        have HS3 := hs
        have HO3 := Lib.hid hok
        clear hok
        cases gk with
        | succ g =>
          have hlt : (j : Int) < (ps.length : Int) := by omega
          obtain ⟨p, hp⟩ : ∃ p, ps[j]? = some p := ⟨_, List.getElem?_eq_getElem (by omega)⟩
          obtain ⟨b, o, rfl, hbl, hcell⟩ := HP.out.2 (by omega)
          obtain ⟨c0, c1, wf0, wf1⟩ := hcell j p hp
          have d0 := (hb.cell (p := ⟨b, o + j * 2, none⟩) hbl).trans c0
          have d1 := (hb.cell (p := ⟨b, o + j * 2 + 1, none⟩) hbl).trans c1
          clear c0 c1 hcell hm hb hs
          obtain ⟨p0, p1⟩ := p
          have HPJ := Lib.hid hp
          clear hp
          simp only at d0 d1 wf0 wf1
          cases hr : (isLb x p0 && isLb x p1) with
          | false =>
            have HR := Lib.hid hr
            have hr2 : p0 < 0 ∨ (x : Int) ≤ p0 ∨ p1 < 0 ∨ (x : Int) ≤ p1 := by
              unfold isLb at hr; simp at hr; omega
            have HR2 := Lib.hid hr2
            clear hr hr2
            go_wp2
            all_goals first
              | (exfalso; have := HR2.out; omega)
              | (go_ret2
                 have h2 : makeE x ps = 2 := by
                   unfold makeE
                   rw [if_neg (by omega), if_pos (okPairs_take HPJ.out HR.out)]
                 exact mk_bad (HB3.out.alloc (by omega) _) HBE.out h2 (by decide))
          | true =>
            obtain ⟨a, e, rfl, rfl, ha, hb⟩ : ∃ a e : Nat, p0 = a ∧ p1 = e ∧ a < x ∧ e < x := by
              unfold isLb at hr; simp at hr
              exact ⟨p0.toNat, p1.toNat, by omega, by omega, by omega, by omega⟩
            have cu := HM3.out.cu a (by omega)
            have fu := HM3.out.fz (1 + a) (by omega)
            clear hr
            go_wp2
            all_goals
              go_region
              go_wp2
              go_roundg g
              case measure => omega
              case rel =>
                rw [pow_mod e (by omega), or1_u8 _ e (by omega)]
                have hsz : B < (wr.setCell ⟨B, 1 + a, none⟩ (.int .u8 (mask (fun i => rel0 x (ps.take j) a i || i == e)))).heap.size := by rw [size_set]; exact HS3
                refine ⟨j + 1, by omega, by go_num, ?_, (Lm.alloc ((HM3.out.setU (show a < 8 by omega) _).congr (fun i b _ _ => ?_) (fun _ _ _ _ => rfl) (fun _ _ _ _ => rfl) (fun _ _ _ _ => rfl)) hsz _).drew, ?_, ?_⟩
                · rw [take_snoc HPJ.out, okPairs_snoc, HO3.out]; unfold isLb; simp; omega
                · rw [rel0_step _ _ _ _ ha hb, take_snoc HPJ.out]
                · exact ((HB3.out.setCell (by simp) _).alloc (by rw [size_set]; omega) _).drew
                · simp [World.setCell]; omega
        | zero =>
          obtain rfl : j = ps.length := by omega
          rw [List.take_length] at HM3 HO3
          have hge2 : ¬ ((ps.length : Int) < (ps.length : Int)) := by omega
          clear hm hb hs
          have CC := Lib.hid (close_any B x (rel0 x ps) _ _ wr h8 (rel0_dom x ps) HM3.out)
          have HL := Lib.hid (fun h => ordOf_lat (n := x) (ps := ps) h1 h)
          go_wp2_with (go_at_call 43; refine CC.out.mono ?_; rintro e w1 ⟨rfl, hm1, hg1⟩)
          have HM4 := Lib.hid hm1
          have HB4 := Lib.hid (below_only HB3.out (Nat.le_refl B) (by omega) hg1)
          have HS4 : B < w1.heap.size := by have := hg1.size; omega
          have CT := Lib.hid (tables_any B x (clo (rel0 x ps) x) w1 h8 (clo_dom (rel0_dom x ps) x) hm1)
          clear hm1 hg1 CC
          cases hlat : isLat x (ordOf x ps) with
          | false =>
            have hlat2 : isLat x (clo (rel0 x ps) x) = false := hlat
            have h16 : makeE x ps = 16 := by
              unfold makeE
              rw [if_neg (by omega), if_neg (by rw [HO3.out]; decide), Int.toNat_natCast, hlat]; rfl
            have H16 := Lib.hid h16
            have HLT := Lib.hid hlat2
            clear h16 hlat hlat2
            go_wp2_with (go_at_call 44; refine CT.out.mono ?_; rintro e w2 ⟨rfl, hg2, _⟩; rw [HLT.out])
            go_ret2
            exact mk_bad (below_only HB4.out (Nat.le_refl B) (by omega) hg2) HBE.out H16.out (by decide)
          | true =>
            have hlat2 : isLat x (clo (rel0 x ps) x) = true := hlat
            have h0 : makeE x ps = 0 := by
              unfold makeE
              rw [if_neg (by omega), if_neg (by rw [HO3.out]; decide), Int.toNat_natCast, hlat]; rfl
            have H0 := Lib.hid h0
            have HLT := Lib.hid hlat2
            have HLA := Lib.hid (HL.out hlat)
            clear h0 hlat hlat2
            go_wp2_with (go_at_call 44; refine CT.out.mono ?_; rintro e w2 ⟨rfl, hg2, hm2⟩; rw [HLT.out])
            go_ret2
            exact mk_good (below_only HB4.out (Nat.le_refl B) (by omega) hg2) HBE.out H0.out ⟨(hm2 HLT.out).latAt, HLA.out, h8, by have := hg2.size; omega⟩
end Go.Proofs.YtppmkehdhpgdcaaGreat
end
section
namespace Go.Proofs.YtppmkehdhpgdcaaGreat
open Go.RowKit P
theorem make_far (n : Int) (A : Option Addr) (l c : Nat) (w : World) (h : n < 1 ∨ 8 < n) :
    Calls Tryz.prog 19 #[.int .i64 n, .slice A l c] w fun e w' => e = .returned (.tuple #[.pointer none, .int .i64 2]) ∧ w = w' := by
  rcases h with h | h
  · go_enter Tryz.func19, Tryz.ntmps19
    go_wp2
    go_ret2
    exact ⟨rfl, rfl⟩
  · have h2 : decide (n < 1) = false := by simp; omega
    go_enter Tryz.func19, Tryz.ntmps19
    go_wp2
    go_ret2
    exact ⟨rfl, rfl⟩
theorem make_long (n : Int) (A : Option Addr) (l c : Nat) (w : World) (h1 : 1 ≤ n) (h2 : n ≤ 8) (hl : 64 < l) :
    Calls Tryz.prog 19 #[.int .i64 n, .slice A l c] w fun e w' => e = .returned (.tuple #[.pointer none, .int .i64 2]) ∧ w = w' := by
  have t3 : decide ((64 : Int) < l) = true := by simp; omega
  go_enter Tryz.func19, Tryz.ntmps19
  go_wp2
  go_ret2
  exact ⟨rfl, rfl⟩
theorem make_any (n : Int) (A : Option Addr) (l c : Nat) (ps : List (Int × Int)) (w : World) (hl : ps.length = l) (hp : Pairs w w.heap.size A ps) :
    Calls Tryz.prog 19 #[.int .i64 n, .slice A l c] w (MakePost w n ps) := by
  subst hl
  rcases makeE_cases n ps with ⟨h, e⟩ | ⟨k, rfl, h1, h8, hl, _⟩
  · by_cases hn : n < 1 ∨ 8 < n
    · exact (make_far n A _ c w hn).mono fun e' w' ⟨he, hw⟩ => by subst he hw; exact mk_bad (Below.refl _ _) rfl e (by decide)
    · exact (make_long n A _ c w (by omega) (by omega) (by omega)).mono fun e' w' ⟨he, hw⟩ => by subst he hw; exact mk_bad (Below.refl _ _) rfl e (by decide)
  · exact make_in k A c ps w hp h1 h8 hl
def lqI (n : Nat) (L : Rel) (a b : Int) : Bool := isL n a && isL n b && L a.toNat b.toNat
def jnI (n : Nat) (L : Rel) (a b : Int) : Int := if isL n a && isL n b then jj n L a.toNat b.toNat else 0
theorem tab_jn {n : Nat} {L : Rel} (h : Lat n L) (a b : Int) : tabR n (tab n (jn n L)) a b = jnI n L a b := by
  unfold tabR jnI
  cases e : (isL n a && isL n b) with
  | false => rfl
  | true =>
    rw [Bool.and_eq_true] at e
    obtain ⟨x, rfl, hx⟩ := isL_true e.1
    obtain ⟨y, rfl, hy⟩ := isL_true e.2
    simp only [if_true, Int.toNat_natCast]
    unfold tab
    rw [if_pos ⟨hx, hy⟩]
    exact (h.jj_spec hx hy).1
theorem tab_range (n : Nat) (L : Rel) (h8 : n ≤ 8) (a b : Nat) : -128 ≤ tab n (jn n L) a b ∧ tab n (jn n L) a b ≤ 127 := by
  unfold tab
  have := jn_range n L a b h8
  split <;> omega
theorem fullFrom_cases (n : Nat) (f : Rel) (k : Nat) : ∀ c, (fullFrom n f k c = 0 ∧ ∀ i, c ≤ i → i < c + k → Lib.onesCount (mask (f i)) ≠ n) ∨
    ∃ d, c ≤ d ∧ d < c + k ∧ fullFrom n f k c = d ∧ Lib.onesCount (mask (f d)) = n := by
  induction k with
  | zero => intro c; exact .inl ⟨rfl, fun i h1 h2 => by omega⟩
  | succ k ih =>
    intro c
    rw [fullFrom]
    by_cases hp : Lib.onesCount (mask (f c)) = n
    · exact .inr ⟨c, by omega, by omega, by rw [if_pos hp], hp⟩
    · rw [if_neg hp]
      rcases ih (c + 1) with ⟨h1, h2⟩ | ⟨d, h1, h2, h3, h4⟩
      · refine .inl ⟨h1, fun i hi hj => ?_⟩
        by_cases e : i = c
        · subst e; exact hp
        · exact h2 i (by omega) (by omega)
      · exact .inr ⟨d, by omega, by omega, h3, h4⟩
theorem full_bot {n : Nat} {L : Rel} (h : Lat n L) (h8 : n ≤ 8) : fullOf n L = bot n L := by
  have hr : ∀ x, (∀ i, n ≤ i → i < 8 → L x i = false) := fun x i hi _ => dom_out2 h.dom hi
  rcases fullFrom_cases n L n 0 with ⟨_, h2⟩ | ⟨d, _, _, h3, h4⟩
  · have hb := h.bot_lt
    exact absurd ((ones (L (bot n L)) n h8 (hr _)).2 fun i hi => h.bot_le i hi) (h2 _ (by omega) (by omega))
  · have := (ones (L d) n h8 (hr _)).1 h4
    exact h3.trans (h.bot_eq this)
theorem LatAt.cells {w w' : World} {b n : Nat} {R : Rel} {J M : Nat → Nat → Int} (h : LatAt w b n R J M) (hc : ∀ o, w'.cell? ⟨b, o, none⟩ = w.cell? ⟨b, o, none⟩) : LatAt w' b n R J M :=
  ⟨(hc _).trans h.cn, fun i hi => (hc _).trans (h.cu i hi), fun i hi => (hc _).trans (h.cd i hi), fun i j hi hj => (hc _).trans (h.cj i j hi hj), fun i j hi hj => (hc _).trans (h.cm i j hi hj)⟩
section
variable {w w' : World} {b n : Nat} {L : Rel}
theorem LatR.below {B : Nat} (h : LatR w b n L) (hb : Below B w w') (hB : b < B) : LatR w' b n L :=
  ⟨h.at_.cells fun o => hb.cell (p := ⟨b, o, none⟩) hB, h.lat, h.le8, Nat.lt_of_lt_of_le h.lt hb.size⟩
theorem LatR.here (h : LatR w b n L) (hb : Below w.heap.size w w') : LatR w' b n L := h.below hb h.lt
theorem LatR.drew (h : LatR w b n L) : LatR w.drew b n L := ⟨h.at_.cells fun _ => rfl, h.lat, h.le8, h.lt⟩
theorem LatR.drewN (h : LatR w b n L) (k : Nat) : LatR (w.drewN k) b n L := ⟨h.at_.cells fun _ => rfl, h.lat, h.le8, h.lt⟩
theorem LatR.alloc (h : LatR w b n L) (o : Obj) : LatR (w.alloc o) b n L := h.here ((Below.refl w.heap.size w).alloc (Nat.le_refl _) o)
theorem LatR.grown (h : LatR w b n L) {row : Option Nat} (hg : w.grownBy w' row) (hr : row ≠ some b) : LatR w' b n L :=
  ⟨h.at_.cells fun _ => World.cell?_of_block (hg.block b h.lt (fun e => hr e.symm)), h.lat, h.le8, Nat.lt_of_lt_of_le h.lt hg.size⟩
theorem leq_r (h : LatR w b n L) (x y : Int) :
    Calls Tryz.prog 32 #[.pointer (some ⟨b, 0, none⟩), .int .i64 x, .int .i64 y] w fun e w' => e = .returned (.bool (lqI n L x y)) ∧ w = w' :=
  leq_any b n L _ _ x y w h.le8 h.at_
theorem join_r (h : LatR w b n L) (x y : Int) :
    Calls Tryz.prog 12 #[.pointer (some ⟨b, 0, none⟩), .int .i64 x, .int .i64 y] w fun e w' => e = .returned (.tuple #[.int .i64 (jnI n L x y), .int .i64 (tabE n x y)]) ∧ w = w' := by
  rw [← tab_jn h.lat]
  exact join_any b n L _ _ x y w h.le8 h.at_ (fun i j _ _ => tab_range n L h.le8 i j) (fun i j _ _ => tab_range n (opp L) h.le8 i j)
theorem bottom_r (h : LatR w b n L) :
    Calls Tryz.prog 66 #[.pointer (some ⟨b, 0, none⟩)] w fun e w' => e = .returned (.int .i64 (bot n L)) ∧ ∃ m, w' = w.drewN m := by
  rw [← full_bot h.lat h.le8]; exact bottom_any b n L _ _ w h.le8 h.at_
end
end Go.Proofs.YtppmkehdhpgdcaaGreat
end
