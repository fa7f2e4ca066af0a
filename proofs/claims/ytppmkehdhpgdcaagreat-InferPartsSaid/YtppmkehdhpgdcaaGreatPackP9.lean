/- Parts of a proof: Ref2, RefClose. -/
import Derived.Test.YtppmkehdhpgdcaaGreatPackP8
section
namespace Go.Proofs.YtppmkehdhpgdcaaGreat
open Go.RowKit P
set_option maxHeartbeats 4000000 in
set_option maxRecDepth 100000 in
theorem rmeet_any (n : Nat) (L : Rel) (a b : Nat) (w : World) (h8 : n ≤ 8) (ha : a < 8) (hb : b < 8) :
    Calls Tryz.prog 46 #[.agg (rv n L), .int .i64 a, .int .i64 b] w fun e w' => e = .returned (.int .i64 (mt n L a b)) ∧ Below w.heap.size w w' := by
  have HM := Lib.hid (Rm.new w n L 36)
  have HB := Lib.hid ((Below.refl w.heap.size w).alloc (Nat.le_refl _) (.cells (rv n L) 36))
  go_enter Tryz.func46, Tryz.ntmps46
  go_wp2
  generalize w.alloc (.cells (rv n L) 36) = W at *
  go_loopg [7] n (fun g i wr => ∃ x : Nat, x + g = n ∧ i = .int .i64 x ∧ wr = W ∧ ∀ c, c < x → isLub n (opp L) a b c = false)
  case atStart => exact ⟨0, by omega, rfl, rfl, fun c hc => absurd hc (by omega)⟩
  case round =>
    obtain ⟨x, hx, rfl, rfl, hno⟩ := hrel
    have HN := Lib.hid hno
    have hn := HM.out.cn
    clear hno
    cases gk with
    | zero =>
      have hge : ¬ ((x : Int) < (n : Int)) := by omega
      go_wp2
      go_ret
      refine ⟨ret_int (k := .i64) ?_, HB.out⟩
      exact (firstN_miss fun c hc => HN.out c (by omega)).symm
    | succ g =>
      have hlt : (x : Int) < (n : Int) := by omega
      have hx8 : (x : Int) < 8 := by omega
      have ha8 : (a : Int) < 8 := by omega
      have hb8 : (b : Int) < 8 := by omega
      have cax := HM.out.cl x a (by omega) ha
      have cbx := HM.out.cl x b (by omega) hb
      cases hax : L x a with
      | false =>
        rw [hax] at cax
        have HNO : Hid (isLub n (opp L) a b x = false) := by unfold isLub opp; rw [hax]; rfl
        clear hax
        go_wp2
        go_roundg g
        case measure => omega
        case rel =>
          refine ⟨x + 1, by omega, by go_num, rfl, fun c hc => ?_⟩
          by_cases e : c = x
          · subst e; exact HNO.out
          · exact HN.out c (by omega)
      | true =>
        rw [hax] at cax
        cases hbx : L x b with
        | false =>
          rw [hbx] at cbx
          have HNO : Hid (isLub n (opp L) a b x = false) := by unfold isLub opp; rw [hax, hbx]; rfl
          clear hax hbx
          go_wp2
          go_roundg g
          case measure => omega
          case rel =>
            refine ⟨x + 1, by omega, by go_num, rfl, fun c hc => ?_⟩
            by_cases e : c = x
            · subst e; exact HNO.out
            · exact HN.out c (by omega)
        | true =>
          rw [hbx] at cbx
          have HLU : Hid (isLub n (opp L) a b x = allN n (fun d => !(L d a && L d b && !L d x))) := by unfold isLub opp; rw [hax, hbx]; rfl
          clear hax hbx
          go_wp2
          obtain ⟨V, hV⟩ : ∃ V : World, V = wr := ⟨_, rfl⟩
          subst hV
          go_loopg [8, 9] n (fun g l i wr => ∃ y : Nat, y + g = n ∧ i = .int .i64 y ∧ wr = V ∧ l = .bool (allN y (fun d => !(L d a && L d b && !L d x))))
          case atStart => exact ⟨0, by omega, rfl, rfl, rfl⟩
          case round =>
            obtain ⟨y, hy, rfl, rfl, rfl⟩ := hrel
            have hn := HM.out.cn
            cases gk with
            | zero =>
              have hge : ¬ ((y : Int) < (n : Int)) := by omega
              obtain rfl : y = n := by omega
              cases hall : allN y (fun d => !(L d a && L d b && !L d x)) with
              | false =>
                have HNO := Lib.hid (HLU.out.trans hall)
                clear hall
                go_wp2
                go_roundg g
                case measure => omega
                case rel =>
                  refine ⟨x + 1, by omega, by go_num, rfl, fun c hc => ?_⟩
                  by_cases e : c = x
                  · subst e; exact HNO.out
                  · exact HN.out c (by omega)
              | true =>
                have HYES := Lib.hid (HLU.out.trans hall)
                clear hall
                go_wp2
                go_ret
                exact ⟨ret_int (k := .i64) (firstN_hit (by omega) HYES.out HN.out).symm, HB.out⟩
            | succ g2 =>
              have hlt2 : (y : Int) < (n : Int) := by omega
              have hy8 : (y : Int) < 8 := by omega
              have cay := HM.out.cl y a (by omega) ha
              have cby := HM.out.cl y b (by omega) hb
              have cxy := HM.out.cl y x (by omega) (by omega)
              have HS := Lib.hid (allN_succ y (fun d => !(L d a && L d b && !L d x)))
              generalize L y a = p at *
              generalize L y b = q at *
              generalize L y x = r at *
              generalize allN y (fun d => !(L d a && L d b && !L d x)) = l at *
              clear cax cbx
              cases p with
              | false =>
                go_wp2
                go_roundg g2
                case measure => omega
                case rel => exact ⟨y + 1, by omega, by go_num, rfl, by rw [HS.out]; simp⟩
              | true =>
                cases q with
                | false =>
                  go_wp2
                  go_roundg g2
                  case measure => omega
                  case rel => exact ⟨y + 1, by omega, by go_num, rfl, by rw [HS.out]; simp⟩
                | true =>
                  cases r with
                  | false =>
                    go_wp2
                    go_roundg g2
                    case measure => omega
                    case rel => exact ⟨y + 1, by omega, by go_num, rfl, by rw [HS.out]; simp⟩
                  | true =>
                    go_wp2
                    go_roundg g2
                    case measure => omega
                    case rel => exact ⟨y + 1, by omega, by go_num, rfl, by rw [HS.out]; simp⟩
theorem wl_rload {ops : Array Oper} {rest : List Oper} {o : Oper} {a : Act} {w : World} {Q : Exit → Act → World → Prop} (x : Operand) (ho : o.op = .load 36 x)
    (hw : Region.wanted o (yielded ops a.tmps) = true) (b n : Nat) (L : Rel) (hx : a.eval x = .pointer (some ⟨b, 0, none⟩)) (hm : Rm w b n L)
    (h : wpList Tryz.prog ops Q rest (a.put o.dst (.agg (rv n L))) w) : wpList Tryz.prog ops Q (o :: rest) a w :=
  wpList_step fun K hK => by
    rw [if_pos hw]
    exact wp_load_mid 36 x ho b 0 hx (rl n L) _ hm.range Tryz.underlying36 rfl (by rw [rl_len]; kernel_rfl) (hK _ _ h)
end Go.Proofs.YtppmkehdhpgdcaaGreat
end
section
namespace Go.Proofs.YtppmkehdhpgdcaaGreat
open Go.RowKit P
def step3 (R : Rel) (a b c : Nat) : Rel := if R a b && R b c then upd2 R a c true else R
theorem step3_iff {R : Rel} {a b c x y : Nat} : step3 R a b c x y = true ↔ R x y = true ∨ (R a b = true ∧ R b c = true ∧ x = a ∧ y = c) := by
  unfold step3
  cases h1 : R a b <;> cases h2 : R b c <;> simp
  unfold upd2
  by_cases e : x = a ∧ y = c
  · obtain ⟨rfl, rfl⟩ := e; simp
  · rw [if_neg e]
    constructor
    · exact fun h => .inl h
    · rintro (h | h)
      · exact h
      · exact absurd h e
theorem step3_sub (R : Rel) (a b c : Nat) : Sub R (step3 R a b c) := fun _ _ h => step3_iff.2 (.inl h)
theorem step3_le {R T : Rel} (a b c : Nat) (h : Sub R T) (hT : Trans T) : Sub (step3 R a b c) T := by
  intro x y hxy
  rcases step3_iff.1 hxy with h1 | ⟨h1, h2, rfl, rfl⟩
  · exact h x y h1
  · exact hT x b y (h x b h1) (h b y h2)
def Done (n : Nat) (R0 R : Rel) (a b c : Nat) : Prop := ∀ x y z, x < n → y < n → z < n → (x < a ∨ (x = a ∧ (y < b ∨ (y = b ∧ z < c)))) → R0 x y = true → R0 y z = true → R x z = true
theorem done_start (n : Nat) (R0 R : Rel) : Done n R0 R 0 0 0 := fun _ _ _ _ _ _ h => by omega
theorem done_step {n : Nat} {R0 R : Rel} {a b c : Nat} (hs : Sub R0 R) (h : Done n R0 R a b c) : Done n R0 (step3 R a b c) a b (c + 1) := by
  intro x y z hx hy hz hlt h1 h2
  by_cases e : x < a ∨ (x = a ∧ (y < b ∨ (y = b ∧ z < c)))
  · exact step3_sub R a b c x z (h x y z hx hy hz e h1 h2)
  · obtain ⟨rfl, rfl, rfl⟩ : x = a ∧ y = b ∧ z = c := by omega
    exact step3_iff.2 (.inr ⟨hs _ _ h1, hs _ _ h2, rfl, rfl⟩)
theorem done_c {n : Nat} {R0 R : Rel} {a b : Nat} (h : Done n R0 R a b n) : Done n R0 R a (b + 1) 0 :=
  fun x y z hx hy hz hlt h1 h2 => h x y z hx hy hz (by omega) h1 h2
theorem done_b {n : Nat} {R0 R : Rel} {a : Nat} (h : Done n R0 R a n 0) : Done n R0 R (a + 1) 0 0 :=
  fun x y z hx hy hz hlt h1 h2 => h x y z hx hy hz (by omega) h1 h2
theorem done_all {n : Nat} {S R0 R : Rel} {k : Nat} (hd : Dom n S) (hs : Sub R0 R) (h : Done n R0 R n 0 0) (hk : Sub (clo S k) R0) : Sub (clo S (k + 1)) R := by
  intro x z hxz
  rcases via_iff.1 hxz with h1 | ⟨h1, h2⟩
  · exact hs _ _ (hk _ _ h1)
  · exact h x k z (clo_dom hd k _ _ h1).1 (clo_dom hd k _ _ h1).2 (clo_dom hd k _ _ h2).2 (.inl (clo_dom hd k _ _ h1).1) (hk _ _ h1) (hk _ _ h2)
theorem rzero (w : World) : (zeroValue 36).run Tryz.prog w = .ok (.agg (rv 0 fun _ _ => false)) w := by kernel_rfl
theorem wl_rstore {ops : Array Oper} {rest : List Oper} {o : Oper} {a : Act} {w : World} {Q : Exit → Act → World → Prop} (x y : Operand) (ho : o.op = .store 36 x y)
    (hw : Region.wanted o (yielded ops a.tmps) = true) (b n : Nat) (L : Rel) (hx : a.eval x = .pointer (some ⟨b, 0, none⟩)) (hy : a.eval y = .agg (rv n L)) (hm : ∃ n' L', Rm w b n' L')
    (h : wpList Tryz.prog ops Q rest (a.put o.dst undef) (w.setCells b 0 (rl n L))) : wpList Tryz.prog ops Q (o :: rest) a w :=
  wpList_step fun K hK => by
    rw [if_pos hw]
    obtain ⟨n', L', hm⟩ := hm
    exact wp_store_mid 36 x y ho b 0 (rv n L) hx hy (by rw [rv_size]; exact hm.there) (by rw [rv_size]; kernel_rfl) (rv_one n L) (hK _ _ h)
theorem results_rcell {fn : Func} {p : Tmp} (h : fn.results = #[.cell p 36]) (tmps : Array Value) (w : World) (g n : Nat) (L : Rel)
    (hp : tmps.getD p undef = .pointer (some ⟨g, 0, none⟩)) (hm : Rm w g n L) : (results fn tmps).run Tryz.prog w = .ok (.agg (rv n L)) w := by
  have hp' : tmps[p]?.getD undef = .pointer (some ⟨g, 0, none⟩) := by simpa using hp
  have hl := run_loadVar_mid (P := Tryz.prog) w g 0 36 (rl n L) _ hm.range Tryz.underlying36 rfl (by rw [rl_len]; kernel_rfl)
  simp [results, h, hp', asAddr, hl, rv]
theorem below_setCells {B : Nat} {u w : World} (h : Below B u w) {b : Nat} (hb : B ≤ b) (vs : List Value) : ∀ o, Below B u (w.setCells b o vs) := by
  induction vs generalizing w with
  | nil => intro o; exact h
  | cons v vs ih => intro o; exact ih (h.setCell (p := ⟨b, o, none⟩) hb v) (o + 1)
theorem Rm.far {w : World} {b n : Nat} {L : Rel} (h : Rm w b n L) {b' : Nat} (hb : b ≠ b') (vs : List Value) : ∀ o, Rm (w.setCells b' o vs) b n L := by
  induction vs generalizing w with
  | nil => intro o; exact h
  | cons v vs ih =>
    intro o
    refine ih (w := w.setCell ⟨b', o, none⟩ v) (h.keep (fun p => World.cell?_setCell_other w _ _ v (fun e => hb (by injection e with e1 _ _; exact e1.symm))) fun p => frozen_set _ _ _ _) (o + 1)
theorem size_setCells (b : Nat) (vs : List Value) : ∀ (o : Nat) (w : World), (w.setCells b o vs).heap.size = w.heap.size := by
  induction vs with
  | nil => intro o w; rfl
  | cons v vs ih => intro o w; exact (ih (o + 1) (w.setCell ⟨b, o, none⟩ v)).trans (size_set _ _ _)
theorem Rm.setCell_far {w : World} {b n : Nat} {L : Rel} (h : Rm w b n L) {p : Addr} (hb : b ≠ p.block) (v : Value) : Rm (w.setCell p v) b n L :=
  h.keep (fun o => World.cell?_setCell_other w _ _ v (fun e => hb (by rw [e]))) fun o => frozen_set _ _ _ _
structure Cl (wr w : World) (n : Nat) (S R0 R : Rel) (k : Nat) : Prop where
  m : Rm wr w.heap.size n R
  b : Below w.heap.size w wr
  m2 : ∃ n' L', Rm wr (w.heap.size + 1) n' L'
  lo : Sub (clo S k) R0
  sub : Sub R0 R
  up : Sub R (clo S n)
theorem Cl.step {wr w : World} {n : Nat} {S R0 R : Rel} {k : Nat} (h : Cl wr w n S R0 R k) (hd : Dom n S) {a b c : Nat} (ha : a < 8) (hc : c < 8) (hab : R a b = true) (hbc : R b c = true) :
    Cl (wr.setCell ⟨w.heap.size, 1 + a * 8 + c, none⟩ (.bool true)) w n S R0 (step3 R a b c) k := by
  refine ⟨?_, h.b.setCell (Nat.le_refl _) _, ?_, h.lo, fun x y hxy => step3_sub _ _ _ _ _ _ (h.sub x y hxy), step3_le _ _ _ h.up (clo_trans hd)⟩
  · have := h.m.set ha hc true
    unfold step3; rw [hab, hbc]; exact this
  · obtain ⟨n', L', h2⟩ := h.m2
    exact ⟨n', L', h2.setCell_far (by simp) _⟩
theorem step3_no {R : Rel} {a b c : Nat} (h : (R a b && R b c) = false) : step3 R a b c = R := by unfold step3; rw [h]; rfl
set_option maxHeartbeats 4000000 in
set_option maxRecDepth 100000 in
theorem rclose_any (n : Nat) (S : Rel) (w : World) (h8 : n ≤ 8) (hd : Dom n S) :
    Calls Tryz.prog 45 #[.agg (rv n S)] w fun e w' => e = .returned (.agg (rv n (clo S n))) ∧ Below w.heap.size w w' := by
  have HD := Lib.hid hd
  clear hd
  have hz := rzero
  have HC0 : Hid (Cl ((w.alloc (.cells (rv n S) 36)).alloc (.cells (rv 0 fun _ _ => false) 36)) w n S S S 0) := by
    refine Lib.hid ⟨(Rm.new w n S 36).below ((Below.refl _ _).alloc (Nat.le_refl _) _) (by simp), ((Below.refl _ _).alloc (Nat.le_refl _) _).alloc (by simp) _, ⟨0, fun _ _ => false, ?_⟩, fun _ _ h => h, fun _ _ h => h, clo_sub S n⟩
    have := Rm.new (w.alloc (.cells (rv n S) 36)) 0 (fun _ _ => false) 36
    simpa using this
  go_enter Tryz.func45, Tryz.ntmps45
  go_wp2
  clear hz
  generalize (w.alloc (.cells (rv n S) 36)).alloc (.cells (rv 0 fun _ _ => false) 36) = W at *
  go_loopg [3] 8 (fun g i wr => ∃ (k : Nat) (R : Rel), k + g = 8 ∧ i = .int .i64 k ∧ Cl wr w n S R R k)
  case atStart => exact ⟨0, S, by omega, rfl, HC0.out⟩
  case round =>
    obtain ⟨k, R0, hk, rfl, hc⟩ := hrel
    have HC1 := Lib.hid hc
    clear hc
    cases gk with
    | zero =>
      obtain rfl : k = 8 := by omega
      have HE := Lib.hid (clo_squeeze h8 HC1.out.lo HC1.out.up)
      go_wp2_with (first | (refine wl_rload _ rfl (by simp [Region.wanted]) w.heap.size n R0 rfl HC1.out.m ?_) | (refine wl_rstore _ _ rfl (by simp [Region.wanted]) (w.heap.size + 1) n R0 rfl rfl HC1.out.m2 ?_))
      obtain ⟨n', L', h2⟩ := HC1.out.m2
      exact bodyPost_ret (results_rcell rfl _ _ (w.heap.size + 1) n R0 rfl (h2.setCells n R0)) rfl ⟨by rw [HE.out], below_setCells HC1.out.b (by omega) _ _⟩
    | succ g =>
      have hlt : (k : Int) < 8 := by omega
      go_wp2
      go_loopg [4] n (fun g i wr => ∃ (a : Nat) (R : Rel), a + g = n ∧ i = .int .i64 a ∧ Cl wr w n S R0 R k ∧ Done n R0 R a 0 0)
      case atStart => exact ⟨0, R0, by omega, rfl, HC1.out, done_start _ _ _⟩
      case round =>
        obtain ⟨a, R, ha, rfl, hc, hdo⟩ := hrel
        have HC2 := Lib.hid hc
        have HD2 := Lib.hid hdo
        have hn := hc.m.cn
        clear hc hdo
        cases gk with
        | zero =>
          have hge : ¬ ((a : Int) < (n : Int)) := by omega
          obtain rfl : a = n := by omega
          go_wp2
          go_roundg g
          case measure => omega
          case rel => exact ⟨k + 1, R, by omega, by go_num, HC2.out.m, HC2.out.b, HC2.out.m2, done_all HD.out HC2.out.sub HD2.out HC2.out.lo, fun _ _ h => h, HC2.out.up⟩
        | succ g2 =>
          have hlt2 : (a : Int) < (n : Int) := by omega
          go_wp2
          clear hn
          obtain ⟨V, hV⟩ : ∃ V : World, V = wr := ⟨_, rfl⟩
          subst hV
          go_loopg [5] n (fun g i wr => ∃ (b : Nat) (R : Rel), b + g = n ∧ i = .int .i64 b ∧ Cl wr w n S R0 R k ∧ Done n R0 R a b 0)
          case atStart => exact ⟨0, R, by omega, rfl, HC2.out, HD2.out⟩
          case round =>
            obtain ⟨b, R, hb, rfl, hc, hdo⟩ := hrel
            have HC3 := Lib.hid hc
            have HD3 := Lib.hid hdo
            have hn := hc.m.cn
            clear hc hdo
            cases gk with
            | zero =>
              have hge : ¬ ((b : Int) < (n : Int)) := by omega
              obtain rfl : b = n := by omega
              go_wp2
              go_roundg g2
              case measure => omega
              case rel => exact ⟨a + 1, R, by omega, by go_num, HC3.out, done_b HD3.out⟩
            | succ g3 =>
              have hlt3 : (b : Int) < (n : Int) := by omega
              go_wp2
              clear hn
              obtain ⟨V, hV⟩ : ∃ V : World, V = wr := ⟨_, rfl⟩
              subst hV
              go_loopg [6] n (fun g i wr => ∃ (c : Nat) (R : Rel), c + g = n ∧ i = .int .i64 c ∧ Cl wr w n S R0 R k ∧ Done n R0 R a b c)
              case atStart => exact ⟨0, R, by omega, rfl, HC3.out, HD3.out⟩
              case round =>
                obtain ⟨c, R, hcc, rfl, hc, hdo⟩ := hrel
                have HC4 := Lib.hid hc
                have HD4 := Lib.hid hdo
                have hn := hc.m.cn
                cases gk with
                | zero =>
                  have hge : ¬ ((c : Int) < (n : Int)) := by omega
                  obtain rfl : c = n := by omega
                  clear hc hdo
                  go_wp2
                  go_roundg g3
                  case measure => omega
                  case rel => exact ⟨b + 1, R, by omega, by go_num, HC4.out, done_c HD4.out⟩
                | succ g4 =>
                  have hlt4 : (c : Int) < (n : Int) := by omega
                  have ha8 : (a : Int) < 8 := by omega
                  have hb8 : (b : Int) < 8 := by omega
                  have hc8 : (c : Int) < 8 := by omega
                  have cab := hc.m.cl a b (by omega) (by omega)
                  have cbc := hc.m.cl b c (by omega) (by omega)
                  have cac := hc.m.cl a c (by omega) (by omega)
                  have fac := hc.m.fz (1 + a * 8 + c)
                  clear hc
                  have HST := Lib.hid (done_step (a := a) (b := b) (c := c) HC4.out.sub HD4.out)
                  clear hdo
                  cases hab : R a b with
                  | false =>
                    rw [hab] at cab
                    have HN := Lib.hid (step3_no (R := R) (a := a) (b := b) (c := c) (by rw [hab]; rfl))
                    clear hab
                    go_wp2
                    go_roundg g4
                    case measure => omega
                    case rel => exact ⟨c + 1, R, by omega, by go_num, HC4.out, by have := HST.out; rwa [HN.out] at this⟩
                  | true =>
                    rw [hab] at cab
                    cases hbc : R b c with
                    | false =>
                      rw [hbc] at cbc
                      have HN := Lib.hid (step3_no (R := R) (a := a) (b := b) (c := c) (by rw [hbc]; simp))
                      clear hab hbc
                      go_wp2
                      go_roundg g4
                      case measure => omega
                      case rel => exact ⟨c + 1, R, by omega, by go_num, HC4.out, by have := HST.out; rwa [HN.out] at this⟩
                    | true =>
                      rw [hbc] at cbc
                      have HNEW := Lib.hid (HC4.out.step HD.out (show a < 8 by omega) (show c < 8 by omega) hab hbc)
                      clear hab hbc
                      go_wp2
                      go_roundg g4
                      case measure => omega
                      case rel => exact ⟨c + 1, _, by omega, by go_num, HNEW.out, HST.out⟩
end Go.Proofs.YtppmkehdhpgdcaaGreat
end
