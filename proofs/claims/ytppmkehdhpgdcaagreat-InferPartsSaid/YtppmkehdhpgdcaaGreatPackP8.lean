/- Parts of a proof: Ref. -/
import Derived.Deep.MidRow
import Derived.Test.YtppmkehdhpgdcaaGreatPackP7
namespace Go.Proofs.YtppmkehdhpgdcaaGreat
open Go.RowKit P
def rl (n : Nat) (L : Rel) : List Value := .int .i64 n :: (List.range 64).map fun i => .bool (L (i / 8) (i % 8))
def rv (n : Nat) (L : Rel) : Array Value := (rl n L).toArray
theorem rl_len (n : Nat) (L : Rel) : (rl n L).length = 65 := by simp [rl]
theorem rv_size (n : Nat) (L : Rel) : (rv n L).size = 65 := by simp [rv, rl]
theorem rl_zero (n : Nat) (L : Rel) : (rl n L)[0]? = some (.int .i64 n) := rfl
theorem rl_at (n : Nat) (L : Rel) (i j : Nat) (hi : i < 8) (hj : j < 8) : (rl n L)[1 + i * 8 + j]? = some (.bool (L i j)) := by
  unfold rl
  rw [show 1 + i * 8 + j = (i * 8 + j) + 1 by omega, List.getElem?_cons_succ, List.getElem?_map, List.getElem?_range (by omega)]
  simp only [Option.map_some, Option.some.injEq, Value.bool.injEq]
  rw [show (i * 8 + j) / 8 = i by omega, show (i * 8 + j) % 8 = j by omega]
theorem rl_one (n : Nat) (L : Rel) : ∀ v ∈ rl n L, v.oneCell' = true := by
  intro v hv
  unfold rl at hv
  rw [List.mem_cons, List.mem_map] at hv
  rcases hv with rfl | ⟨i, _, rfl⟩ <;> rfl
theorem rv_one (n : Nat) (L : Rel) : (rv n L).all (·.oneCell') = true := all_oneCell_toArray (rl_one n L)
structure Rm (w : World) (b n : Nat) (L : Rel) : Prop where
  cn : w.cell? ⟨b, 0, none⟩ = some (.int .i64 n)
  cl : ∀ i j, i < 8 → j < 8 → w.cell? ⟨b, 1 + i * 8 + j, none⟩ = some (.bool (L i j))
  fz : ∀ i, w.frozen? ⟨b, i, none⟩ = false
section
variable {w w' : World} {b n : Nat} {L : Rel}
theorem Rm.range (h : Rm w b n L) : w.rangeAt b 0 (rl n L) := by
  intro j v hv
  have hj : j < 65 := by have := (List.getElem?_eq_some_iff.1 hv).1; rw [rl_len] at this; exact this
  by_cases h0 : j = 0
  · subst h0; rw [rl_zero] at hv; rw [h.cn]; exact hv
  · have e : j = 1 + (j - 1) / 8 * 8 + (j - 1) % 8 := by omega
    rw [e] at hv
    rw [rl_at n L _ _ (by omega) (by omega)] at hv
    rw [← hv, ← h.cl _ _ (show (j - 1) / 8 < 8 by omega) (show (j - 1) % 8 < 8 by omega), Nat.zero_add, ← e]
theorem Rm.of_range (h : w.rangeAt b 0 (rl n L)) (hf : ∀ i, w.frozen? ⟨b, i, none⟩ = false) : Rm w b n L :=
  ⟨by simpa using h 0 _ (rl_zero n L), fun i j hi hj => by simpa using h _ _ (rl_at n L i j hi hj), hf⟩
theorem Rm.there (h : Rm w b n L) : w.there b 0 65 := by
  intro j hj
  refine ⟨?_, h.fz _⟩
  have hv := List.getElem?_eq_getElem (l := rl n L) (i := j) (by rw [rl_len]; exact hj)
  rw [h.range j _ hv]; rfl
theorem Rm.new (w : World) (n : Nat) (L : Rel) (T : TypeId) : Rm (w.alloc (.cells (rv n L) T)) w.heap.size n L :=
  ⟨by rw [cell_new]; simp [rv, rl], fun i j hi hj => by rw [cell_new]; unfold rv; rw [List.getElem?_toArray]; exact rl_at n L i j hi hj, fun i => frozen_new _ _ _ _⟩
theorem Rm.keep (h : Rm w b n L) (hc : ∀ o, w'.cell? ⟨b, o, none⟩ = w.cell? ⟨b, o, none⟩) (hf : ∀ o, w'.frozen? ⟨b, o, none⟩ = w.frozen? ⟨b, o, none⟩) : Rm w' b n L :=
  ⟨(hc _).trans h.cn, fun i j hi hj => (hc _).trans (h.cl i j hi hj), fun i => (hf _).trans (h.fz i)⟩
theorem Rm.below {B : Nat} (h : Rm w b n L) (hb : Below B w w') (hB : b < B) : Rm w' b n L :=
  h.keep (fun o => hb.cell (p := ⟨b, o, none⟩) hB) (fun o => hb.frozen (p := ⟨b, o, none⟩) hB)
theorem Rm.drew (h : Rm w b n L) : Rm w.drew b n L := h.keep (fun _ => rfl) (fun _ => rfl)
theorem Rm.drewN (h : Rm w b n L) (k : Nat) : Rm (w.drewN k) b n L := h.keep (fun _ => rfl) (fun _ => rfl)
theorem Rm.set (h : Rm w b n L) {i j : Nat} (hi : i < 8) (hj : j < 8) (v : Bool) : Rm (w.setCell ⟨b, 1 + i * 8 + j, none⟩ (.bool v)) b n (upd2 L i j v) := by
  refine ⟨?_, fun k l hk hl => ?_, fun k => by rw [frozen_set]; exact h.fz k⟩
  · rw [other_cell _ _ _ _ _ (by omega)]; exact h.cn
  · by_cases e : k = i ∧ l = j
    · obtain ⟨rfl, rfl⟩ := e; rw [same_cell _ _ _ _ _ (h.cl k l hk hl)]; simp [upd2]
    · rw [other_cell _ _ _ _ _ (by omega), h.cl k l hk hl]; simp only [upd2, if_neg e]
theorem Rm.setCells (h : Rm w b n L) (n' : Nat) (L' : Rel) : Rm (w.setCells b 0 (rl n' L')) b n' L' :=
  Rm.of_range (World.rangeAt_setCells_same w b 0 (rl n' L') (by rw [rl_len]; exact h.there)) fun i => by rw [World.frozen?_setCells]; exact h.fz i
theorem Rm.congr {M : Rel} (h : Rm w b n L) (hc : ∀ i j, i < 8 → j < 8 → L i j = M i j) : Rm w b n M :=
  ⟨h.cn, fun i j hi hj => by rw [h.cl i j hi hj, hc i j hi hj], h.fz⟩
end
theorem allN_succ (n : Nat) (p : Nat → Bool) : allN (n + 1) p = (allN n p && p n) := by
  unfold allN; rw [List.range_succ, List.all_append]; simp
set_option maxHeartbeats 4000000 in
set_option maxRecDepth 100000 in
theorem rjoin_any (n : Nat) (L : Rel) (a b : Nat) (w : World) (h8 : n ≤ 8) (ha : a < 8) (hb : b < 8) :
    Calls Tryz.prog 38 #[.agg (rv n L), .int .i64 a, .int .i64 b] w fun e w' => e = .returned (.int .i64 (jn n L a b)) ∧ Below w.heap.size w w' := by
  have HM := Lib.hid (Rm.new w n L 36)
  have HB := Lib.hid ((Below.refl w.heap.size w).alloc (Nat.le_refl _) (.cells (rv n L) 36))
  go_enter Tryz.func38, Tryz.ntmps38
  go_wp2
  generalize w.alloc (.cells (rv n L) 36) = W at *
  go_loopg [7] n (fun g i wr => ∃ x : Nat, x + g = n ∧ i = .int .i64 x ∧ wr = W ∧ ∀ c, c < x → isLub n L a b c = false)
  case atStart => exact ⟨0, by omega, rfl, rfl, fun c hc => absurd hc (by omega)⟩
  case round =>
    obtain ⟨x, hx, rfl, rfl, hno⟩ := hrel
    have HN := Lib.hid hno
    have hn := HM.out.cn
    clear hno
    cases gk with
    | zero =>
      have hge : ¬ ((x : Int) < (n : Int)) := by omega
      go_wp2
      go_ret
      refine ⟨ret_int (k := .i64) ?_, HB.out⟩
      exact (firstN_miss fun c hc => HN.out c (by omega)).symm
    | succ g =>
      have hlt : (x : Int) < (n : Int) := by omega
      have hx8 : (x : Int) < 8 := by omega
      have ha8 : (a : Int) < 8 := by omega
      have hb8 : (b : Int) < 8 := by omega
      have cax := HM.out.cl a x ha (by omega)
      have cbx := HM.out.cl b x hb (by omega)
      cases hax : L a x with
      | false =>
        rw [hax] at cax
        have HNO : Hid (isLub n L a b x = false) := by unfold isLub; rw [hax]; rfl
        clear hax
        go_wp2
        go_roundg g
        case measure => omega
        case rel =>
          refine ⟨x + 1, by omega, by go_num, rfl, fun c hc => ?_⟩
          by_cases e : c = x
          · subst e; exact HNO.out
          · exact HN.out c (by omega)
      | true =>
        rw [hax] at cax
        cases hbx : L b x with
        | false =>
          rw [hbx] at cbx
          have HNO : Hid (isLub n L a b x = false) := by unfold isLub; rw [hax, hbx]; rfl
          clear hax hbx
          go_wp2
          go_roundg g
          case measure => omega
          case rel =>
            refine ⟨x + 1, by omega, by go_num, rfl, fun c hc => ?_⟩
            by_cases e : c = x
            · subst e; exact HNO.out
            · exact HN.out c (by omega)
        | true =>
          rw [hbx] at cbx
          have HLU : Hid (isLub n L a b x = allN n (fun d => !(L a d && L b d && !L x d))) := by unfold isLub; rw [hax, hbx]; rfl
          clear hax hbx
          go_wp2
          obtain ⟨V, hV⟩ : ∃ V : World, V = wr := ⟨_, rfl⟩
          subst hV
          go_loopg [8, 9] n (fun g l i wr => ∃ y : Nat, y + g = n ∧ i = .int .i64 y ∧ wr = V ∧ l = .bool (allN y (fun d => !(L a d && L b d && !L x d))))
          case atStart => exact ⟨0, by omega, rfl, rfl, rfl⟩
          case round =>
            obtain ⟨y, hy, rfl, rfl, rfl⟩ := hrel
            have hn := HM.out.cn
            cases gk with
            | zero =>
              have hge : ¬ ((y : Int) < (n : Int)) := by omega
              obtain rfl : y = n := by omega
              cases hall : allN y (fun d => !(L a d && L b d && !L x d)) with
              | false =>
                have HNO := Lib.hid (HLU.out.trans hall)
                clear hall
                go_wp2
                go_roundg g
                case measure => omega
                case rel =>
                  refine ⟨x + 1, by omega, by go_num, rfl, fun c hc => ?_⟩
                  by_cases e : c = x
                  · subst e; exact HNO.out
                  · exact HN.out c (by omega)
              | true =>
                have HYES := Lib.hid (HLU.out.trans hall)
                clear hall
                go_wp2
                go_ret
                exact ⟨ret_int (k := .i64) (firstN_hit (by omega) HYES.out HN.out).symm, HB.out⟩
            | succ g2 =>
              have hlt2 : (y : Int) < (n : Int) := by omega
              have hy8 : (y : Int) < 8 := by omega
              have cay := HM.out.cl a y ha (by omega)
              have cby := HM.out.cl b y hb (by omega)
              have cxy := HM.out.cl x y (by omega) (by omega)
              have HS := Lib.hid (allN_succ y (fun d => !(L a d && L b d && !L x d)))
              generalize L a y = p at *
              generalize L b y = q at *
              generalize L x y = r at *
              generalize allN y (fun d => !(L a d && L b d && !L x d)) = l at *
              clear cax cbx
              cases p with
              | false =>
                go_wp2
                go_roundg g2
                case measure => omega
                case rel => exact ⟨y + 1, by omega, by go_num, rfl, by rw [HS.out]; simp⟩
              | true =>
                cases q with
                | false =>
                  go_wp2
                  go_roundg g2
                  case measure => omega
                  case rel => exact ⟨y + 1, by omega, by go_num, rfl, by rw [HS.out]; simp⟩
                | true =>
                  cases r with
                  | false =>
                    go_wp2
                    go_roundg g2
                    case measure => omega
                    case rel => exact ⟨y + 1, by omega, by go_num, rfl, by rw [HS.out]; simp⟩
                  | true =>
                    go_wp2
                    go_roundg g2
                    case measure => omega
                    case rel => exact ⟨y + 1, by omega, by go_num, rfl, by rw [HS.out]; simp⟩
end Go.Proofs.YtppmkehdhpgdcaaGreat
