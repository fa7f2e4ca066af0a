/- Parts of a proof: Ref, Lists. -/
import Derived.Deep.MidRow
import Derived.Test.YtpmjcbjdcjjplaaGreatPack34
section
namespace Go.Proofs.YtpmjcbjdcjjplaaGreat
open Go.RowKit P
def rl (n : Nat) (L : Rel) : List Value := .int .i64 n :: (List.range 64).map fun i => .bool (L (i / 8) (i % 8))
def rv (n : Nat) (L : Rel) : Array Value := (rl n L).toArray
theorem rl_len (n : Nat) (L : Rel) : (rl n L).length = 65 := by simp [rl]
theorem rl_zero (n : Nat) (L : Rel) : (rl n L)[0]? = some (.int .i64 n) := rfl
theorem rl_at (n : Nat) (L : Rel) (i j : Nat) (hi : i < 8) (hj : j < 8) : (rl n L)[1 + i * 8 + j]? = some (.bool (L i j)) := by
  unfold rl
  rw [show 1 + i * 8 + j = (i * 8 + j) + 1 by omega, List.getElem?_cons_succ, List.getElem?_map, List.getElem?_range (by omega)]
  simp only [Option.map_some, Option.some.injEq, Value.bool.injEq]
  rw [show (i * 8 + j) / 8 = i by omega, show (i * 8 + j) % 8 = j by omega]
structure Rm (w : World) (b n : Nat) (L : Rel) : Prop where
  cn : w.cell? ⟨b, 0, none⟩ = some (.int .i64 n)
  cl : ∀ i j, i < 8 → j < 8 → w.cell? ⟨b, 1 + i * 8 + j, none⟩ = some (.bool (L i j))
  fz : ∀ i, w.frozen? ⟨b, i, none⟩ = false
section
variable {w w' : World} {b n : Nat} {L : Rel}
theorem Rm.range (h : Rm w b n L) : w.rangeAt b 0 (rl n L) := by
  intro j v hv
  have hj : j < 65 := by have := (List.getElem?_eq_some_iff.1 hv).1; rw [rl_len] at this; exact this
  by_cases h0 : j = 0
  · subst h0; rw [rl_zero] at hv; rw [h.cn]; exact hv
  · have e : j = 1 + (j - 1) / 8 * 8 + (j - 1) % 8 := by omega
    rw [e] at hv
    rw [rl_at n L _ _ (by omega) (by omega)] at hv
    rw [← hv, ← h.cl _ _ (show (j - 1) / 8 < 8 by omega) (show (j - 1) % 8 < 8 by omega), Nat.zero_add, ← e]
theorem Rm.of_range (h : w.rangeAt b 0 (rl n L)) (hf : ∀ i, w.frozen? ⟨b, i, none⟩ = false) : Rm w b n L :=
  ⟨by simpa using h 0 _ (rl_zero n L), fun i j hi hj => by simpa using h _ _ (rl_at n L i j hi hj), hf⟩
theorem Rm.there (h : Rm w b n L) : w.there b 0 65 := by
  intro j hj
  refine ⟨?_, h.fz _⟩
  have hv := List.getElem?_eq_getElem (l := rl n L) (i := j) (by rw [rl_len]; exact hj)
  rw [h.range j _ hv]; rfl
theorem Rm.new (w : World) (n : Nat) (L : Rel) (T : TypeId) : Rm (w.alloc (.cells (rv n L) T)) w.heap.size n L :=
  ⟨by rw [cell_new]; simp [rv, rl], fun i j hi hj => by rw [cell_new]; unfold rv; rw [List.getElem?_toArray]; exact rl_at n L i j hi hj, fun i => frozen_new _ _ _ _⟩
theorem Rm.keep (h : Rm w b n L) (hc : ∀ o, w'.cell? ⟨b, o, none⟩ = w.cell? ⟨b, o, none⟩) (hf : ∀ o, w'.frozen? ⟨b, o, none⟩ = w.frozen? ⟨b, o, none⟩) : Rm w' b n L :=
  ⟨(hc _).trans h.cn, fun i j hi hj => (hc _).trans (h.cl i j hi hj), fun i => (hf _).trans (h.fz i)⟩
theorem Rm.below {B : Nat} (h : Rm w b n L) (hb : Below B w w') (hB : b < B) : Rm w' b n L :=
  h.keep (fun o => hb.cell (p := ⟨b, o, none⟩) hB) (fun o => hb.frozen (p := ⟨b, o, none⟩) hB)
theorem Rm.drew (h : Rm w b n L) : Rm w.drew b n L := h.keep (fun _ => rfl) (fun _ => rfl)
theorem Rm.drewN (h : Rm w b n L) (k : Nat) : Rm (w.drewN k) b n L := h.keep (fun _ => rfl) (fun _ => rfl)
theorem Rm.set (h : Rm w b n L) {i j : Nat} (hi : i < 8) (hj : j < 8) (v : Bool) : Rm (w.setCell ⟨b, 1 + i * 8 + j, none⟩ (.bool v)) b n (upd2 L i j v) := by
  refine ⟨?_, fun k l hk hl => ?_, fun k => by rw [frozen_set]; exact h.fz k⟩
  · rw [other_cell _ _ _ _ _ (by omega)]; exact h.cn
  · by_cases e : k = i ∧ l = j
    · obtain ⟨rfl, rfl⟩ := e; rw [same_cell _ _ _ _ _ (h.cl k l hk hl)]; simp [upd2]
    · rw [other_cell _ _ _ _ _ (by omega), h.cl k l hk hl]; simp only [upd2, if_neg e]
theorem Rm.setCells (h : Rm w b n L) (n' : Nat) (L' : Rel) : Rm (w.setCells b 0 (rl n' L')) b n' L' :=
  Rm.of_range (World.rangeAt_setCells_same w b 0 (rl n' L') (by rw [rl_len]; exact h.there)) fun i => by rw [World.frozen?_setCells]; exact h.fz i
theorem Rm.congr {M : Rel} (h : Rm w b n L) (hc : ∀ i j, i < 8 → j < 8 → L i j = M i j) : Rm w b n M :=
  ⟨h.cn, fun i j hi hj => by rw [h.cl i j hi hj, hc i j hi hj], h.fz⟩
end
end Go.Proofs.YtpmjcbjdcjjplaaGreat
end
section
namespace Go.Proofs.YtpmjcbjdcjjplaaGreat
open Go.RowKit P
def IntsAt (w : World) (B : Nat) (v : Value) (l : List Int) : Prop :=
  l.length ≤ 9223372036854775807 ∧ ∃ A c, v = .slice A l.length c ∧ (0 < l.length → ∃ b o, A = some ⟨b, o, none⟩ ∧ b < B ∧ ∀ (i : Nat) x, l[i]? = some x → w.cell? ⟨b, o + i, none⟩ = some (.int .i64 x))
section
variable {w w' : World} {B : Nat} {v : Value} {l : List Int}
theorem IntsAt.keep (h : IntsAt w B v l) (hc : ∀ p : Addr, p.block < B → w'.cell? p = w.cell? p) : IntsAt w' B v l := by
  obtain ⟨h0, A, c, rfl, h1⟩ := h
  refine ⟨h0, A, c, rfl, fun hp => ?_⟩
  obtain ⟨b, o, rfl, hb, h2⟩ := h1 hp
  exact ⟨b, o, rfl, hb, fun i x hx => (hc ⟨b, o + i, none⟩ hb).trans (h2 i x hx)⟩
theorem IntsAt.below (h : IntsAt w B v l) (hb : Below B w w') : IntsAt w' B v l := h.keep fun _ hp => hb.cell hp
theorem IntsAt.drewN (h : IntsAt w B v l) (k : Nat) : IntsAt (w.drewN k) B v l := h
theorem IntsAt.more {B' : Nat} (h : IntsAt w B v l) (hB : B ≤ B') : IntsAt w B' v l := by
  obtain ⟨h0, A, c, rfl, h1⟩ := h
  refine ⟨h0, A, c, rfl, fun hp => ?_⟩
  obtain ⟨b, o, rfl, hb, h2⟩ := h1 hp
  exact ⟨b, o, rfl, by omega, h2⟩
theorem OwnInts.mono {base base' : Nat} (h : OwnInts w base v l) (hb : base' ≤ base) : OwnInts w base' v l := by
  refine ⟨h.1, ?_⟩
  rcases h.2 with h1 | ⟨g, cap, cur, h1, h2, h3⟩
  · exact .inl h1
  · exact .inr ⟨g, cap, cur, h1, by omega, h3⟩
end
set_option maxHeartbeats 1000000 in
theorem same_any (u v : Value) (a b : List Int) (B : Nat) (w : World) (ha : IntsAt w B u a) (hb : IntsAt w B v b) :
    Calls Tryz.prog 10 #[u, v] w fun e w' => e = .returned (.bool (a == b)) ∧ ∃ m, w' = w.drewN m := by
  obtain ⟨la, A, ca, rfl, ha⟩ := ha
  obtain ⟨lb, D, cb, rfl, hb⟩ := hb
  by_cases hlen : a.length = b.length
  · have h1 : ((a.length : Int) != (b.length : Int)) = false := by simp [hlen]
    have HA := Lib.hid ha
    have HB := Lib.hid hb
    have HL := Lib.hid hlen
    clear ha hb
    have hlen2 : a.length ≤ b.length ∧ b.length ≤ a.length := by omega
    obtain ⟨hl1, hl2⟩ := hlen2
    clear hlen
    go_enter Tryz.func10, Tryz.ntmps10
    go_wp2
    go_loopg [5] a.length (fun g i wr => ∃ k m : Nat, k + g = a.length ∧ i = .int .i64 k ∧ wr = w.drewN m ∧ a.take k = b.take k)
    case atStart => exact ⟨0, 0, by omega, rfl, rfl, rfl⟩
    case round =>
      obtain ⟨k, m, hk, rfl, rfl, heq⟩ := hrel
      have HEQ := Lib.hid heq
      clear heq
      cases gk with
      | zero =>
        have hge : ¬ ((k : Int) < (a.length : Int)) := by omega
        go_wp2
        go_ret
        refine ⟨ret_bool ?_, _, rfl⟩
        have := HEQ.out
        rw [List.take_of_length_le (by omega), List.take_of_length_le (by omega)] at this
        rw [this]; simp
      | succ g =>
        have hlt : (k : Int) < (a.length : Int) := by omega
        have hlt2 : (k : Int) < (b.length : Int) := by omega
        obtain ⟨b1, o1, rfl, _, c1⟩ := HA.out (by omega)
        obtain ⟨b2, o2, rfl, _, c2⟩ := HB.out (by omega)
        obtain ⟨x, e1⟩ : ∃ x, a[k]? = some x := ⟨_, List.getElem?_eq_getElem (by omega)⟩
        obtain ⟨y, e2⟩ : ∃ y, b[k]? = some y := ⟨_, List.getElem?_eq_getElem (by omega)⟩
        have d1 := c1 k _ e1
        have d2 := c2 k _ e2
        have T1 := Lib.hid (take_snoc e1)
        have T2 := Lib.hid (take_snoc e2)
        have HNE : Hid (x ≠ y → (a == b) = false) := by
          refine Lib.hid fun h => beq_eq_false_iff_ne.2 fun e => h ?_
          rw [e] at e1
          rw [e1] at e2
          exact Option.some.inj e2
        clear c1 c2 e1 e2
        by_cases hxy : x = y
        · subst hxy
          go_wp2
          go_quiet (fail)
          go_wp2
          go_roundg g
          case measure => omega
          case rel => exact ⟨k + 1, _, by omega, by go_num, rfl, by rw [T1.out, T2.out, HEQ.out]⟩
        · have hn : (x != y) = true := by simpa using hxy
          have HF := Lib.hid (HNE.out hxy)
          go_wp2
          go_quiet (fail)
          go_wp2
          go_ret
          exact ⟨ret_bool HF.out.symm, _, World.drewN_drewN _ _ _⟩
  · have h1 : ((a.length : Int) != (b.length : Int)) = true := by simp; omega
    have hE : (a == b) = false := beq_eq_false_iff_ne.2 fun e => hlen (by rw [e])
    have HE := Lib.hid hE
    clear ha hb hlen hE
    go_enter Tryz.func10, Tryz.ntmps10
    go_wp2
    go_ret
    exact ⟨ret_bool HE.out.symm, 0, rfl⟩
end Go.Proofs.YtpmjcbjdcjjplaaGreat
end
