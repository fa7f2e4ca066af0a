/- Parts of a proof: Lists, Label. -/
import Derived.Test.YtppmkehdhpgdcaaGreatPackP9
section
namespace Go.Proofs.YtppmkehdhpgdcaaGreat
open Go.RowKit P
def IntsAt (w : World) (B : Nat) (v : Value) (l : List Int) : Prop :=
  l.length ≤ 9223372036854775807 ∧ ∃ A c, v = .slice A l.length c ∧ (0 < l.length → ∃ b o, A = some ⟨b, o, none⟩ ∧ b < B ∧ ∀ (i : Nat) x, l[i]? = some x → w.cell? ⟨b, o + i, none⟩ = some (.int .i64 x))
section
variable {w w' : World} {B : Nat} {v : Value} {l : List Int}
theorem IntsAt.keep (h : IntsAt w B v l) (hc : ∀ p : Addr, p.block < B → w'.cell? p = w.cell? p) : IntsAt w' B v l := by
  obtain ⟨h0, A, c, rfl, h1⟩ := h
  refine ⟨h0, A, c, rfl, fun hp => ?_⟩
  obtain ⟨b, o, rfl, hb, h2⟩ := h1 hp
  exact ⟨b, o, rfl, hb, fun i x hx => (hc ⟨b, o + i, none⟩ hb).trans (h2 i x hx)⟩
theorem IntsAt.below (h : IntsAt w B v l) (hb : Below B w w') : IntsAt w' B v l := h.keep fun _ hp => hb.cell hp
theorem IntsAt.drewN (h : IntsAt w B v l) (k : Nat) : IntsAt (w.drewN k) B v l := h
theorem IntsAt.more {B' : Nat} (h : IntsAt w B v l) (hB : B ≤ B') : IntsAt w B' v l := by
  obtain ⟨h0, A, c, rfl, h1⟩ := h
  refine ⟨h0, A, c, rfl, fun hp => ?_⟩
  obtain ⟨b, o, rfl, hb, h2⟩ := h1 hp
  exact ⟨b, o, rfl, by omega, h2⟩
theorem IntsAt.of_own {base : Nat} (h : OwnInts w base v l) (hl : l.length ≤ 9223372036854775807) : IntsAt w w.heap.size v l := by
  refine ⟨hl, ?_⟩
  rcases Nat.eq_zero_or_pos l.length with h0 | h0
  · have hl0 : l = [] := List.eq_nil_of_length_eq_zero h0
    subst hl0
    rcases h.2 with ⟨rfl, _⟩ | ⟨g, cap, cur, rfl, _⟩
    · exact ⟨none, 0, rfl, fun h => absurd h (by simp)⟩
    · exact ⟨_, cap, rfl, fun h => absurd h (by simp)⟩
  · rcases h.2 with ⟨_, h1⟩ | ⟨g, cap, cur, hv, _, hg, _⟩
    · omega
    · have hlt : g < w.heap.size := by
        rcases Nat.lt_or_ge g w.heap.size with h2 | h2
        · exact h2
        · rw [Array.getElem?_eq_none h2] at hg; cases hg
      refine ⟨some ⟨g, 0, none⟩, cap, hv, fun _ => ⟨g, 0, rfl, hlt, fun i x hx => ?_⟩⟩
      have := World.ownsRow.cells h (g := g) (by rw [hv]; rfl) i (.int .i64 x) (by simp [ints, hx])
      rw [Addr.add_mid] at this; exact this
theorem OwnInts.mono {base base' : Nat} (h : OwnInts w base v l) (hb : base' ≤ base) : OwnInts w base' v l := by
  refine ⟨h.1, ?_⟩
  rcases h.2 with h1 | ⟨g, cap, cur, h1, h2, h3⟩
  · exact .inl h1
  · exact .inr ⟨g, cap, cur, h1, by omega, h3⟩
end
end Go.Proofs.YtppmkehdhpgdcaaGreat
end
section
namespace Go.Proofs.YtppmkehdhpgdcaaGreat
open Go.RowKit P
def allL (n : Nat) (l : List Int) : Bool := l.all (isL n)
def foldJ (n : Nat) (L : Rel) (x : Nat) (l : List Int) : Nat := l.foldl (fun x a => jj n L x a.toNat) x
theorem foldJ_snoc (n : Nat) (L : Rel) (x : Nat) (l : List Int) (a : Int) : foldJ n L x (l ++ [a]) = jj n L (foldJ n L x l) a.toNat := by simp [foldJ, List.foldl_append]
theorem foldJ_lt {n : Nat} {L : Rel} (h : Lat n L) : ∀ (l : List Int) (x : Nat), x < n → allL n l = true → foldJ n L x l < n
  | [], x, hx, _ => hx
  | a :: l, x, hx, ha => by
    simp only [allL, List.all_cons, Bool.and_eq_true] at ha
    obtain ⟨y, rfl, hy⟩ := isL_true ha.1
    exact foldJ_lt h l _ (h.jj_lt hx (by simpa using hy)) ha.2
theorem allL_take {n : Nat} {l : List Int} {i : Nat} {a : Int} (h : l[i]? = some a) (h1 : allL n (l.take i) = true) : allL n (l.take (i + 1)) = isL n a := by
  rw [take_snoc h]; unfold allL at *; rw [List.all_append, h1]; simp
theorem allL_no {n : Nat} {l : List Int} {i : Nat} {a : Int} (h : l[i]? = some a) (h1 : isL n a = false) : allL n l = false := by
  cases e : allL n l with
  | false => rfl
  | true => unfold allL at e; rw [List.all_eq_true] at e; rw [e a (List.mem_of_getElem? h)] at h1; cases h1
def foldV (n : Nat) (L : Rel) (x : Nat) (l : List Int) : Value := if allL n l then .tuple #[.int .i64 (foldJ n L x l), .int .i64 0] else .tuple #[.int .i64 0, .int .i64 3]
theorem foldV_yes {n : Nat} {L : Rel} {x : Nat} {l : List Int} (h : allL n l = true) : foldV n L x l = .tuple #[.int .i64 (foldJ n L x l), .int .i64 0] := by unfold foldV; rw [if_pos h]
theorem foldV_no {n : Nat} {L : Rel} {x : Nat} {l : List Int} (h : allL n l = false) : foldV n L x l = .tuple #[.int .i64 0, .int .i64 3] := by unfold foldV; rw [h]; rfl
set_option maxHeartbeats 1000000 in
theorem fold_join (b n : Nat) (L : Rel) (x : Nat) (v : Value) (l : List Int) (B : Nat) (w : World) (hx : x < n) (hlat : LatR w b n L) (hl : IntsAt w B v l) :
    Calls Tryz.prog 65 #[.pointer (some ⟨b, 0, none⟩), .int .i64 x, v, .func (.func 12) #[.pointer (some ⟨b, 0, none⟩)] #[]] w fun e w' => e = .returned (foldV n L x l) ∧ w = w' := by
  obtain ⟨hlen, A, c, rfl, hcell⟩ := hl
  have HC := Lib.hid hcell
  have HL := Lib.hid hlat
  clear hcell hlat
  go_enter Tryz.func65, Tryz.ntmps65
  go_wp2
  go_loopg [1, 16] l.length (fun g y i wr => ∃ k : Nat, k + g = l.length ∧ i = .int .i64 k ∧ y = .int .i64 (foldJ n L x (l.take k)) ∧ allL n (l.take k) = true ∧ wr = w)
  case atStart => exact ⟨0, by omega, rfl, rfl, rfl, rfl⟩
  case round =>
    obtain ⟨k, hk, rfl, rfl, hall, rfl⟩ := hrel
    have HA := Lib.hid hall
    cases gk with
    | zero =>
      have hge : ¬ ((k : Int) < (l.length : Int)) := by omega
      clear hall
      have HV : Hid (foldV n L x l = .tuple #[.int .i64 (foldJ n L x (l.take k)), .int .i64 0]) := by
        refine Lib.hid ?_
        have h1 := HA.out
        rw [List.take_of_length_le (by omega)] at h1 ⊢
        exact foldV_yes h1
      go_wp2
      go_ret2
      exact ⟨by rw [HV.out]; rfl, rfl⟩
    | succ g =>
      have hlt : (k : Int) < (l.length : Int) := by omega
      obtain ⟨a, ha⟩ : ∃ a, l[k]? = some a := ⟨_, List.getElem?_eq_getElem (by omega)⟩
      obtain ⟨bb, o, rfl, _, hc⟩ := HC.out (by omega)
      have d := hc k a ha
      have HT := Lib.hid (take_snoc ha)
      have HAN := Lib.hid (allL_take ha hall)
      have HNO := Lib.hid (fun h => foldV_no (L := L) (x := x) (allL_no (n := n) ha h))
      have HF := Lib.hid (foldJ_lt HL.out.lat _ x hx hall)
      clear hc ha hall
      cases hla : isL n a with
      | false =>
        have q1 : tabE n (foldJ n L x (l.take k) : Nat) a = 3 := by unfold tabE; rw [hla]; simp
        have HV := Lib.hid (HNO.out hla)
        clear hla
        go_wp2_with (go_at_call 12; refine (join_r HL.out _ _).mono ?_; rintro e w' ⟨rfl, rfl⟩)
        go_ret2
        exact ⟨by rw [HV.out]; rfl, rfl⟩
      | true =>
        have HLA := Lib.hid hla
        obtain ⟨y, rfl, hy⟩ := isL_true hla
        have q1 : tabE n (foldJ n L x (l.take k) : Nat) y = 0 := by unfold tabE; rw [hla, isL_nat HF.out]; rfl
        have q2 : jnI n L (foldJ n L x (l.take k) : Nat) y = jj n L (foldJ n L x (l.take k)) y := by unfold jnI; rw [isL_nat HF.out, isL_nat hy]; simp
        clear hla
        go_wp2_with (go_at_call 12; refine (join_r HL.out _ _).mono ?_; rintro e w' ⟨rfl, rfl⟩)
        go_roundg g
        case measure => omega
        case rel => exact ⟨k + 1, by omega, by go_num, by rw [HT.out, foldJ_snoc]; rfl, by rw [HAN.out]; exact HLA.out, rfl⟩
theorem foldV_two (n : Nat) (L : Rel) (x : Nat) (l : List Int) : ∃ u v : Int, foldV n L x l = .tuple #[.int .i64 u, .int .i64 v] := by
  unfold foldV; split
  · exact ⟨_, _, rfl⟩
  · exact ⟨_, _, rfl⟩
theorem joinAll_r (b n : Nat) (L : Rel) (v : Value) (l : List Int) (B : Nat) (w : World) (hlat : LatR w b n L) (hl : IntsAt w B v l) :
    Calls Tryz.prog 33 #[.pointer (some ⟨b, 0, none⟩), v] w fun e w' => e = .returned (foldV n L (bot n L) l) ∧ ∃ m, w' = w.drewN m := by
  have HL := Lib.hid hlat
  have HI := Lib.hid hl
  obtain ⟨u, t, huv⟩ := foldV_two n L (bot n L) l
  have HUV := Lib.hid huv
  clear hlat hl huv
  go_enter Tryz.func33, Tryz.ntmps33
  go_wp2_with (first | (go_at_call 66; refine (bottom_r HL.out).mono ?_; rintro e w' ⟨rfl, m, rfl⟩) | (go_at_call 65; refine (fold_join b n L (bot n L) v l B _ HL.out.lat.bot_lt (HL.out.drewN _) (HI.out.drewN _)).mono ?_; rintro e w' ⟨rfl, rfl⟩; rw [HUV.out]))
  go_ret2
  exact ⟨by rw [HUV.out]; rfl, _, rfl⟩
end Go.Proofs.YtppmkehdhpgdcaaGreat
end
