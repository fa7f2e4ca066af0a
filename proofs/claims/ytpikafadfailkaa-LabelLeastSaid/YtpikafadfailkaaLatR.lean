/- Make, of whatever input; what the readers of a lattice that Make made answer. -/
import Derived.Test.YtpikafadfailkaaLatMake
namespace Go.Proofs.Ytpikafadfailkaa
open Go.RowKit P

theorem make_far (n : Int) (A : Option Addr) (l c : Nat) (w : World) (h : n < 1 ∨ 8 < n) :
    Calls Try.prog 25 #[.int .i64 n, .slice A l c] w fun e w' => e = .returned (.tuple #[.pointer none, .int .i64 2]) ∧ w = w' := by
  rcases h with h | h
  · go_enter Try.func25, Try.ntmps25
    go_wp2
    go_ret2
    exact ⟨rfl, rfl⟩
  · have h2 : decide (n < 1) = false := by simp; omega
    go_enter Try.func25, Try.ntmps25
    go_wp2
    go_ret2
    exact ⟨rfl, rfl⟩
theorem make_long (n : Int) (A : Option Addr) (l c : Nat) (w : World) (h1 : 1 ≤ n) (h2 : n ≤ 8) (hl : 64 < l) :
    Calls Try.prog 25 #[.int .i64 n, .slice A l c] w fun e w' => e = .returned (.tuple #[.pointer none, .int .i64 2]) ∧ w = w' := by
  have t3 : decide ((64 : Int) < l) = true := by simp; omega
  go_enter Try.func25, Try.ntmps25
  go_wp2
  go_ret2
  exact ⟨rfl, rfl⟩
/-- Make, of whatever number and pairs. -/
theorem make_any (n : Int) (A : Option Addr) (l c : Nat) (ps : List (Int × Int)) (w : World) (hl : ps.length = l) (hp : Pairs w w.heap.size A ps) :
    Calls Try.prog 25 #[.int .i64 n, .slice A l c] w (MakePost w n ps) := by
  subst hl
  rcases makeE_cases n ps with ⟨h, e⟩ | ⟨k, rfl, h1, h8, hl, _⟩
  · by_cases hn : n < 1 ∨ 8 < n
    · exact (make_far n A _ c w hn).mono fun e' w' ⟨he, hw⟩ => by subst he hw; exact mk_bad (Below.refl _ _) rfl e (by decide)
    · exact (make_long n A _ c w (by omega) (by omega) (by omega)).mono fun e' w' ⟨he, hw⟩ => by subst he hw; exact mk_bad (Below.refl _ _) rfl e (by decide)
  · exact make_in k A c ps w hp h1 h8 hl

/-- what Leq, Join and Meet answer of any two numbers -/
def lqI (n : Nat) (L : Rel) (a b : Int) : Bool := isL n a && isL n b && L a.toNat b.toNat
def jnI (n : Nat) (L : Rel) (a b : Int) : Int := if isL n a && isL n b then jj n L a.toNat b.toNat else 0
def mtI (n : Nat) (L : Rel) (a b : Int) : Int := if isL n a && isL n b then mm n L a.toNat b.toNat else 0

theorem tab_jn {n : Nat} {L : Rel} (h : Lat n L) (a b : Int) : tabR n (tab n (jn n L)) a b = jnI n L a b := by
  unfold tabR jnI
  cases e : (isL n a && isL n b) with
  | false => rfl
  | true =>
    rw [Bool.and_eq_true] at e
    obtain ⟨x, rfl, hx⟩ := isL_true e.1
    obtain ⟨y, rfl, hy⟩ := isL_true e.2
    simp only [if_true, Int.toNat_natCast]
    unfold tab
    rw [if_pos ⟨hx, hy⟩]
    exact (h.jj_spec hx hy).1
theorem tab_mt {n : Nat} {L : Rel} (h : Lat n L) (a b : Int) : tabR n (tab n (mt n L)) a b = mtI n L a b := tab_jn h.dual a b
theorem tab_range (n : Nat) (L : Rel) (h8 : n ≤ 8) (a b : Nat) : -128 ≤ tab n (jn n L) a b ∧ tab n (jn n L) a b ≤ 127 := by
  unfold tab
  have := jn_range n L a b h8
  split <;> omega

theorem fullFrom_cases (n : Nat) (f : Rel) (k : Nat) : ∀ c, (fullFrom n f k c = 0 ∧ ∀ i, c ≤ i → i < c + k → Lib.onesCount (mask (f i)) ≠ n) ∨
    ∃ d, c ≤ d ∧ d < c + k ∧ fullFrom n f k c = d ∧ Lib.onesCount (mask (f d)) = n := by
  induction k with
  | zero => intro c; exact .inl ⟨rfl, fun i h1 h2 => by omega⟩
  | succ k ih =>
    intro c
    rw [fullFrom]
    by_cases hp : Lib.onesCount (mask (f c)) = n
    · exact .inr ⟨c, by omega, by omega, by rw [if_pos hp], hp⟩
    · rw [if_neg hp]
      rcases ih (c + 1) with ⟨h1, h2⟩ | ⟨d, h1, h2, h3, h4⟩
      · refine .inl ⟨h1, fun i hi hj => ?_⟩
        by_cases e : i = c
        · subst e; exact hp
        · exact h2 i (by omega) (by omega)
      · exact .inr ⟨d, by omega, by omega, h3, h4⟩
theorem full_bot {n : Nat} {L : Rel} (h : Lat n L) (h8 : n ≤ 8) : fullOf n L = bot n L := by
  have hr : ∀ x, (∀ i, n ≤ i → i < 8 → L x i = false) := fun x i hi _ => dom_out2 h.dom hi
  rcases fullFrom_cases n L n 0 with ⟨_, h2⟩ | ⟨d, _, _, h3, h4⟩
  · have hb := h.bot_lt
    exact absurd ((ones (L (bot n L)) n h8 (hr _)).2 fun i hi => h.bot_le i hi) (h2 _ (by omega) (by omega))
  · have := (ones (L d) n h8 (hr _)).1 h4
    exact h3.trans (h.bot_eq this)
theorem full_top {n : Nat} {L : Rel} (h : Lat n L) (h8 : n ≤ 8) : fullOf n (fun a b => L b a) = top n L := full_bot h.dual h8

theorem LatAt.cells {w w' : World} {b n : Nat} {R : Rel} {J M : Nat → Nat → Int} (h : LatAt w b n R J M) (hc : ∀ o, w'.cell? ⟨b, o, none⟩ = w.cell? ⟨b, o, none⟩) : LatAt w' b n R J M :=
  ⟨(hc _).trans h.cn, fun i hi => (hc _).trans (h.cu i hi), fun i hi => (hc _).trans (h.cd i hi), fun i j hi hj => (hc _).trans (h.cj i j hi hj), fun i j hi hj => (hc _).trans (h.cm i j hi hj)⟩

section
variable {w w' : World} {b n : Nat} {L : Rel}
theorem LatR.below {B : Nat} (h : LatR w b n L) (hb : Below B w w') (hB : b < B) : LatR w' b n L :=
  ⟨h.at_.cells fun o => hb.cell (p := ⟨b, o, none⟩) hB, h.lat, h.le8, Nat.lt_of_lt_of_le h.lt hb.size⟩
theorem LatR.here (h : LatR w b n L) (hb : Below w.heap.size w w') : LatR w' b n L := h.below hb h.lt
theorem LatR.drew (h : LatR w b n L) : LatR w.drew b n L := ⟨h.at_.cells fun _ => rfl, h.lat, h.le8, h.lt⟩
theorem LatR.drewN (h : LatR w b n L) (k : Nat) : LatR (w.drewN k) b n L := ⟨h.at_.cells fun _ => rfl, h.lat, h.le8, h.lt⟩
theorem LatR.alloc (h : LatR w b n L) (o : Obj) : LatR (w.alloc o) b n L := h.here ((Below.refl w.heap.size w).alloc (Nat.le_refl _) o)
theorem LatR.grown (h : LatR w b n L) {row : Option Nat} (hg : w.grownBy w' row) (hr : row ≠ some b) : LatR w' b n L :=
  ⟨h.at_.cells fun _ => World.cell?_of_block (hg.block b h.lt (fun e => hr e.symm)), h.lat, h.le8, Nat.lt_of_lt_of_le h.lt hg.size⟩

theorem leq_r (h : LatR w b n L) (x y : Int) :
    Calls Try.prog 22 #[.pointer (some ⟨b, 0, none⟩), .int .i64 x, .int .i64 y] w fun e w' => e = .returned (.bool (lqI n L x y)) ∧ w = w' :=
  leq_any b n L _ _ x y w h.le8 h.at_
theorem join_r (h : LatR w b n L) (x y : Int) :
    Calls Try.prog 19 #[.pointer (some ⟨b, 0, none⟩), .int .i64 x, .int .i64 y] w fun e w' => e = .returned (.tuple #[.int .i64 (jnI n L x y), .int .i64 (tabE n x y)]) ∧ w = w' := by
  rw [← tab_jn h.lat]
  exact join_any b n L _ _ x y w h.le8 h.at_ (fun i j _ _ => tab_range n L h.le8 i j) (fun i j _ _ => tab_range n (opp L) h.le8 i j)
theorem meet_r (h : LatR w b n L) (x y : Int) :
    Calls Try.prog 21 #[.pointer (some ⟨b, 0, none⟩), .int .i64 x, .int .i64 y] w fun e w' => e = .returned (.tuple #[.int .i64 (mtI n L x y), .int .i64 (tabE n x y)]) ∧ w = w' := by
  rw [← tab_mt h.lat]
  exact meet_any b n L _ _ x y w h.le8 h.at_ (fun i j _ _ => tab_range n L h.le8 i j) (fun i j _ _ => tab_range n (opp L) h.le8 i j)
theorem size_r (h : LatR w b n L) :
    Calls Try.prog 30 #[.pointer (some ⟨b, 0, none⟩)] w fun e w' => e = .returned (.int .i64 n) ∧ w = w' := size_any b n w h.at_.cn
theorem bottom_r (h : LatR w b n L) :
    Calls Try.prog 23 #[.pointer (some ⟨b, 0, none⟩)] w fun e w' => e = .returned (.int .i64 (bot n L)) ∧ ∃ m, w' = w.drewN m := by
  rw [← full_bot h.lat h.le8]; exact bottom_any b n L _ _ w h.le8 h.at_
theorem top_r (h : LatR w b n L) :
    Calls Try.prog 24 #[.pointer (some ⟨b, 0, none⟩)] w fun e w' => e = .returned (.int .i64 (top n L)) ∧ ∃ m, w' = w.drewN m := by
  rw [← full_top h.lat h.le8]; exact top_any b n L _ _ w h.le8 h.at_
/-- those below a label, and above one -/
def dnL (n : Nat) (L : Rel) (a : Int) : List Int := nearOf n (fun x => L x a.toNat) a
def upL (n : Nat) (L : Rel) (a : Int) : List Int := nearOf n (L a.toNat) a
theorem below_r (h : LatR w b n L) (x : Int) :
    Calls Try.prog 34 #[.pointer (some ⟨b, 0, none⟩), .int .i64 x] w (ListPost w (dnL n L x)) := below_any b n L _ _ x w h.le8 h.at_
theorem above_r (h : LatR w b n L) (x : Int) :
    Calls Try.prog 36 #[.pointer (some ⟨b, 0, none⟩), .int .i64 x] w (ListPost w (upL n L x)) := above_any b n L _ _ x w h.le8 h.at_
end

end Go.Proofs.Ytpikafadfailkaa
