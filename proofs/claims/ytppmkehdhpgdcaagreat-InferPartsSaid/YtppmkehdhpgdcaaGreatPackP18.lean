/- Parts of a proof: Both1, Both1b, Both11. -/
import Derived.Test.YtppmkehdhpgdcaaGreatPackP11
import Derived.Test.YtppmkehdhpgdcaaGreatPackP12
import Derived.Test.YtppmkehdhpgdcaaGreatPackP15
import Derived.Test.YtppmkehdhpgdcaaGreatPackP16
import Derived.Test.YtppmkehdhpgdcaaGreatPackP17
section
namespace Go.Proofs.YtppmkehdhpgdcaaGreat
open Go.RowKit P
theorem info_pair : (Tryz.prog.info? 59).map (fun i => (i.zero, i.size, i.bytes)) = some (some (.agg #[.int .i64 0, .int .i64 0]), 2, 16) := by kernel_rfl
theorem pcells_len : ∀ ps : List (Int × Int), (pcells ps).length = ps.length * 2
  | [] => rfl
  | p :: ps => by simp only [pcells, List.length_cons, pcells_len ps]; omega
theorem pcells_one : ∀ (ps : List (Int × Int)) (u : Value), u ∈ pcells ps → u.oneCell' = true
  | [], u, h => by simp [pcells] at h
  | p :: ps, u, h => by
    simp only [pcells, List.mem_cons] at h
    rcases h with rfl | rfl | h
    · rfl
    · rfl
    · exact pcells_one ps u h
theorem pcells_even : ∀ (ps : List (Int × Int)) (j : Nat) (u : Value), (pcells ps)[j]? = some u → ∃ p, ps[j / 2]? = some p ∧ ((j % 2 = 0 ∧ u = .int .i64 p.1) ∨ (j % 2 = 1 ∧ u = .int .i64 p.2))
  | [], j, u, h => by simp [pcells] at h
  | p :: ps, 0, u, h => by simp [pcells] at h; exact ⟨p, rfl, .inl ⟨rfl, h.symm⟩⟩
  | p :: ps, 1, u, h => by simp [pcells] at h; exact ⟨p, rfl, .inr ⟨rfl, h.symm⟩⟩
  | p :: ps, j + 2, u, h => by
    obtain ⟨q, h1, h2⟩ := pcells_even ps j u (by simpa [pcells] using h)
    refine ⟨q, by rw [show (j + 2) / 2 = j / 2 + 1 by omega]; simpa using h1, ?_⟩
    rw [show (j + 2) % 2 = j % 2 by omega]
    exact h2
theorem Pairs.src {w : World} {B : Nat} {A : Option Addr} {ps : List (Int × Int)} (h : Pairs w B A ps) (hp : 0 < ps.length) : ∃ ad, A = some ad ∧ ∀ (j : Nat) u, (pcells ps)[j]? = some u → w.cell? (ad.add j) = some u := by
  obtain ⟨b, o, rfl, _, hc⟩ := h.2 hp
  refine ⟨_, rfl, fun j u hu => ?_⟩
  rw [Addr.add_mid]
  obtain ⟨p, hp, hcase⟩ := pcells_even ps j u hu
  obtain ⟨c0, c1, _⟩ := hc _ p hp
  rcases hcase with ⟨h1, rfl⟩ | ⟨h1, rfl⟩
  · rw [show o + j = o + j / 2 * 2 by omega]; exact c0
  · rw [show o + j = o + j / 2 * 2 + 1 by omega]; exact c1
theorem Pairs.ok {w : World} {B : Nat} {A : Option Addr} {ps : List (Int × Int)} (h : Pairs w B A ps) : okPs ps := by
  intro p hp
  obtain ⟨i, hi⟩ := List.mem_iff_getElem?.1 hp
  have hl : 0 < ps.length := by have := (List.getElem?_eq_some_iff.1 hi).1; omega
  obtain ⟨b, o, _, _, hc⟩ := h.2 hl
  exact ⟨(hc i p hi).2.2.1, (hc i p hi).2.2.2⟩
theorem Pairs.below {w w' : World} {B : Nat} {A : Option Addr} {ps : List (Int × Int)} (h : Pairs w B A ps) (hb : Below B w w') : Pairs w' B A ps := by
  refine ⟨h.1, fun hl => ?_⟩
  obtain ⟨b, o, rfl, hlt, hc⟩ := h.2 hl
  refine ⟨b, o, rfl, hlt, fun i p hp => ?_⟩
  obtain ⟨c0, c1, c2⟩ := hc i p hp
  exact ⟨(hb.cell (p := ⟨b, o + i * 2, none⟩) hlt).trans c0, (hb.cell (p := ⟨b, o + i * 2 + 1, none⟩) hlt).trans c1, c2⟩
theorem Pairs.more {w : World} {B B' : Nat} {A : Option Addr} {ps : List (Int × Int)} (h : Pairs w B A ps) (hB : B ≤ B') : Pairs w B' A ps := by
  refine ⟨h.1, fun hl => ?_⟩
  obtain ⟨b, o, rfl, hlt, hc⟩ := h.2 hl
  exact ⟨b, o, rfl, by omega, hc⟩
theorem Pairs.of_own {w : World} {base n : Nat} {v : Value} {ps : List (Int × Int)} (hn : ps.length = n) (h : w.ownsRow base 59 2 v n (pcells ps)) (hw : okPs ps) (hl : ps.length ≤ 9223372036854775807) :
    ∃ A c, v = .slice A n c ∧ Pairs w w.heap.size A ps := by
  subst hn
  rcases h.2 with ⟨rfl, h0⟩ | ⟨g, cap, cur, rfl, _, hg, _⟩
  · exact ⟨none, 0, by rw [h0], hl, fun hp => by omega⟩
  · have hlt : g < w.heap.size := by
      rcases Nat.lt_or_ge g w.heap.size with h2 | h2
      · exact h2
      · rw [Array.getElem?_eq_none h2] at hg; cases hg
    refine ⟨_, cap, rfl, hl, fun hp => ⟨g, 0, rfl, hlt, fun i p hip => ?_⟩⟩
    obtain ⟨k0, k1⟩ := pcells_at hip
    have c0 := World.ownsRow.cells h (g := g) rfl _ _ k0
    have c1 := World.ownsRow.cells h (g := g) rfl _ _ k1
    rw [Addr.add_mid] at c0 c1
    obtain ⟨h3, h4⟩ := hw p (List.mem_of_getElem? hip)
    exact ⟨c0, c1, h3, h4⟩
theorem exec_rload (a : Act) (o : Oper) {x : Operand} (ho : o.op = .load 36 x) (b n : Nat) (L : Rel) {w : World} (hx : a.eval x = .pointer (some ⟨b, 0, none⟩)) (hm : Rm w b n L) :
    (execOp a.eval o).run Tryz.prog w = .ok (.value (.agg (rv n L))) w := by
  unfold execOp
  simp only [ho, hx, Instr.loadAt, Instr.sureAddr, Sem.run_bind, Sem.run_pure, Result.andThen_ok,
    run_loadVar_mid w b 0 36 (rl n L) _ hm.range Tryz.underlying36 rfl (by rw [rl_len]; kernel_rfl)]
  rfl
theorem wp_rstore {o : Oper} {a : Act} {w : World} {K : Act → World → Prop} {Q : Exit → Act → World → Prop} (x y : Operand) (ho : o.op = .store 36 x y)
    (b n : Nat) (L : Rel) (hx : a.eval x = .pointer (some ⟨b, 0, none⟩)) (hy : a.eval y = .agg (rv n L)) (hm : ∃ n' L', Rm w b n' L')
    (h : K (a.put o.dst undef) (w.setCells b 0 (rl n L))) : o.wp Tryz.prog a w K Q := by
  obtain ⟨n', L', hm⟩ := hm
  exact wp_store_mid 36 x y ho b 0 (rv n L) hx hy (by rw [rv_size]; exact hm.there) (by rw [rv_size]; kernel_rfl) (rv_one n L) h
theorem ord_rstore {ops : Array Oper} {S : World → Prop} {Q : Exit → Act → World → Prop} {i : Nat} {r : List (Nat × Bool)} {a : Act} {w : World} (o : Oper) (x y : Operand) (hi : ops[i]? = some o)
    (ho : o.op = .store 36 x y) (hw : Region.wanted o (yielded ops a.tmps) = true) (b n : Nat) (L : Rel) (hx : a.eval x = .pointer (some ⟨b, 0, none⟩)) (hy : a.eval y = .agg (rv n L))
    (hm : ∃ n' L', Rm w b n' L') (hS : S (w.setCells b 0 (rl n L))) (h : wpOrd Tryz.prog ops S Q r (a.put o.dst undef) (w.setCells b 0 (rl n L))) : wpOrd Tryz.prog ops S Q ((i, false) :: r) a w :=
  ord_act o hi hw fun _ hK => wp_rstore x y ho b n L hx hy hm (hK _ _ hS h)
theorem results_both {fn : Func} {p q r : Tmp} (h : fn.results = #[.tmp q, .cell p 36, .tmp r]) (tmps : Array Value) (w : World) (g n : Nat) (L : Rel) (u v : Value)
    (hp : tmps.getD p undef = .pointer (some ⟨g, 0, none⟩)) (hq : tmps.getD q undef = u) (hr : tmps.getD r undef = v) (hm : Rm w g n L) : (results fn tmps).run Tryz.prog w = .ok (.tuple #[u, .agg (rv n L), v]) w := by
  have hp' : tmps[p]?.getD undef = .pointer (some ⟨g, 0, none⟩) := by simpa using hp
  have hq' : tmps[q]?.getD undef = u := by simpa using hq
  have hr' : tmps[r]?.getD undef = v := by simpa using hr
  have hl := run_loadVar_mid (P := Tryz.prog) w g 0 36 (rl n L) _ hm.range Tryz.underlying36 rfl (by rw [rl_len]; kernel_rfl)
  simp [results, h, hp', hq', hr', asAddr, hl, rv]
theorem LatR.far {w : World} {b n : Nat} {L : Rel} (h : LatR w b n L) {b' : Nat} (hb : b ≠ b') (vs : List Value) : ∀ o, LatR (w.setCells b' o vs) b n L := by
  induction vs generalizing w with
  | nil => intro o; exact h
  | cons v vs ih =>
    intro o
    exact ih (w := w.setCell ⟨b', o, none⟩ v) ⟨h.at_.cells fun p => World.cell?_setCell_other w _ _ v (fun e => hb (by injection e with e1 _ _; exact e1.symm)), h.lat, h.le8, by rw [size_set]; exact h.lt⟩ (o + 1)
def BothPost (w : World) (n : Int) (ps : List (Int × Int)) (e : Ending) (w' : World) : Prop :=
  Below w.heap.size w w' ∧ ((makeE n ps ≠ 0 ∧ ∃ N L, e = .returned (.tuple #[.pointer none, .agg (rv N L), .bool false])) ∨
    (makeE n ps = 0 ∧ ∃ k b : Nat, n = k ∧ e = .returned (.tuple #[.pointer (some ⟨b, 0, none⟩), .agg (rv k (ordOf k ps)), .bool true]) ∧ LatR w' b k (ordOf k ps)))
theorem rmake_far (n : Int) (A : Option Addr) (l c : Nat) (w : World) (h : n < 1 ∨ 8 < n ∨ 64 < l) :
    Calls Tryz.prog 20 #[.int .i64 n, .slice A l c] w fun e w' => e = .returned (.tuple #[.agg (rv 0 fun _ _ => false), .int .i64 2]) ∧ Below w.heap.size w w' := by
  have hz := rzero
  have HM := Lib.hid (Rm.new w 0 (fun _ _ => false) 36)
  have HB := Lib.hid (below_setCells ((Below.refl w.heap.size w).alloc (Nat.le_refl _) (.cells (rv 0 fun _ _ => false) 36)) (Nat.le_refl _) (rl 0 fun _ _ => false) 0)
  by_cases h1 : n < 1
  · have t1 : decide (n < 1) = true := by simp; omega
    go_enter Tryz.func20, Tryz.ntmps20
    go_wp2_with (refine wl_rstore _ _ rfl (by simp [Region.wanted]) w.heap.size 0 (fun _ _ => false) rfl rfl ⟨_, _, HM.out⟩ ?_)
    exact bodyPost_ret (results_rmake rfl _ _ w.heap.size 0 (fun _ _ => false) (.int .i64 2) rfl rfl (HM.out.setCells 0 _)) rfl ⟨rfl, HB.out⟩
  · have t1 : decide (n < 1) = false := by simp; omega
    by_cases h2 : 8 < n
    · have t2 : decide ((8 : Int) < n) = true := by simp; omega
      go_enter Tryz.func20, Tryz.ntmps20
      go_wp2_with (refine wl_rstore _ _ rfl (by simp [Region.wanted]) w.heap.size 0 (fun _ _ => false) rfl rfl ⟨_, _, HM.out⟩ ?_)
      exact bodyPost_ret (results_rmake rfl _ _ w.heap.size 0 (fun _ _ => false) (.int .i64 2) rfl rfl (HM.out.setCells 0 _)) rfl ⟨rfl, HB.out⟩
    · have t2 : decide ((8 : Int) < n) = false := by simp; omega
      have t3 : decide ((64 : Int) < l) = true := by simp; omega
      go_enter Tryz.func20, Tryz.ntmps20
      go_wp2_with (refine wl_rstore _ _ rfl (by simp [Region.wanted]) w.heap.size 0 (fun _ _ => false) rfl rfl ⟨_, _, HM.out⟩ ?_)
      exact bodyPost_ret (results_rmake rfl _ _ w.heap.size 0 (fun _ _ => false) (.int .i64 2) rfl rfl (HM.out.setCells 0 _)) rfl ⟨rfl, HB.out⟩
theorem rmake_any (n : Int) (A : Option Addr) (l c : Nat) (ps : List (Int × Int)) (w : World) (hl : ps.length = l) (hp : Pairs w w.heap.size A ps) :
    Calls Tryz.prog 20 #[.int .i64 n, .slice A l c] w (RMakePost w n ps) := by
  subst hl
  rcases makeE_cases n ps with ⟨h, e⟩ | ⟨k, rfl, h1, h8, hl, _⟩
  · refine (rmake_far n A _ c w h).mono fun e' w' ⟨he, hb⟩ => ?_
    subst he
    exact rm_end hb e (rmk_bad e (by decide)).1 (rmk_bad e (by decide)).2
  · exact rmake_in k A c ps w hp h1 h8 hl
end Go.Proofs.YtppmkehdhpgdcaaGreat
end
section
namespace Go.Proofs.YtppmkehdhpgdcaaGreat
open Go.RowKit P
def BothAll (w : World) (n : Int) (ps : List (Int × Int)) (e : Ending) (w' : World) : Prop :=
  Below w.heap.size w w' ∧ ((∃ N L, e = .returned (.tuple #[.pointer none, .agg (rv N L), .bool false])) ∨
    (ps.length ≤ 200 ∧ makeE n ps = 0 ∧ ∃ k b : Nat, n = k ∧ e = .returned (.tuple #[.pointer (some ⟨b, 0, none⟩), .agg (rv k (ordOf k ps)), .bool true]) ∧ LatR w' b k (ordOf k ps)))
end Go.Proofs.YtppmkehdhpgdcaaGreat
end
section
namespace Go.Proofs.YtppmkehdhpgdcaaGreat
open Go.RowKit P
set_option maxHeartbeats 1000000 in
set_option maxRecDepth 100000 in
theorem both11_any (n : Int) (A : Option Addr) (l c : Nat) (ps : List (Int × Int)) (w : World) (hl : ps.length = l) (hp : Pairs w w.heap.size A ps) (h2 : l ≤ 200) :
    Calls Tryz.prog 6 #[.int .i64 n, .slice A l c] w (BothPost w n ps) := by
  have t1 : decide ((200 : Int) < l) = false := by simp; omega
  have hz := rzero
  have HP := Lib.hid hp
  obtain ⟨i0, hi, hz0, hz1, hz2⟩ := info_parts info_pair
  have HI := Lib.hid hi
  have HZ0 := Lib.hid hz0
  have HZ1 := Lib.hid hz1
  have HZ2 := Lib.hid hz2
  have HL := Lib.hid hl
  clear hi hz0 hz1 hz2 hp hl
  have HM := Lib.hid (Rm.new w 0 (fun _ _ => false) 36)
  have hw1 := (ownsRow_empty (w.alloc (.cells (rv 0 fun _ _ => false) 36)) 59 2 w.heap.size (by simp))
  rw [World.size_alloc] at hw1
  have HW1 := Lib.hid hw1
  clear hw1
  have HB1 := Lib.hid (((Below.refl w.heap.size w).alloc (Nat.le_refl _) (.cells (rv 0 fun _ _ => false) 36)).alloc (by simp) (.cells #[] 59))
  go_enter Tryz.func6, Tryz.ntmps6
  go_wp2_with (at_builtin; refine wl_append rfl _ _ 22 rfl w.heap.size 59 i0 (.agg #[.int .i64 0, .int .i64 0]) 2 16 Tryz.underlying22 HI.out HZ0.out HZ1.out HZ2.out rfl (by decide) _ 0 [] rfl HW1.out A l c (pcells ps) rfl ?c1 ?c2 (pcells_one ps) ?c3 ?c4 ?c5 ?_)
  case c1 => rw [pcells_len, HL.out]
  case c2 => intro hl; exact HP.out.src (by rw [HL.out]; exact hl) |>.imp fun ad h => ⟨h.1, fun j u hu => (HB1.out.cell (p := ad.add j) (by
    obtain ⟨b, o, e, hb, _⟩ := HP.out.2 (by rw [HL.out]; exact hl)
    have : ad = ⟨b, o, none⟩ := by have := h.1; rw [e] at this; injection this with this; exact this.symm
    subst this
    rw [Addr.add_mid]; exact hb)).trans (h.2 j u hu)⟩
  case c3 => unfold maxLen; omega
  case c4 => omega
  case c5 => simp; omega
  intro v' w1 hown hg
  have hb1 : Below w.heap.size w w1 := HB1.out.grown hg (by simp; omega) (fun j hj => by simp [Value.ownBlock] at hj; omega)
  obtain ⟨A', c', rfl, hps⟩ := Pairs.of_own (ps := ps) HL.out hown HP.out.ok (by rw [HL.out]; omega)
  have HB2 := Lib.hid hb1
  have HM1 := Lib.hid (Rm.below (w' := w1) (HM.out.below ((Below.refl _ _).alloc (Nat.le_refl _) (.cells #[] 59)) (by simp)) (B := w.heap.size + 1) ⟨hg.os, hg.tape, hg.output, hg.size, fun j hj => hg.block j (by simp; omega) (by simp only [Value.ownBlock]; intro e; injection e with e; omega)⟩ (by omega))
  have hz1 : w.heap.size + 1 < w1.heap.size := by have := hg.size; simp at this; omega
  clear hown hg hb1
  by_cases h0 : makeE n ps = 0
  · obtain ⟨k, rfl⟩ : ∃ k : Nat, n = k := by
      rcases makeE_cases n ps with ⟨_, h⟩ | ⟨k, rfl, _⟩
      · rw [h] at h0; cases h0
      · exact ⟨k, rfl⟩
    have CM := Lib.hid (make_ok k A' l c' ps w1 HL.out hps h0)
    have H0 := Lib.hid h0
    clear hps h0
    go_wp2_with fail
    refine CM.out.mono ?_
    rintro e w2 ⟨rfl, hlat, hb⟩
    have HB3 := Lib.hid (HB2.out.trans (hb.mono (by omega)))
    have HM2 := Lib.hid (HM1.out.below hb (by omega))
    have hz2 : w.heap.size + 1 < w2.heap.size := by have := hb.size; omega
    have CR := Lib.hid (rmake_any k A l c ps w2 HL.out ((HP.out.below HB3.out).more (by omega)))
    have HLT := Lib.hid hlat
    clear hlat
    clear hb
    go_wp2_with fail
    refine CR.out.mono ?_
    rintro e w3 ⟨rfl, hb⟩
    have HB4 := Lib.hid (HB3.out.trans (hb.mono (by omega)))
    have HM3 := Lib.hid (HM2.out.below hb (by omega))
    have hz3 : w.heap.size + 1 < w3.heap.size := by have := hb.size; omega
    have HM4 := Lib.hid (Rm.new w3 0 (fun _ _ => false) 36)
    have HLT2 := Lib.hid (HLT.out.here hb)
    clear hb
    go_wp2_with (refine wl_rstore _ _ rfl (by simp [Region.wanted]) w3.heap.size (rmkN k ps) (rmkL k ps) rfl rfl ⟨_, _, HM4.out⟩ ?_)
    have HM5 := Lib.hid ((HM3.out.below ((Below.refl _ _).alloc (Nat.le_refl _) (.cells (rv 0 fun _ _ => false) 36)) (by omega)).far (b' := w3.heap.size) (by omega) (rl (rmkN k ps) (rmkL k ps)) 0)
    have HM6 := Lib.hid (HM4.out.setCells (rmkN k ps) (rmkL k ps))
    have HB5 := Lib.hid (below_setCells (HB4.out.alloc (by omega) (.cells (rv 0 fun _ _ => false) 36)) (b := w3.heap.size) (by omega) (rl (rmkN k ps) (rmkL k ps)) 0)
    have HLT3 := Lib.hid ((HLT2.out.alloc (.cells (rv 0 fun _ _ => false) 36)).below (below_setCells (Below.refl w3.heap.size _) (Nat.le_refl _) (rl (rmkN k ps) (rmkL k ps)) 0) HLT2.out.lt)
    have hne : w.heap.size ≠ w3.heap.size := by omega
    generalize World.setCells _ _ _ _ = W at *
    clear HM4 HM3 HM2 HM1
    refine wp_region_ord [(0, true), (1, true), (2, true), (3, true), (4, true), (5, false), (6, true)] (fun w' => Rm w' w3.heap.size (rmkN k ps) (rmkL k ps)) (by kernel_rfl) (by kernel_rfl) (by kernel_rfl) rfl (by intro c a d v w h; cases d <;> exact h) ?_
    have hs := HM6.out.drew
    refine ord_move _ _ _ _ rfl rfl rfl (by simp [Region.wanted]) hs rfl ?_
    refine ord_val _ (.agg (rv (rmkN k ps) (rmkL k ps))) rfl (by simp [Region.wanted]) hs (fun w' hw' => exec_rload _ _ rfl _ _ _ rfl hw') ?_
    refine ord_move _ _ _ _ rfl rfl rfl (by simp [Region.wanted]) hs rfl ?_
    refine ord_val _ (.bool true) rfl (by simp [Region.wanted]) hs (fun w' _ => by go_simp) ?_
    refine ord_assign _ _ _ _ rfl rfl rfl (by simp [Region.wanted]) hs rfl ?_
    refine ord_rstore _ _ _ rfl rfl (by simp [Region.wanted]) w.heap.size (rmkN k ps) (rmkL k ps) rfl rfl ⟨_, _, HM5.out.drew⟩ (hs.far hne.symm (rl (rmkN k ps) (rmkL k ps)) 0) ?_
    refine ord_assign _ _ _ _ rfl rfl rfl (by simp [Region.wanted]) (hs.far hne.symm _ 0) rfl ?_
    refine ord_end ?_
    go_simp
    go_wp2
    refine bodyPost_ret (results_both rfl _ _ w.heap.size (rmkN k ps) (rmkL k ps) (.pointer (some ⟨w1.heap.size, 0, none⟩)) (.bool true) rfl rfl rfl (HM5.out.drew.setCells _ _)) rfl ?_
    have e1 : rmkN k ps = k := by unfold rmkN; rw [H0.out]; simp
    have e2 : rmkL k ps = ordOf k ps := by unfold rmkL; rw [H0.out]; simp
    rw [e1, e2]
    exact ⟨below_setCells HB5.out.drew (Nat.le_refl _) _ _, .inr ⟨H0.out, k, w1.heap.size, rfl, rfl, HLT3.out.drew.far (b' := w.heap.size) (by omega) _ 0⟩⟩
  · have CM := Lib.hid (make_no n A' l c' ps (makeE n ps) w1 HL.out hps rfl h0)
    have H0 := Lib.hid h0
    clear hps h0
    go_wp2_with fail
    refine CM.out.mono ?_
    rintro e w2 ⟨rfl, hb⟩
    have HB3 := Lib.hid (HB2.out.trans (hb.mono (by omega)))
    have HM2 := Lib.hid (HM1.out.below hb (by omega))
    have hz2 : w.heap.size + 1 < w2.heap.size := by have := hb.size; omega
    have CR := Lib.hid (rmake_any n A l c ps w2 HL.out ((HP.out.below HB3.out).more (by omega)))
    clear hb
    go_wp2_with fail
    refine CR.out.mono ?_
    rintro e w3 ⟨rfl, hb⟩
    have HB4 := Lib.hid (HB3.out.trans (hb.mono (by omega)))
    have HM3 := Lib.hid (HM2.out.below hb (by omega))
    have hz3 : w.heap.size + 1 < w3.heap.size := by have := hb.size; omega
    have HM4 := Lib.hid (Rm.new w3 0 (fun _ _ => false) 36)
    clear hb
    go_wp2_with (refine wl_rstore _ _ rfl (by simp [Region.wanted]) w3.heap.size (rmkN n ps) (rmkL n ps) rfl rfl ⟨_, _, HM4.out⟩ ?_)
    have HM5 := Lib.hid ((HM3.out.below ((Below.refl _ _).alloc (Nat.le_refl _) (.cells (rv 0 fun _ _ => false) 36)) (by omega)).far (b' := w3.heap.size) (by omega) (rl (rmkN n ps) (rmkL n ps)) 0)
    have HM6 := Lib.hid (HM4.out.setCells (rmkN n ps) (rmkL n ps))
    have HB5 := Lib.hid (below_setCells (HB4.out.alloc (by omega) (.cells (rv 0 fun _ _ => false) 36)) (b := w3.heap.size) (by omega) (rl (rmkN n ps) (rmkL n ps)) 0)
    have hne : w.heap.size ≠ w3.heap.size := by omega
    generalize World.setCells _ _ _ _ = W at *
    clear HM4 HM3 HM2 HM1
    refine wp_region_ord [(0, true), (1, true), (2, true), (3, true), (4, true), (5, false), (6, true)] (fun w' => Rm w' w3.heap.size (rmkN n ps) (rmkL n ps)) (by kernel_rfl) (by kernel_rfl) (by kernel_rfl) rfl (by intro c a d v w h; cases d <;> exact h) ?_
    have hs := HM6.out.drew
    refine ord_move _ _ _ _ rfl rfl rfl (by simp [Region.wanted]) hs rfl ?_
    refine ord_val _ (.agg (rv (rmkN n ps) (rmkL n ps))) rfl (by simp [Region.wanted]) hs (fun w' hw' => exec_rload _ _ rfl _ _ _ rfl hw') ?_
    refine ord_move _ _ _ _ rfl rfl rfl (by simp [Region.wanted]) hs rfl ?_
    refine ord_val _ (.bool false) rfl (by simp [Region.wanted]) hs (fun w' _ => by go_simp) ?_
    refine ord_assign _ _ _ _ rfl rfl rfl (by simp [Region.wanted]) hs rfl ?_
    refine ord_rstore _ _ _ rfl rfl (by simp [Region.wanted]) w.heap.size (rmkN n ps) (rmkL n ps) rfl rfl ⟨_, _, HM5.out.drew⟩ (hs.far hne.symm (rl (rmkN n ps) (rmkL n ps)) 0) ?_
    refine ord_assign _ _ _ _ rfl rfl rfl (by simp [Region.wanted]) (hs.far hne.symm _ 0) rfl ?_
    refine ord_end ?_
    go_simp
    go_wp2
    refine bodyPost_ret (results_both rfl _ _ w.heap.size (rmkN n ps) (rmkL n ps) (.pointer none) (.bool false) rfl rfl rfl (HM5.out.drew.setCells _ _)) rfl ?_
    exact ⟨below_setCells HB5.out.drew (Nat.le_refl _) _ _, .inl ⟨H0.out, _, _, rfl⟩⟩
theorem both11_long (n : Int) (A : Option Addr) (l c : Nat) (w : World) (h2 : 200 < l) :
    Calls Tryz.prog 6 #[.int .i64 n, .slice A l c] w fun e w' => e = .returned (.tuple #[.pointer none, .agg (rv 0 fun _ _ => false), .bool false]) ∧ Below w.heap.size w w' := by
  have t1 : decide ((200 : Int) < l) = true := by simp; omega
  have hz := rzero
  have HM := Lib.hid (Rm.new w 0 (fun _ _ => false) 36)
  have HB := Lib.hid (below_setCells ((Below.refl w.heap.size w).alloc (Nat.le_refl _) (.cells (rv 0 fun _ _ => false) 36)) (Nat.le_refl _) (rl 0 fun _ _ => false) 0)
  go_enter Tryz.func6, Tryz.ntmps6
  go_wp2_with (refine wl_rstore _ _ rfl (by simp [Region.wanted]) w.heap.size 0 (fun _ _ => false) rfl rfl ⟨_, _, HM.out⟩ ?_)
  exact bodyPost_ret (results_both rfl _ _ w.heap.size 0 (fun _ _ => false) (.pointer none) (.bool false) rfl rfl rfl (HM.out.setCells 0 _)) rfl ⟨rfl, HB.out⟩
theorem both11_all (n : Int) (A : Option Addr) (l c : Nat) (ps : List (Int × Int)) (w : World) (hl : ps.length = l) (hp : Pairs w w.heap.size A ps) :
    Calls Tryz.prog 6 #[.int .i64 n, .slice A l c] w (BothAll w n ps) := by
  by_cases h : l ≤ 200
  · refine (both11_any n A l c ps w hl hp h).mono fun e w' hh => ?_
    rcases hh.2 with ⟨_, h1⟩ | ⟨h0, h1⟩
    · exact ⟨hh.1, .inl h1⟩
    · exact ⟨hh.1, .inr ⟨by omega, h0, h1⟩⟩
  · exact (both11_long n A l c w (by omega)).mono fun e w' hh => ⟨hh.2, .inl ⟨_, _, hh.1⟩⟩
end Go.Proofs.YtppmkehdhpgdcaaGreat
end
