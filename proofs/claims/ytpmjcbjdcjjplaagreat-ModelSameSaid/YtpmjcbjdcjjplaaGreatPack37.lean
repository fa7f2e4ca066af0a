/- Parts of a proof: MOwnT, MOwnE. -/
import Derived.Deep.DeepCutAuto
import Derived.Test.YtpmjcbjdcjjplaaGreatPack3
import Derived.Test.YtpmjcbjdcjjplaaGreatPack7
import Derived.Test.YtpmjcbjdcjjplaaGreatPack8
import Derived.Test.YtpmjcbjdcjjplaaGreatPack10
import Derived.Test.YtpmjcbjdcjjplaaGreatPack12
import Derived.Test.YtpmjcbjdcjjplaaGreatPack13
import Derived.Test.YtpmjcbjdcjjplaaGreatPack15
import Derived.Test.YtpmjcbjdcjjplaaGreatPack18
import Derived.Test.YtpmjcbjdcjjplaaGreatPack24
import Derived.Test.YtpmjcbjdcjjplaaGreatPack27
import Derived.Test.YtpmjcbjdcjjplaaGreatPack29
import Derived.Test.YtpmjcbjdcjjplaaGreatPack35
import Derived.Test.YtpmjcbjdcjjplaaGreatPack36
section
namespace Go.Proofs.YtpmjcbjdcjjplaaGreat
open Go Go.RowKit
set_option linter.unusedVariables false
set_option linter.unusedSimpArgs false
inductive FitTy : TT → Prop where
  | mk {k : Int} {ns : List ByteArray} {its : List TT} (h1 : ns.length * 16 ≤ reachBytes) (h2 : its.length * 56 ≤ reachBytes) (h3 : ∀ x ∈ its, FitTy x) : FitTy (.mk k ns its)
theorem FitTy.inv {k : Int} {ns : List ByteArray} {its : List TT} (h : FitTy (.mk k ns its)) : ns.length * 16 ≤ reachBytes ∧ its.length * 56 ≤ reachBytes ∧ ∀ x ∈ its, FitTy x := by
  cases h with
  | mk h1 h2 h3 => exact ⟨h1, h2, h3⟩
structure Two2 (T : TypeId) (n : Nat) (w W : World) (p q m : Nat) (cs : List Value) : Prop where
  wa : Whole T W p cs
  wb : ∃ z, z.length = n ∧ Whole T W q z
  bel : Below w.heap.size w W
  wp : w.heap.size ≤ p
  wq : w.heap.size ≤ q
  ne : p ≠ q
  pm : p < m
  qm : q < m
  mw : m ≤ W.heap.size
section
variable {T : TypeId} {n : Nat} {w W W' : World} {p q m : Nat} {cs : List Value}
theorem Two2.below (h : Two2 T n w W p q m cs) (hb : Below W.heap.size W W') : Two2 T n w W' p q m cs :=
  ⟨h.wa.keep (hb.block p (Nat.lt_of_lt_of_le h.pm h.mw)), by obtain ⟨z, hz, h2⟩ := h.wb; exact ⟨z, hz, h2.keep (hb.block q (Nat.lt_of_lt_of_le h.qm h.mw))⟩, h.bel.trans (hb.mono h.bel.size), h.wp, h.wq, h.ne, h.pm, h.qm, Nat.le_trans h.mw hb.size⟩
theorem Two2.put (h : Two2 T n w W p q m cs) (i : Nat) (v : Value) : Two2 T n w (W.setCell ⟨p, i, none⟩ v) p q m (cs.set i v) := by
  have hs : (W.setCell ⟨p, i, none⟩ v).heap.size = W.heap.size := by simp [World.setCell]
  refine ⟨?_, by obtain ⟨z, hz, h2⟩ := h.wb; exact ⟨z, hz, h2.keep (Below.heap_setCell W ⟨p, i, none⟩ v q h.ne.symm)⟩, below_sets (vs := [v]) h.bel h.wp i, h.wp, h.wq, h.ne, h.pm, h.qm, by rw [hs]; exact h.mw⟩
  have h1 := h.wa
  unfold Whole at h1 ⊢
  simp [World.setCell, Array.getElem?_modify, h1]
theorem Two2.at (h : Two2 T n w W p q m cs) (k : Nat) {v : Value} (hv : cs[k]? = some v) : W.cell? ⟨p, k, none⟩ = some v ∧ W.frozen? ⟨p, k, none⟩ = false := by
  refine ⟨by have := h.wa.range k v hv; rwa [Nat.zero_add] at this, h.wa.frozV (List.getElem?_eq_some_iff.1 hv).1⟩
end
theorem two2_start (T : TypeId) (n : Nat) (w : World) (cs z : List Value) (hz : z.length = n) : Two2 T n w ((w.alloc (.cells ⟨cs⟩ T)).alloc (.cells ⟨z⟩ T)) w.heap.size (w.heap.size + 1) (w.heap.size + 2) cs := by
  have h1 := Whole.new w cs T
  have h2 := box_below w (.cells ⟨cs⟩ T)
  have hs : (w.alloc (.cells ⟨cs⟩ T)).heap.size = w.heap.size + 1 := by simp
  generalize w.alloc (.cells ⟨cs⟩ T) = W1 at *
  have h3 := Whole.new W1 z T
  have h4 := box_below W1 (.cells ⟨z⟩ T)
  have h5 : (W1.alloc (.cells ⟨z⟩ T)).heap.size = W1.heap.size + 1 := by simp
  rw [hs] at h3
  exact ⟨h1.keep (h4.block _ (by omega)), ⟨z, hz, h3⟩, h2.trans (h4.mono (by omega)), Nat.le_refl _, by omega, by omega, by omega, by omega, by omega⟩
def ThW (w : World) (v : Value) : Prop := ∀ b, v.ownBlock = some b → ∃ c T, w.heap[b]? = some (Obj.cells c T (0, 0))
def MonoB (w w' : World) : Prop := (∀ a v, w.cell? a = some v → w'.cell? a = some v) ∧ ∀ (b : Nat) (c : Array Value) (T : TypeId) (f : Nat × Nat), w.heap[b]? = some (Obj.cells c T f) → w'.heap[b]? = some (Obj.cells c T f)
theorem only_block {w : World} {p : Nat → Prop} {b : Nat} {c : Array Value} {T : TypeId} {f : Nat × Nat} : (only w p).heap[b]? = some (Obj.cells c T f) ↔ p b ∧ w.heap[b]? = some (Obj.cells c T f) := by
  unfold only
  simp only [Array.getElem?_mapIdx]
  cases h : w.heap[b]? with
  | none => simp
  | some o =>
    by_cases hp : p b
    · simp [hp]
    · simp [hp]
theorem lt_of_block {w : World} {b : Nat} {o : Obj} (h : w.heap[b]? = some o) : b < w.heap.size := (Array.getElem?_eq_some_iff.1 h).1
theorem only_toB {p q : Nat → Prop} {w w' : World} (hb : ∀ b, p b → b < w.heap.size → q b ∧ w'.heap[b]? = w.heap[b]?) : MonoB (only w p) (only w' q) :=
  ⟨only_to hb, fun b c T f h => by
    obtain ⟨h1, h2⟩ := only_block.1 h
    obtain ⟨h3, h4⟩ := hb b h1 (lt_of_block h2)
    exact only_block.2 ⟨h3, h4.trans h2⟩⟩
theorem ThW.mono {w w' : World} {v : Value} (h : ThW w v) (hm : MonoB w w') : ThW w' v := fun b hb => by
  obtain ⟨c, T, h1⟩ := h b hb
  exact ⟨c, T, hm.2 b c T _ h1⟩
theorem ThW.own {α : Type} {T : TypeId} {k base : Nat} {enc : α → List Value} {w z : World} {v : Value} {l : List α} {p : Nat → Prop} (h : OwnSl T k enc w base v l) (hb : ∀ b, v.ownBlock = some b → p b ∧ z.heap[b]? = w.heap[b]?) : ThW (only z p) v := fun b e => by
  obtain ⟨h1, h2⟩ := hb b e
  rcases h.2 with ⟨rfl, _⟩ | ⟨g, cap, cur, rfl, _, hg, _⟩
  · cases e
  · injection e with e
    subst e
    exact ⟨_, _, only_block.2 ⟨h1, h2.trans hg⟩⟩
def OwnTP (t : TT) (w : World) (e : Ending) (w' : World) : Prop := ∃ cs', e = .returned (.agg ⟨cs'⟩) ∧ KeptT (fun b => w.heap.size ≤ b) w' cs' t ∧ Below w.heap.size w w' ∧ ∀ v, cs'[2]? = some v → ThW (only w' fun b => w.heap.size ≤ b) v
set_option maxHeartbeats 8000000 in
set_option maxRecDepth 100000 in
theorem mownT_any : ∀ (t : TT) (cs : List Value) (w : World), FitTy t → TypAt w w.heap.size cs t → Calls Tryz.prog 32 #[.agg ⟨cs⟩] w (OwnTP t w) := by
  intro t
  induction t using TT.ind with
  | h k ns its ih =>
    intro cs w hfit hv
    obtain ⟨vn0, vi0, rfl, hk, hns, hil, hi⟩ := hv.inv
    obtain ⟨hft1, hft2, hft3⟩ := hfit.inv
    obtain ⟨-, A, c, rfl, hA⟩ := hi
    obtain ⟨-, NA, nc, rfl, -⟩ := id hns
    have HA := Lib.hid hA
    have HNS := Lib.hid hns
    have HK := Lib.hid hk
    have HIL := Lib.hid hil
    have HFN := Lib.hid hft1
    have IH : Hid (∀ x ∈ its, ∀ cs w, TypAt w w.heap.size cs x → Calls Tryz.prog 32 #[.agg ⟨cs⟩] w (OwnTP x w)) := Lib.hid fun x hx cs w h => ih x hx cs w (hft3 x hx) h
    have HB56 : Hid (its.length * 56 ≤ 140737488351232) := Lib.hid hft2
    have HLN : Hid (its.length ≤ 9223372036854775807) := Lib.hid (Nat.le_trans hil maxLen_small)
    clear hA hv ih hfit hft1 hft2 hft3 hns hk hil
    go_enter Tryz.func32, Tryz.ntmps32
    go_upto_region 1 with (fail)
    have HST := Lib.hid (two2_start 45 3 w [.int .i64 k, .slice NA ns.length nc, .slice A its.length c] [.int .i64 0, .slice none 0 0, .slice none 0 0] rfl)
    generalize ((w.alloc (.cells ⟨[.int .i64 k, .slice NA ns.length nc, .slice A its.length c]⟩ 45)).alloc (.cells ⟨[.int .i64 0, .slice none 0 0, .slice none 0 0]⟩ 45)) = W at *
    obtain ⟨m, hm⟩ : ∃ m, w.heap.size + 2 = m := ⟨_, rfl⟩
    obtain ⟨q, hq⟩ : ∃ q, w.heap.size + 1 = q := ⟨_, rfl⟩
    obtain ⟨p, hp⟩ : ∃ p, w.heap.size = p := ⟨_, rfl⟩
    have HWP : Hid (w.heap.size = p) := Lib.hid hp
    rw [hm, hq] at HST
    have HST' : Hid (Two2 45 3 w W p q m [.int .i64 k, .slice NA ns.length nc, .slice A its.length c]) := Lib.hid (hp ▸ HST.out)
    have HMP : Hid (w.heap.size ≤ m) := Lib.hid (by omega)
    rw [hq, hp]
    clear HST hq hm hp
    have d1 := (HST'.out.at 1 rfl).1
    have HCN := Lib.hid (clone_names W (.slice NA ns.length nc) ns ((HNS.out.below HST'.out.bel fun _ _ _ h => h).more HST'.out.bel.size) HFN.out)
    go_upto_region 2 with (go_at_call 54; refine HCN.out.mono ?_; rintro e z ⟨v', rfl, hb, hk⟩; obtain ⟨-, NA2, nc2, rfl, -⟩ := id hk; have HST3 := Lib.hid (HST'.out.below hb); have HKN := Lib.hid hk; have HBZ := Lib.hid hb; have e1 := (HST3.out.at 1 rfl).1; have f1 := (HST3.out.at 1 rfl).2; clear hk hb)
    have HST4 : Hid (Two2 45 3 w (z.setCell ⟨p, 1, none⟩ (.slice NA2 ns.length nc2)) p q m [.int .i64 k, .slice NA2 ns.length nc2, .slice A its.length c]) := Lib.hid (HST3.out.put 1 (.slice NA2 ns.length nc2))
    have HPS : Hid ((z.setCell ⟨p, 1, none⟩ (.slice NA2 ns.length nc2)).heap.size = z.heap.size) := Lib.hid (by simp [World.setCell])
    have HK3 : Hid (KeptS (fun b => m ≤ b) (z.setCell ⟨p, 1, none⟩ (.slice NA2 ns.length nc2)) (.slice NA2 ns.length nc2) ns) := Lib.hid (HKN.out.to (fun b hb hlt => ⟨Nat.le_trans HST'.out.mw hb, Below.heap_setCell z ⟨p, 1, none⟩ _ b (by
      have h1 := HST'.out.mw
      have h2 := HST'.out.pm
      show b ≠ p
      omega)⟩) (by rw [HPS.out]; exact Nat.le_refl _))
    clear HST3 HKN HBZ e1 f1 HCN HNS HFN d1 HST' HPS
    generalize z.setCell ⟨p, 1, none⟩ (.slice NA2 ns.length nc2) = W3 at *
    have d2 := (HST4.out.at 2 rfl).1
    go_upto_region 4 with (fail)
    clear d2
    go_loopg [3, 13] its.length (fun g v i u => ∃ (j : Nat) (KL : List Cells3), j + g = its.length ∧ i = .int .i64 j ∧ RowT (fun _ => False) W3.heap.size u v (its.take j) KL ∧ Below W3.heap.size W3 u)
    case atStart => exact ⟨0, [], by omega, rfl, by rw [List.take_zero]; exact RowT.start _ (Nat.le_refl _), Below.refl _ _⟩
    case round =>
      obtain ⟨j, KL, hj, rfl, hI, hbu⟩ := hrel
      have HI := Lib.hid hI
      have HBU := Lib.hid hbu
      clear hI hbu
      obtain ⟨UA, uc, rfl⟩ := own_formL HI.out.own
      have HST5 := Lib.hid (HST4.out.below HBU.out)
      obtain ⟨U, hU⟩ : ∃ z, z = wr := ⟨_, rfl⟩
      subst hU
      cases gk with
      | zero =>
        have hge : ¬ ((j : Int) < (its.length : Int)) := by omega
        obtain rfl : j = its.length := by omega
        have HKLN : Hid (KL.length = its.length) := Lib.hid (by have := HI.out.len; rwa [List.take_length] at this)
        have g2 := (HST5.out.at 2 rfl).1
        have f2 := (HST5.out.at 2 rfl).2
        go_upto_region 9 with (fail)
        have HST6 : Hid (Two2 45 3 w (U.setCell ⟨p, 2, none⟩ (.slice UA KL.length uc)) p q m [.int .i64 k, .slice NA2 ns.length nc2, .slice UA KL.length uc]) := Lib.hid (HST5.out.put 2 (.slice UA KL.length uc))
        have HP : Hid (∀ b, m ≤ b → (U.setCell ⟨p, 2, none⟩ (.slice UA KL.length uc)).heap[b]? = U.heap[b]?) := Lib.hid fun b hb => Below.heap_setCell U ⟨p, 2, none⟩ _ b (by
          have := HST5.out.pm
          show b ≠ p
          omega)
        have HPS : Hid ((U.setCell ⟨p, 2, none⟩ (.slice UA KL.length uc)).heap.size = U.heap.size) := Lib.hid (by simp [World.setCell])
        clear g2 f2
        generalize U.setCell ⟨p, 2, none⟩ (.slice UA KL.length uc) = W9 at *
        obtain ⟨z0, hz0, hz1⟩ := HST6.out.wb
        have HZ0 := Lib.hid (And.intro hz0 hz1)
        have HL9 : Hid (([.int .i64 k, .slice NA2 ns.length nc2, .slice UA KL.length uc] : List Value).length = 3) := Lib.hid rfl
        clear hz0 hz1
        go_wp2_with (first | ((with_reducible refine wl_sload 45 _ rfl ?hwl1 (p) (0) ([.int .i64 k, .slice NA2 ns.length nc2, .slice UA KL.length uc]) _ rfl HST6.out.wa.range Tryz.underlying45 rfl ?hil1 ?_); (case hwl1 => (exact wantA rfl)); (case hil1 => rw [HL9.out]; kernel_rfl)) | ((with_reducible refine wl_wstore 45 _ _ rfl rfl ?hww2 (q) (z0) ([.int .i64 k, .slice NA2 ns.length nc2, .slice UA KL.length uc]) HZ0.out.2 ?hl2 ?hxx2 ?hyy2 ?hii2 ?h12 ?_); (case hww2 => (exact wantA rfl)); (case hl2 => rw [HZ0.out.1]; rfl); (case hxx2 => rfl); (case hyy2 => rfl); (case hii2 => kernel_rfl); (case h12 => exact (tyC_one _ _ _ _ _ _ _)); intro Z9 hz hb; have HZZ9 := Lib.hid hz; have HBZ9 := Lib.hid hb; clear hz hb))
        (try simp only [Exit.inBlock, Exit.then])
        refine bodyPost_ret (results_t1 rfl _ _ q [.int .i64 k, .slice NA2 ns.length nc2, .slice UA KL.length uc] rfl rfl HZZ9.out) rfl ?_
        have hsz : U.heap.size ≤ Z9.heap.size := by rw [← HPS.out]; exact HBZ9.out.size
        have hblk : ∀ b, m ≤ b → b < U.heap.size → Z9.heap[b]? = U.heap[b]? := fun b hb hlt => by
          have h1 := HST6.out.qm
          rw [HBZ9.out.block b (by rw [HPS.out]; exact hlt) (by omega) (by omega)]
          exact HP.out b hb
        have hbel : Below w.heap.size w Z9 := HST6.out.bel.trans (HBZ9.out.below HST6.out.bel.size HST6.out.wq HST6.out.wq)
        have h34 := HBU.out
        have hrow := HI.out.row (q := fun b => w.heap.size ≤ b) (u' := Z9) (by rw [List.take_length]; exact HIL.out) (fun b hb hlt => by
          have hm : m ≤ b := by
            rcases hb with hb | hb
            · exact hb.elim
            · exact Nat.le_trans HST4.out.mw hb
          exact ⟨Nat.le_trans HMP.out hm, hblk b hm hlt⟩) hsz
        rw [List.take_length] at hrow
        refine ⟨_, rfl, TypAt.of HK.out (HK3.out.to (fun b hb hlt => ⟨Nat.le_trans HMP.out hb, ?_⟩) (Nat.le_trans h34.size hsz)) HIL.out ?_, hbel, ?_⟩
        · rw [hblk b hb (Nat.lt_of_lt_of_le hlt h34.size)]
          exact h34.block b hlt
        · rw [HKLN.out] at hrow ⊢
          exact hrow
        · intro v hv
          injection hv with hv
          subst hv
          refine ThW.own HI.out.own fun b e => ?_
          have h1 := World.ownsRow.lt HI.out.own b e
          have h2 := HST4.out.mw
          have h3 := HMP.out
          exact ⟨by show w.heap.size ≤ b; omega, hblk b (by omega) h1.2⟩
      | succ g =>
        have hlt : (j : Int) < (its.length : Int) := by omega
        have hln : its.length ≤ 9223372036854775807 := HLN.out
        obtain ⟨y, hy⟩ : ∃ y, its[j]? = some y := ⟨_, List.getElem?_eq_getElem (by omega)⟩
        obtain ⟨b, o, rfl, hbb, hc⟩ := HA.out (by omega)
        obtain ⟨ks, hkl, hr, hR⟩ := hc j y hy
        have HR := Lib.hid (rangeAt_below hr HST5.out.bel hbb)
        have HKL := Lib.hid hkl
        have HONE := Lib.hid hR.one
        have HV := Lib.hid (fun z (hz : Below U.heap.size U z) => (hR.under (HST5.out.bel.trans (hz.mono HST5.out.bel.size))).more (HST5.out.bel.trans (hz.mono HST5.out.bel.size)).size)
        have HYM := Lib.hid (List.mem_of_getElem? hy)
        have HTK : Hid (its.take (j + 1) = its.take j ++ [y]) := Lib.hid (take_at hy)
        clear hc hr hR hy hkl
        go_upto_region 6 with (first | ((with_reducible refine wl_sload 45 _ rfl ?hwl3 (b) (o + j * 3) (ks) _ rfl HR.out Tryz.underlying45 rfl ?hil3 ?_); (case hwl3 => (exact wantA rfl)); (case hil3 => rw [HKL.out]; kernel_rfl)) | ((with_reducible refine wl_sbox 45 _ _ rfl ?hwx4 U ?zz4 (ks) ?hwld4 ?hz4 ?hx4 ?hy4 ?hi4 ?h14 ?_); (case hwld4 => rfl); (case hx4 => rfl); (case hy4 => rfl); (case hwx4 => (exact wantA rfl)); (case hz4 => rw [HKL.out]; rfl); (case hi4 => rw [HKL.out]; kernel_rfl); (case h14 => exact HONE.out); intro Z hZ; have HX := Lib.hid hZ; clear hZ))
        have HIY := Lib.hid (IH.out y HYM.out ks Z (HV.out Z HX.out.below))
        have HRZ := Lib.hid HX.out.range
        have HBX := Lib.hid HX.out.below
        obtain ⟨xb, hxb⟩ : ∃ eb, U.heap.size = eb := ⟨_, rfl⟩
        rw [hxb] at HRZ
        (try rw [hxb])
        obtain ⟨jt, hi, hz0, hz1, hz2⟩ := info_partsV info_typ
        have HT0 := Lib.hid hi
        have HT1 := Lib.hid hz0
        have HT2 := Lib.hid hz1
        have HT3 := Lib.hid hz2
        clear hi hz0 hz1 hz2 hxb HX HR
        go_wp2_with (first | ((with_reducible refine wl_sload 45 _ rfl ?hwl5 (xb) (0) (ks) _ rfl HRZ.out Tryz.underlying45 rfl ?hil5 ?_); (case hwl5 => (exact wantA rfl)); (case hil5 => rw [HKL.out]; kernel_rfl)) | (go_at_call 32; fail))
        refine HIY.out.mono ?_
        rintro e u6 ⟨c6, rfl, hk6, hb6, -⟩
        have HK6 := Lib.hid hk6
        have HB6 := Lib.hid hb6
        have HL6 := Lib.hid (typ_one hk6.typ).1
        have HO6 := Lib.hid (typ_one hk6.typ).2
        clear hk6 hb6 HIY HRZ
        have HC7 : Hid (∀ i u, (enc3 ⟨c6, HL6.out⟩)[i]? = some u → (u6.alloc (.cells ⟨c6⟩ 45)).cell? ⟨u6.heap.size, i, none⟩ = some u) := Lib.hid (cells_box u6 c6 45)
        have HB7 := Lib.hid (box_below u6 (.cells ⟨c6⟩ 45))
        have HU6 : Hid (Below U.heap.size U u6) := Lib.hid (HBX.out.trans (HB6.out.mono HBX.out.size))
        have HU7 : Hid (Below U.heap.size U (u6.alloc (.cells ⟨c6⟩ 45))) := Lib.hid (HU6.out.trans (HB7.out.mono HU6.out.size))
        have HS7 : Hid (W3.heap.size ≤ (u6.alloc (.cells ⟨c6⟩ 45)).heap.size) := Lib.hid (Nat.le_trans HBU.out.size HU7.out.size)
        have HOW : Hid (OwnSl 45 3 enc3 (u6.alloc (.cells ⟨c6⟩ 45)) W3.heap.size (.slice UA KL.length uc) KL) := Lib.hid (HI.out.own.below HU7.out)
        have HKJ : Hid (KL.length ≤ its.length) := Lib.hid (by rw [HI.out.len, List.length_take]; omega)
        have HM63 : Hid (KL.length + 1 ≤ maxLen) := Lib.hid (by have := HKJ.out; have := HB56.out; unfold maxLen; omega)
        have HM56 : Hid ((KL.length + 1) * 56 ≤ 140737488355328) := Lib.hid (by have := HKJ.out; have := HB56.out; omega)
        go_wp2_with (first | ((with_reducible refine wl_build1 43 _ rfl ?hw3 45 jt _ c6 ?hx3 Tryz.underlying43 HT0.out HT1.out ?hs3 ?h03 ?hm3 ?_); (case hw3 => (exact wantA rfl)); (case hx3 => rfl); (case hs3 => rw [HL6.out, HT2.out]); (case h03 => rw [HL6.out]; decide); (case hm3 => rw [HL6.out]; decide)) | (at_builtin; refine wl_push6 rfl _ _ 43 rfl W3.heap.size 45 jt _ 3 56 enc3 Tryz.underlying43 HT0.out HT1.out HT2.out HT3.out rfl (by decide) enc3_len _ KL rfl HOW.out u6.heap.size 1 ⟨c6, HL6.out⟩ HO6.out rfl HC7.out HM63.out HM56.out HS7.out ?_; intro v' u8 hown8 hg8 hb8; have HN : Hid (RowT (fun _ => False) W3.heap.size u8 v' (its.take (j + 1)) (KL ++ [⟨c6, HL6.out⟩])) := Lib.hid (by rw [HTK.out]; exact HI.out.next (fun b hb => hb.elim) HU6.out HB7.out (HK6.out.to (fun b hb hlt => ⟨.inr (Nat.le_trans HBX.out.size hb), rfl⟩) (Nat.le_refl _)) hown8 hg8 hb8); have HNB : Hid (Below W3.heap.size W3 u8) := Lib.hid ((HBU.out.trans (HU7.out.mono HBU.out.size)).grown hg8 HS7.out fun b hb => HI.out.own.block hb); clear hown8 hg8 hb8))
        go_roundg g
        case measure => omega
        case rel => exact ⟨j + 1, _, by omega, by go_num, HN.out, HNB.out⟩
end Go.Proofs.YtpmjcbjdcjjplaaGreat
end
section
namespace Go.Proofs.YtpmjcbjdcjjplaaGreat
open Go Go.RowKit
set_option linter.unusedVariables false
set_option linter.unusedSimpArgs false
mutual
def canE : ET → ET
  | .mk k s v ns its => .mk k s (canonV v) ns (canEL its)
def canEL : List ET → List ET
  | [] => []
  | a :: l => canE a :: canEL l
end
theorem canEL_map : ∀ l : List ET, canEL l = l.map canE
  | [] => by rw [canEL]; rfl
  | a :: l => by rw [canEL, canEL_map l]; rfl
inductive FitX : ET → Prop where
  | mk {k : Int} {s : ByteArray} {v : VT} {ns : List ByteArray} {its : List ET} (h0 : Fit v) (h1 : ns.length * 16 ≤ reachBytes) (h2 : its.length * 160 ≤ reachBytes) (h3 : ∀ x ∈ its, FitX x) : FitX (.mk k s v ns its)
theorem FitX.inv {k : Int} {s : ByteArray} {v : VT} {ns : List ByteArray} {its : List ET} (h : FitX (.mk k s v ns its)) : Fit v ∧ ns.length * 16 ≤ reachBytes ∧ its.length * 160 ≤ reachBytes ∧ ∀ x ∈ its, FitX x := by
  cases h with
  | mk h0 h1 h2 h3 => exact ⟨h0, h1, h2, h3⟩
def setLX : List Value → Nat → List Value → List Value
  | l, _, [] => l
  | l, i, v :: r => setLX (l.set i v) (i + 1) r
theorem Two2.puts {T : TypeId} {n : Nat} {w : World} {p q m : Nat} : ∀ (vs : List Value) (i : Nat) (cs : List Value) (W : World), Two2 T n w W p q m cs → Two2 T n w (W.setCells p i vs) p q m (setLX cs i vs)
  | [], _, _, _, h => h
  | v :: r, i, cs, W, h => Two2.puts r (i + 1) _ _ (h.put i v)
theorem heap_setsX (b k : Nat) (hk : k ≠ b) : ∀ (cs : List Value) (w : World) (i : Nat), (w.setCells b i cs).heap[k]? = w.heap[k]?
  | [], _, _ => rfl
  | v :: r, w, i => (heap_setsX b k hk r (w.setCell ⟨b, i, none⟩ v) (i + 1)).trans (Below.heap_setCell w ⟨b, i, none⟩ v k hk)
theorem size_setsX (b : Nat) : ∀ (cs : List Value) (w : World) (i : Nat), (w.setCells b i cs).heap.size = w.heap.size
  | [], _, _ => rfl
  | v :: r, w, i => (size_setsX b r (w.setCell ⟨b, i, none⟩ v) (i + 1)).trans (by simp [World.setCell])
section
variable {P : Program} {ops : Array Oper} {S : World → Prop} {Q : Exit → Act → World → Prop} {i : Nat} {r : List (Nat × Nat)} {a : Act} {w : World}
theorem o3_sstore (T : TypeId) {o : Oper} {x y : Operand} (hi : ops[i]? = some o) (ho : o.op = .store T x y) (hd : o.dst = none) (hw : Region.wanted o (yielded ops a.tmps) = true) (b ofs : Nat) (cs : List Value)
    (hx : a.eval x = .pointer (some ⟨b, ofs, none⟩)) (hy : a.eval y = .agg cs.toArray) (ht : w.there b ofs cs.length) (hi2 : (P.info? T).map (·.size) = some cs.length) (h1 : ∀ v ∈ cs, v.oneCell' = true)
    (h : wpOrd3 P ops S Q r a (w.setCells b ofs cs)) : wpOrd3 P ops S Q ((i, 3) :: r) a w := by
  show wpOp P ops Q i _ a w
  unfold wpOp
  simp only [hi, hw, if_true]
  refine .inl ?_
  exact wp_store_mid T x y ho b ofs cs.toArray hx hy (by simpa using ht) (by simpa using hi2) (all_oneCell_toArray h1) (by simpa [hd, Act.put] using h)
end
theorem o3_end {P : Program} {ops : Array Oper} {S : World → Prop} {Q : Exit → Act → World → Prop} {a : Act} {w : World} (h : Q .normal a w) : wpOrd3 P ops S Q [] a w := h
def OwnXP (t : ET) (w : World) (e : Ending) (w' : World) : Prop := ∃ cs', e = .returned (.agg ⟨cs'⟩) ∧ KeptX (fun b => w.heap.size ≤ b) w' cs' (canE t) ∧ Below w.heap.size w w' ∧ ∀ v, cs'[9]? = some v → ThW (only w' fun b => w.heap.size ≤ b) v
set_option maxHeartbeats 8000000 in
set_option maxRecDepth 100000 in
theorem mownE_any : ∀ (t : ET) (cs : List Value) (w : World), FitX t → ExpAt w w.heap.size cs t → Calls Tryz.prog 36 #[.agg ⟨cs⟩] w (OwnXP t w) := by
  intro t
  induction t using ET.ind with
  | h k s v ns its ih =>
    intro cs w hfit hv
    obtain ⟨v0, v1, v2, v3, v4, v5, vn0, vi0, rfl, hk, hs, hvv, hns, hil, hi⟩ := hv.inv
    obtain ⟨hft0, hft1, hft2, hft3⟩ := hfit.inv
    obtain ⟨-, A, c, rfl, hA⟩ := hi
    obtain ⟨-, NA, nc, rfl, -⟩ := id hns
    have HA := Lib.hid hA
    have HNS := Lib.hid hns
    have HVV := Lib.hid hvv
    have HKS := Lib.hid (And.intro hk hs)
    have HIL := Lib.hid hil
    have HF0 := Lib.hid hft0
    have HFN := Lib.hid hft1
    have IH : Hid (∀ x ∈ its, ∀ cs w, ExpAt w w.heap.size cs x → Calls Tryz.prog 36 #[.agg ⟨cs⟩] w (OwnXP x w)) := Lib.hid fun x hx cs w h => ih x hx cs w (hft3 x hx) h
    have HB160 : Hid (its.length * 160 ≤ 140737488351232) := Lib.hid hft2
    have HLN : Hid (its.length ≤ 9223372036854775807) := Lib.hid (Nat.le_trans hil maxLen_small)
    clear hA hv ih hfit hft0 hft1 hft2 hft3 hns hk hs hil hvv
    go_enter Tryz.func36, Tryz.ntmps36
    go_upto_region 1 with (fail)
    have HST := Lib.hid (two2_start 40 10 w [.int .i64 k, .string s, v0, v1, v2, v3, v4, v5, .slice NA ns.length nc, .slice A its.length c] [.int .i64 0, .string ⟨#[]⟩, .int .i64 0, .int .i64 0, .float .f64 0, .string ⟨#[]⟩, .slice none 0 0, .slice none 0 0, .slice none 0 0, .slice none 0 0] rfl)
    generalize ((w.alloc (.cells ⟨[.int .i64 k, .string s, v0, v1, v2, v3, v4, v5, .slice NA ns.length nc, .slice A its.length c]⟩ 40)).alloc (.cells ⟨[.int .i64 0, .string ⟨#[]⟩, .int .i64 0, .int .i64 0, .float .f64 0, .string ⟨#[]⟩, .slice none 0 0, .slice none 0 0, .slice none 0 0, .slice none 0 0]⟩ 40)) = W at *
    obtain ⟨m, hm⟩ : ∃ m, w.heap.size + 2 = m := ⟨_, rfl⟩
    obtain ⟨q, hq⟩ : ∃ q, w.heap.size + 1 = q := ⟨_, rfl⟩
    obtain ⟨p, hp⟩ : ∃ p, w.heap.size = p := ⟨_, rfl⟩
    rw [hm, hq] at HST
    have HST' : Hid (Two2 40 10 w W p q m [.int .i64 k, .string s, v0, v1, v2, v3, v4, v5, .slice NA ns.length nc, .slice A its.length c]) := Lib.hid (hp ▸ HST.out)
    have HMP : Hid (w.heap.size ≤ m) := Lib.hid (by omega)
    rw [hq, hp]
    clear HST hq hm hp
    refine wp_region_ord3 7 [(0, 0), (3, 0), (1, 1), (4, 1), (2, 2), (6, 0), (5, 2), (7, 3), (8, 0), (9, 3)] (fun z => Below W.heap.size W z) (by kernel_rfl) (by intro c a d v w h; cases d <;> exact h) (Below.refl _ _).drew ?_
    have hs : Below W.heap.size W W.drew := (Below.refl _ _).drew
    have HTZ : Hid (∀ z, Below W.heap.size W z → Two2 40 10 w z p q m [.int .i64 k, .string s, v0, v1, v2, v3, v4, v5, .slice NA ns.length nc, .slice A its.length c]) := Lib.hid fun z hz => HST'.out.below hz
    refine o3_pure 6 (.pointer (some ⟨p, 2, none⟩)) rfl rfl (by exact wantA rfl) (fun z => by go_simp) ?_
    go_frame
    refine o3_pure 9 (.pointer (some ⟨p, 8, none⟩)) rfl rfl (by exact wantA rfl) (fun z => by go_simp) ?_
    go_frame
    refine o3_load 7 (.agg ⟨[v0, v1, v2, v3, v4, v5]⟩) rfl rfl (by exact wantA rfl) hs (fun z hz => exec_sload 38 rfl p 2 [v0, v1, v2, v3, v4, v5] _ rfl (fun i u hu => by
      have h := (HTZ.out z hz).wa.range (2 + i) u (by
        have hi := (List.getElem?_eq_some_iff.1 hu).1
        rw [show 2 + i = i + 1 + 1 by omega, List.getElem?_cons_succ, List.getElem?_cons_succ, show ([v0, v1, v2, v3, v4, v5, .slice NA ns.length nc, .slice A its.length c] : List Value) = [v0, v1, v2, v3, v4, v5] ++ [.slice NA ns.length nc, .slice A its.length c] from rfl, List.getElem?_append_left hi]
        exact hu)
      rwa [Nat.zero_add] at h) Tryz.underlying38 rfl (by kernel_rfl)) ?_
    go_frame
    refine o3_load 10 (.slice NA ns.length nc) rfl rfl (by exact wantA rfl) hs (fun z hz => by have d8 := ((HTZ.out z hz).at 8 rfl).1; clear hz; go_simp) ?_
    go_frame
    refine o3_call 8 33 Tryz.func33 (by kernel_rfl) (by kernel_rfl) [.agg ⟨[v0, v1, v2, v3, v4, v5]⟩] rfl rfl rfl (by exact wantA rfl) rfl ?_
    refine (canon_any v _ _ HF0.out ((HVV.out.under (HST'.out.bel.trans (hs.mono HST'.out.bel.size))).more (HST'.out.bel.trans (hs.mono HST'.out.bel.size)).size)).mono ?_
    rintro e z1 ⟨cv, rfl, hkv, hb1⟩
    have hs1 : Below W.heap.size W z1 := hs.trans (hb1.mono hs.size)
    obtain ⟨hcl, hc1⟩ := val_one hkv.val
    obtain ⟨a0, a1, a2, a3, a4, a5, rfl⟩ : ∃ a b c d e f, cv = [a, b, c, d, e, f] := by
      match cv, hcl with
      | [a, b, c, d, e, f], _ => exact ⟨a, b, c, d, e, f, rfl⟩
    refine ⟨_, rfl, hs1, ?_⟩
    go_frame
    refine o3_pure 12 (.pointer (some ⟨p, 2, none⟩)) rfl rfl (by exact wantA rfl) (fun z => by go_simp) ?_
    go_frame
    refine o3_call 11 54 Tryz.func54 (by kernel_rfl) (by kernel_rfl) [.slice NA ns.length nc] rfl rfl rfl (by exact wantA rfl) rfl ?_
    refine (clone_names z1 (.slice NA ns.length nc) ns ((HNS.out.below (HST'.out.bel.trans (hs1.mono HST'.out.bel.size)) fun _ _ _ h => h).more (HST'.out.bel.trans (hs1.mono HST'.out.bel.size)).size) HFN.out).mono ?_
    rintro e z2 ⟨v', rfl, hb2, hkn⟩
    obtain ⟨-, NA2, nc2, rfl, -⟩ := id hkn
    have hs2 : Below W.heap.size W z2 := hs1.trans (hb2.mono hs1.size)
    refine ⟨_, rfl, hs2, ?_⟩
    go_frame
    have HT2 := Lib.hid (HST'.out.below hs2)
    have hth : z2.there p 2 6 := fun i hi => by
      have h := HT2.out.wa.there (2 + i) (by show 2 + i < 10; omega)
      rwa [Nat.zero_add] at h
    refine o3_sstore 38 rfl rfl rfl (by exact wantA rfl) p 2 [a0, a1, a2, a3, a4, a5] rfl rfl hth (by kernel_rfl) hc1 ?_
    have HT3 : Hid (Two2 40 10 w (z2.setCells p 2 [a0, a1, a2, a3, a4, a5]) p q m [.int .i64 k, .string s, a0, a1, a2, a3, a4, a5, .slice NA ns.length nc, .slice A its.length c]) := Lib.hid (HT2.out.puts [a0, a1, a2, a3, a4, a5] 2)
    have HSZ3 : Hid ((z2.setCells p 2 [a0, a1, a2, a3, a4, a5]).heap.size = z2.heap.size) := Lib.hid (size_setsX _ _ _ _)
    have HBL3 : Hid (∀ b, b ≠ p → (z2.setCells p 2 [a0, a1, a2, a3, a4, a5]).heap[b]? = z2.heap[b]?) := Lib.hid fun b hb => heap_setsX _ _ hb _ _ _
    have HKV := Lib.hid hkv
    have HKN := Lib.hid hkn
    have HB1 := Lib.hid hb1
    have HB2 := Lib.hid hb2
    have HS1 := Lib.hid hs1
    have HS2 := Lib.hid hs2
    have HC1 := Lib.hid hc1
    clear hth hkv hkn hb1 hb2 hs hs1 hs2 hc1 hcl HTZ
    generalize z2.setCells p 2 [a0, a1, a2, a3, a4, a5] = z3 at *
    refine o3_pure 13 (.pointer (some ⟨p, 8, none⟩)) rfl rfl (by exact wantA rfl) (fun z => by go_simp) ?_
    go_frame
    have d8 := (HT3.out.at 8 rfl).1
    have f8 := (HT3.out.at 8 rfl).2
    refine o3_store (z3.setCell ⟨p, 8, none⟩ (.slice NA2 ns.length nc2)) rfl rfl (by exact wantA rfl) (by go_simp) ?_
    have HT4 : Hid (Two2 40 10 w (z3.setCell ⟨p, 8, none⟩ (.slice NA2 ns.length nc2)) p q m [.int .i64 k, .string s, a0, a1, a2, a3, a4, a5, .slice NA2 ns.length nc2, .slice A its.length c]) := Lib.hid (HT3.out.put 8 (.slice NA2 ns.length nc2))
    have HSZ4 : Hid ((z3.setCell ⟨p, 8, none⟩ (.slice NA2 ns.length nc2)).heap.size = z2.heap.size) := Lib.hid (by rw [← HSZ3.out]; simp [World.setCell])
    have HBL4 : Hid (∀ b, b ≠ p → (z3.setCell ⟨p, 8, none⟩ (.slice NA2 ns.length nc2)).heap[b]? = z2.heap[b]?) := Lib.hid fun b hb => (Below.heap_setCell z3 ⟨p, 8, none⟩ _ b hb).trans (HBL3.out b hb)
    clear d8 f8 HT3 HSZ3 HBL3
    generalize z3.setCell ⟨p, 8, none⟩ (.slice NA2 ns.length nc2) = W3 at *
    have HK3 : Hid (KeptS (fun b => m ≤ b) W3 (.slice NA2 ns.length nc2) ns) := Lib.hid (HKN.out.to (fun b hb hlt => ⟨Nat.le_trans HST'.out.mw (Nat.le_trans HS1.out.size hb), HBL4.out b (by
      have h1 := HST'.out.mw
      have h2 := HST'.out.pm
      have h3 := HS1.out.size
      omega)⟩) (by rw [HSZ4.out]; exact Nat.le_refl _))
    have HV3 : Hid (Kept (fun b => m ≤ b) W3 [a0, a1, a2, a3, a4, a5] (canonV v)) := Lib.hid (HKV.out.to (fun b hb hlt => ⟨Nat.le_trans HST'.out.mw hb, by
      have h1 := HST'.out.mw
      have h2 := HST'.out.pm
      have h4 : W.heap.size ≤ b := hb
      rw [HBL4.out b (by omega)]
      exact HB2.out.block b hlt⟩) (by rw [HSZ4.out]; exact HB2.out.size))
    have HWW : Hid (W.heap.size ≤ W3.heap.size) := Lib.hid (by rw [HSZ4.out]; exact HS2.out.size)
    clear HKN HKV HB1 HB2 HS1 HS2 HBL4 HSZ4 HT2 HNS HVV HF0 HFN
    refine o3_end ?_
    have d9 := (HT4.out.at 9 rfl).1
    go_upto_region 4 with (fail)
    clear d9
    go_loopg [3, 17] its.length (fun g v i u => ∃ (j : Nat) (KL : List C10), j + g = its.length ∧ i = .int .i64 j ∧ OwnE 40 0 W3 u v (its.map canE) j KL)
    case atStart => exact ⟨0, [], by omega, rfl, OwnE.start _ _ _ (Nat.zero_le _)⟩
    case round =>
      obtain ⟨j, KL, hj, rfl, hI⟩ := hrel
      have HI := Lib.hid hI
      clear hI
      obtain ⟨UA, uc, rfl⟩ := own_formE HI.out.own
      have HST5 := Lib.hid (HT4.out.below HI.out.bel)
      obtain ⟨U, hU⟩ : ∃ z, z = wr := ⟨_, rfl⟩
      subst hU
      cases gk with
      | zero =>
        have hge : ¬ ((j : Int) < (its.length : Int)) := by omega
        obtain rfl : j = its.length := by omega
        have HKLN : Hid (KL.length = its.length) := Lib.hid HI.out.len
        have g9 := (HST5.out.at 9 rfl).1
        have f9 := (HST5.out.at 9 rfl).2
        go_upto_region 9 with (fail)
        have HST6 : Hid (Two2 40 10 w (U.setCell ⟨p, 9, none⟩ (.slice UA KL.length uc)) p q m [.int .i64 k, .string s, a0, a1, a2, a3, a4, a5, .slice NA2 ns.length nc2, .slice UA KL.length uc]) := Lib.hid (HST5.out.put 9 (.slice UA KL.length uc))
        have HP : Hid (∀ b, m ≤ b → (U.setCell ⟨p, 9, none⟩ (.slice UA KL.length uc)).heap[b]? = U.heap[b]?) := Lib.hid fun b hb => Below.heap_setCell U ⟨p, 9, none⟩ _ b (by
          have := HST5.out.pm
          show b ≠ p
          omega)
        have HPS : Hid ((U.setCell ⟨p, 9, none⟩ (.slice UA KL.length uc)).heap.size = U.heap.size) := Lib.hid (by simp [World.setCell])
        clear g9 f9
        generalize U.setCell ⟨p, 9, none⟩ (.slice UA KL.length uc) = W9 at *
        obtain ⟨z0, hz0, hz1⟩ := HST6.out.wb
        have HZ0 := Lib.hid (And.intro hz0 hz1)
        have HL9 : Hid (([.int .i64 k, .string s, a0, a1, a2, a3, a4, a5, .slice NA2 ns.length nc2, .slice UA KL.length uc] : List Value).length = 10) := Lib.hid rfl
        have HON : Hid (∀ v ∈ ([.int .i64 k, .string s, a0, a1, a2, a3, a4, a5, .slice NA2 ns.length nc2, .slice UA KL.length uc] : List Value), v.oneCell' = true) := Lib.hid (by
          intro u hu
          simp only [List.mem_cons, List.not_mem_nil, or_false] at hu
          rcases hu with rfl | rfl | h | h | h | h | h | h | rfl | rfl
          · rfl
          · rfl
          · exact HC1.out u (by rw [h]; simp)
          · exact HC1.out u (by rw [h]; simp)
          · exact HC1.out u (by rw [h]; simp)
          · exact HC1.out u (by rw [h]; simp)
          · exact HC1.out u (by rw [h]; simp)
          · exact HC1.out u (by rw [h]; simp)
          · rfl
          · rfl)
        clear hz0 hz1
        go_wp2_with (first | ((with_reducible refine wl_sload 40 _ rfl ?hwl1 (p) (0) ([.int .i64 k, .string s, a0, a1, a2, a3, a4, a5, .slice NA2 ns.length nc2, .slice UA KL.length uc]) _ rfl HST6.out.wa.range Tryz.underlying40 rfl ?hil1 ?_); (case hwl1 => (exact wantA rfl)); (case hil1 => rw [HL9.out]; kernel_rfl)) | ((with_reducible refine wl_wstore 40 _ _ rfl rfl ?hww2 (q) (z0) ([.int .i64 k, .string s, a0, a1, a2, a3, a4, a5, .slice NA2 ns.length nc2, .slice UA KL.length uc]) HZ0.out.2 ?hl2 ?hxx2 ?hyy2 ?hii2 ?h12 ?_); (case hww2 => (exact wantA rfl)); (case hl2 => rw [HZ0.out.1]; rfl); (case hxx2 => rfl); (case hyy2 => rfl); (case hii2 => kernel_rfl); (case h12 => exact HON.out); intro Z9 hz hb; have HZZ9 := Lib.hid hz; have HBZ9 := Lib.hid hb; clear hz hb))
        (try simp only [Exit.inBlock, Exit.then])
        refine bodyPost_ret (results_exp rfl _ _ q [.int .i64 k, .string s, a0, a1, a2, a3, a4, a5, .slice NA2 ns.length nc2, .slice UA KL.length uc] rfl rfl HZZ9.out) rfl ?_
        have hsz : U.heap.size ≤ Z9.heap.size := by rw [← HPS.out]; exact HBZ9.out.size
        have hblk : ∀ b, m ≤ b → b < U.heap.size → Z9.heap[b]? = U.heap[b]? := fun b hb hlt => by
          have h1 := HST6.out.qm
          rw [HBZ9.out.block b (by rw [HPS.out]; exact hlt) (by omega) (by omega)]
          exact HP.out b hb
        have hbel : Below w.heap.size w Z9 := HST6.out.bel.trans (HBZ9.out.below HST6.out.bel.size HST6.out.wq HST6.out.wq)
        have h34 := HI.out.bel
        have hml : m ≤ W3.heap.size := HT4.out.mw
        have hI := HI.out
        rw [show its.length = (its.map canE).length by rw [List.length_map]] at hI
        have hrow := hI.row (B2 := m) (u' := Z9) (by rw [List.length_map]; exact HIL.out) hml (fun b hb hlt => hblk b (by
          rcases hb with hb | hb
          · omega
          · omega) hlt) hsz
        have hto : ∀ a v, (only Z9 (fun b => b < 0 ∨ m ≤ b)).cell? a = some v → (only Z9 (fun b => w.heap.size ≤ b)).cell? a = some v := fun a v hv => by
          obtain ⟨h1, h2⟩ := only_cell.1 hv
          refine only_cell.2 ⟨?_, h2⟩
          have hm := HMP.out
          rcases h1 with h1 | h1
          · omega
          · omega
        refine ⟨_, rfl, ?_, hbel, fun v hv => ?_⟩
        rotate_left
        · injection hv with hv
          subst hv
          refine ThW.own HI.out.own fun b e => ?_
          have h1 := World.ownsRow.lt HI.out.own b e
          have h3 := HMP.out
          exact ⟨by show w.heap.size ≤ b; omega, hblk b (by omega) h1.2⟩
        show ExpAt (only Z9 fun b => w.heap.size ≤ b) Z9.heap.size _ (canE (.mk k s v ns its))
        rw [canE, canEL_map]
        refine ExpAt.of HKS.out.1 HKS.out.2 (HV3.out.to (fun b hb hlt => ⟨Nat.le_trans HMP.out hb, (hblk b hb (Nat.lt_of_lt_of_le hlt h34.size)).trans (h34.block b hlt)⟩) (Nat.le_trans h34.size hsz)) (HK3.out.to (fun b hb hlt => ⟨Nat.le_trans HMP.out hb, (hblk b hb (Nat.lt_of_lt_of_le hlt h34.size)).trans (h34.block b hlt)⟩) (Nat.le_trans h34.size hsz)) (by rw [List.length_map]; exact HIL.out) ?_
        rw [HKLN.out] at hrow ⊢
        exact hrow.cellsB (fun a v _ hv => hto a v hv) fun cs x _ hx => ExpAt.cells hx hto
      | succ g =>
        have hlt : (j : Int) < (its.length : Int) := by omega
        have hln : its.length ≤ 9223372036854775807 := HLN.out
        obtain ⟨y, hy⟩ : ∃ y, its[j]? = some y := ⟨_, List.getElem?_eq_getElem (by omega)⟩
        obtain ⟨b, o, rfl, hbb, hc⟩ := HA.out (by omega)
        obtain ⟨ks, hkl, hr, hR⟩ := hc j y hy
        have HR := Lib.hid (rangeAt_below hr HST5.out.bel hbb)
        have HKL := Lib.hid hkl
        have HONE := Lib.hid hR.one
        have HV := Lib.hid (fun z (hz : Below U.heap.size U z) => (hR.under (HST5.out.bel.trans (hz.mono HST5.out.bel.size))).more (HST5.out.bel.trans (hz.mono HST5.out.bel.size)).size)
        have HYM := Lib.hid (List.mem_of_getElem? hy)
        have HMY : Hid ((its.map canE)[j]? = some (canE y)) := Lib.hid (by rw [List.getElem?_map, hy]; rfl)
        clear hc hr hR hy hkl
        go_upto_region 6 with (first | ((with_reducible refine wl_sload 40 _ rfl ?hwl3 (b) (o + j * 10) (ks) _ rfl HR.out Tryz.underlying40 rfl ?hil3 ?_); (case hwl3 => (exact wantA rfl)); (case hil3 => rw [HKL.out]; kernel_rfl)) | ((with_reducible refine wl_sbox 40 _ _ rfl ?hwx4 U ?zz4 (ks) ?hwld4 ?hz4 ?hx4 ?hy4 ?hi4 ?h14 ?_); (case hwld4 => rfl); (case hx4 => rfl); (case hy4 => rfl); (case hwx4 => (exact wantA rfl)); (case hz4 => rw [HKL.out]; rfl); (case hi4 => rw [HKL.out]; kernel_rfl); (case h14 => exact HONE.out); intro Z hZ; have HX := Lib.hid hZ; clear hZ))
        have HIY := Lib.hid (IH.out y HYM.out ks Z (HV.out Z HX.out.below))
        have HRZ := Lib.hid HX.out.range
        have HBX := Lib.hid HX.out.below
        obtain ⟨xb, hxb⟩ : ∃ eb, U.heap.size = eb := ⟨_, rfl⟩
        rw [hxb] at HRZ
        (try rw [hxb])
        obtain ⟨jt, hi, hz0, hz1, hz2⟩ := info_partsE info_exprO
        have HT0 := Lib.hid hi
        have HT1 := Lib.hid hz0
        have HT2 := Lib.hid hz1
        have HT3 := Lib.hid hz2
        clear hi hz0 hz1 hz2 hxb HX HR
        go_wp2_with (first | ((with_reducible refine wl_sload 40 _ rfl ?hwl5 (xb) (0) (ks) _ rfl HRZ.out Tryz.underlying40 rfl ?hil5 ?_); (case hwl5 => (exact wantA rfl)); (case hil5 => rw [HKL.out]; kernel_rfl)) | (go_at_call 36; fail))
        refine HIY.out.mono ?_
        rintro e u6 ⟨c6, rfl, hk6, hb6, -⟩
        have HK6 := Lib.hid hk6
        have HB6 := Lib.hid hb6
        have HL6 := Lib.hid (eslen hk6.exp)
        have HO6 := Lib.hid hk6.exp.one
        clear hk6 hb6 HIY HRZ
        have HC7 : Hid (∀ i u, (enc10 ⟨c6, HL6.out⟩)[i]? = some u → (u6.alloc (.cells ⟨c6⟩ 40)).cell? ⟨u6.heap.size, i, none⟩ = some u) := Lib.hid (cells_box u6 c6 40)
        have HB7 := Lib.hid (box_below u6 (.cells ⟨c6⟩ 40))
        have HU6 : Hid (Below U.heap.size U u6) := Lib.hid (HBX.out.trans (HB6.out.mono HBX.out.size))
        have HU7 : Hid (Below U.heap.size U (u6.alloc (.cells ⟨c6⟩ 40))) := Lib.hid (HU6.out.trans (HB7.out.mono HU6.out.size))
        have HS7 : Hid (W3.heap.size ≤ (u6.alloc (.cells ⟨c6⟩ 40)).heap.size) := Lib.hid (Nat.le_trans HI.out.bel.size HU7.out.size)
        have HOW : Hid (OwnSl 40 10 enc10 (u6.alloc (.cells ⟨c6⟩ 40)) W3.heap.size (.slice UA KL.length uc) KL) := Lib.hid (HI.out.own.below HU7.out)
        have HM63 : Hid (KL.length + 1 ≤ maxLen) := Lib.hid (by have := HI.out.len; have := HB160.out; unfold maxLen; omega)
        have HM160 : Hid ((KL.length + 1) * 160 ≤ 140737488355328) := Lib.hid (by have := HI.out.len; have := HB160.out; omega)
        go_wp2_with (first | ((with_reducible refine wl_build1 33 _ rfl ?hw3 40 jt _ c6 ?hx3 Tryz.underlying33 HT0.out HT1.out ?hs3 ?h03 ?hm3 ?_); (case hw3 => (exact wantA rfl)); (case hx3 => rfl); (case hs3 => rw [HL6.out, HT2.out]); (case h03 => rw [HL6.out]; decide); (case hm3 => rw [HL6.out]; decide)) | (at_builtin; refine wl_push10 rfl _ _ 33 rfl W3.heap.size 40 jt _ 10 160 enc10 Tryz.underlying33 HT0.out HT1.out HT2.out HT3.out rfl (by decide) enc10_len _ KL rfl HOW.out u6.heap.size 1 ⟨c6, HL6.out⟩ HO6.out rfl HC7.out HM63.out HM160.out HS7.out ?_; intro v' u8 hown8 hg8 hb8; have HN := Lib.hid (HI.out.next HBX.out HB6.out HB7.out HMY.out (HK6.out.to (fun b hb hlt => ⟨.inr hb, rfl⟩) (Nat.le_refl _)) hown8 hg8 hb8); clear hown8 hg8 hb8))
        go_roundg g
        case measure => omega
        case rel => exact ⟨j + 1, _, by omega, by go_num, HN.out⟩
end Go.Proofs.YtpmjcbjdcjjplaaGreat
end
