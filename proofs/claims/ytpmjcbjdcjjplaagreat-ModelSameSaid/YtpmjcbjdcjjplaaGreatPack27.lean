/- Parts of a proof: VCanon, VCanon2. -/
import Derived.Test.YtpmjcbjdcjjplaaGreatPack9
import Derived.Test.YtpmjcbjdcjjplaaGreatPack10
import Derived.Test.YtpmjcbjdcjjplaaGreatPack15
import Derived.Test.YtpmjcbjdcjjplaaGreatPack16
import Derived.Test.YtpmjcbjdcjjplaaGreatPack25
import Derived.Test.YtpmjcbjdcjjplaaGreatPack26
section
namespace Go.Proofs.YtpmjcbjdcjjplaaGreat
open Go Go.RowKit
set_option linter.unusedVariables false
theorem fcanon_any (f : Nat) (w : World) : Calls Tryz.prog 55 #[.float .f64 f] w fun e w' => e = .returned (.float .f64 (canonF f)) ∧ w' = w := by
  have hn0 : nanB f = (FloatKind.f64.format.order f f != some .eq) := rfl
  cases hn : nanB f with
  | true =>
    have hz : canonF f = 9221120237041090560 := by unfold canonF; rw [if_pos hn]
    rw [hz]
    have t1 : (FloatKind.f64.format.order f f != some .eq) = true := hn0.symm.trans hn
    have e1 : ∀ W : World, (callFunc 69 #[.int .u64 9221120237041090560]).run Tryz.prog W = .ok (.value (.float .f64 9221120237041090560)) W := fun W => by
      rw [run_callFunc_extern Tryz.func69 (by kernel_rfl) (by kernel_rfl) (by kernel_rfl) (e := Extern.MathFloatBits.float64frombits) (by kernel_rfl)]
      rfl
    clear hn0 hn hz
    go_enter Tryz.func55, Tryz.ntmps55
    go_wp2
    go_ret
    exact ⟨rfl, rfl⟩
  | false =>
    have hz : canonF f = f := by unfold canonF; rw [if_neg (by rw [hn]; decide)]
    rw [hz]
    have t1 : (FloatKind.f64.format.order f f != some .eq) = false := hn0.symm.trans hn
    clear hn0 hn hz
    go_enter Tryz.func55, Tryz.ntmps55
    go_wp2
    go_ret
    exact ⟨rfl, rfl⟩
end Go.Proofs.YtpmjcbjdcjjplaaGreat
end
section
namespace Go.Proofs.YtpmjcbjdcjjplaaGreat
open Go Go.RowKit
set_option linter.unusedVariables false
theorem run_store_float {P : Program} {w : World} {a : Addr} {m : Mode} (k : FloatKind) (x : Nat) : (store a (.float k x) m).run P w = stored P w a (.float k x) m := run_store P w a _ m rfl
attribute [local go_sem] run_store_float
theorem size_put (w : World) (p : Addr) (v : Value) : (w.setCell p v).heap.size = w.heap.size := by simp [World.setCell]
theorem heap_puts (b k : Nat) (hk : k ≠ b) : ∀ (cs : List Value) (w : World) (i : Nat), (w.setCells b i cs).heap[k]? = w.heap[k]?
  | [], _, _ => rfl
  | v :: cs, w, i => by
    show ((w.setCell ⟨b, i, none⟩ v).setCells b (i + 1) cs).heap[k]? = _
    rw [heap_puts b k hk cs]
    exact Below.heap_setCell w ⟨b, i, none⟩ v k hk
def L6 (a b c d e f : Value) (i : Nat) : Value := [a, b, c, d, e, f].getD i undef
structure CanSt (w W : World) (p q m : Nat) (f : Nat → Value) : Prop where
  ra : RowF W p 6 f
  rb : ∃ z, RowF W q 6 z
  bel : Below w.heap.size w W
  wp : w.heap.size ≤ p
  wq : w.heap.size ≤ q
  ne : p ≠ q
  pm : p < m
  qm : q < m
  mw : m ≤ W.heap.size
section
variable {w W W' : World} {p q m : Nat} {f f' : Nat → Value}
theorem CanSt.below (h : CanSt w W p q m f) (hb : Below W.heap.size W W') : CanSt w W' p q m f :=
  ⟨h.ra.below hb (Nat.lt_of_lt_of_le h.pm h.mw), by obtain ⟨z, hz⟩ := h.rb; exact ⟨z, hz.below hb (Nat.lt_of_lt_of_le h.qm h.mw)⟩, h.bel.trans (hb.mono h.bel.size), h.wp, h.wq, h.ne, h.pm, h.qm, Nat.le_trans h.mw hb.size⟩
theorem CanSt.put (h : CanSt w W p q m f) {i : Nat} (hi : i < 6) {v : Value} (hf : ∀ j, j < 6 → (if j = i then v else f j) = f' j) : CanSt w (W.setCell ⟨p, i, none⟩ v) p q m f' :=
  ⟨(h.ra.set hi v).congr hf, by obtain ⟨z, hz⟩ := h.rb; exact ⟨z, hz.keep (Below.heap_setCell W ⟨p, i, none⟩ v q h.ne.symm)⟩, below_sets (vs := [v]) h.bel h.wp i, h.wp, h.wq, h.ne, h.pm, h.qm, by rw [size_put]; exact h.mw⟩
end
theorem six {P : Nat → Prop} (h0 : P 0) (h1 : P 1) (h2 : P 2) (h3 : P 3) (h4 : P 4) (h5 : P 5) : ∀ j, j < 6 → P j := fun j hj => by
  match j, hj with
  | 0, _ => exact h0
  | 1, _ => exact h1
  | 2, _ => exact h2
  | 3, _ => exact h3
  | 4, _ => exact h4
  | 5, _ => exact h5
theorem L6_ones {k n : Int} {f : Nat} {s : ByteArray} {a b : Option Addr} {i j l m : Nat} : ∀ v ∈ [Value.int .i64 k, .int .i64 n, .float .f64 f, .string s, .slice a i j, .slice b l m], v.oneCell' = true := by
  intro u hu
  simp only [List.mem_cons, List.not_mem_nil, or_false] at hu
  rcases hu with rfl | rfl | rfl | rfl | rfl | rfl <;> rfl
theorem canonF_wf {f : Nat} (h : (Lit.float .f64 f).wf = true) : (Lit.float .f64 (canonF f)).wf = true := by
  unfold canonF
  split
  · decide
  · exact h
def CanonPost (x : VT) (w : World) (e : Ending) (w' : World) : Prop := ∃ cs', e = .returned (.agg ⟨cs'⟩) ∧ Kept (fun b => w.heap.size ≤ b) w' cs' (canonV x) ∧ Below w.heap.size w w'
theorem canon_end {w W2 W3 u u' : World} {m : Nat} {k n : Int} {f : Nat} {s : ByteArray} {ns : List ByteArray} {its : List VT} {vn vi : Value} {KL : List Cells6} (hk : wfI k) (hn : wfI n) (hf : (Lit.float .f64 f).wf = true) (hs : s.size ≤ maxLen) (hl : its.length ≤ maxLen)
    (hm : m ≤ W2.heap.size) (h23 : W2.heap.size ≤ W3.heap.size) (hns : KeptS (fun b => W2.heap.size ≤ b) W3 vn ns) (hI : CanInv 38 W3 u vi its its.length KL)
    (hu : ∀ b, m ≤ b → u'.heap[b]? = u.heap[b]?) (hsz : u'.heap.size = u.heap.size) (hwm : w.heap.size ≤ m) :
    Kept (fun b => w.heap.size ≤ b) u' [.int .i64 k, .int .i64 n, .float .f64 (canonF f), .string s, vn, vi] (canonV (.mk k n f s ns its)) := by
  rw [canonV]
  have h3 := hI.bel
  refine ValAt.of hk hn (canonF_wf hf) hs (hns.to (fun b hp hb => ⟨by omega, ?_⟩) ?_) (by rw [canonL_len]; exact hl) (hI.row hl (by omega) (fun b hp hb => hu b (by omega)) (by omega))
  · rw [hu b (by omega)]
    exact h3.block b hb
  · have := h3.size
    omega
theorem canSt_start (w : World) (T : TypeId) (a b c d e f a' b' c' d' e' f' : Value) : CanSt w ((w.alloc (.cells ⟨[a, b, c, d, e, f]⟩ T)).alloc (.cells ⟨[a', b', c', d', e', f']⟩ T)) w.heap.size (w.heap.size + 1) (w.heap.size + 2) (L6 a b c d e f) := by
  have hz : (w.alloc (.cells ⟨[a, b, c, d, e, f]⟩ T)).heap.size = w.heap.size + 1 := by simp
  have h1 : RowF (w.alloc (.cells ⟨[a, b, c, d, e, f]⟩ T)) w.heap.size 6 (L6 a b c d e f) := ⟨six (by rw [cell_box]; rfl) (by rw [cell_box]; rfl) (by rw [cell_box]; rfl) (by rw [cell_box]; rfl) (by rw [cell_box]; rfl) (by rw [cell_box]; rfl), fun i _ => frozen_box _ _ _ _⟩
  have h2 := box_below w (.cells ⟨[a, b, c, d, e, f]⟩ T)
  generalize w.alloc (.cells ⟨[a, b, c, d, e, f]⟩ T) = W1 at *
  have h3 : RowF (W1.alloc (.cells ⟨[a', b', c', d', e', f']⟩ T)) W1.heap.size 6 (L6 a' b' c' d' e' f') := ⟨six (by rw [cell_box]; rfl) (by rw [cell_box]; rfl) (by rw [cell_box]; rfl) (by rw [cell_box]; rfl) (by rw [cell_box]; rfl) (by rw [cell_box]; rfl), fun i _ => frozen_box _ _ _ _⟩
  have h4 := box_below W1 (.cells ⟨[a', b', c', d', e', f']⟩ T)
  have h5 : (W1.alloc (.cells ⟨[a', b', c', d', e', f']⟩ T)).heap.size = W1.heap.size + 1 := by simp
  rw [hz] at h3 h5
  exact ⟨h1.below h4 (by omega), ⟨_, h3⟩, h2.trans (h4.mono (by omega)), Nat.le_refl _, by omega, by omega, by omega, by omega, by omega⟩
theorem info_value : (Tryz.prog.info? 38).map (fun i => (i.zero, i.size, i.bytes)) = some (some (.agg #[.int .i64 0, .int .i64 0, .float .f64 0, .string ⟨#[]⟩, .slice none 0 0, .slice none 0 0]), 6, 88) := by kernel_rfl
theorem info_partsV {P : Program} {e : TypeId} {z : Option Value} {s b : Nat} (h : (P.info? e).map (fun i => (i.zero, i.size, i.bytes)) = some (z, s, b)) : ∃ i, P.info? e = some i ∧ i.zero = z ∧ i.size = s ∧ i.bytes = b := by
  cases h2 : P.info? e with
  | none => rw [h2] at h; cases h
  | some i =>
    rw [h2] at h
    injection h with h
    injection h with h3 h4
    injection h4 with h4 h5
    exact ⟨i, rfl, h3, h4, h5⟩
theorem wl_push6 {α : Type} {P : Program} {ops : Array Oper} {rest : List Oper} {o : Oper} {a : Act} {w : World} {Q : Exit → Act → World → Prop} (hgd : o.guard = none) (s x : Operand) (t : TypeId) (ho : o.op = .call { callee := .builtin .append, args := #[s, x], argTypes := #[t, t] })
    (base : Nat) (e : TypeId) (i : TypeInfo) (z : Value) (k bytes : Nat) (enc : α → List Value) (ht : P.underlying t = some (.slice e)) (hi : P.info? e = some i) (hz : i.zero = some z)
    (hsize : i.size = k) (hby : i.bytes = bytes) (hzs : z.cells.size = k) (hsz : 0 < k) (hk : ∀ x, (enc x).length = k)
    (v : Value) (l : List α) (hs : a.eval s = v) (hown : OwnSl e k enc w base v l) (nb c : Nat) (y : α) (h1 : ∀ u ∈ enc y, u.oneCell' = true) (hx : a.eval x = .slice (some ⟨nb, 0, none⟩) 1 c)
    (hc : ∀ j u, (enc y)[j]? = some u → w.cell? ⟨nb, j, none⟩ = some u) (h63 : l.length + 1 ≤ maxLen) (hbytes : (l.length + 1) * bytes ≤ 140737488355328) (hbase : base ≤ w.heap.size)
    (h : ∀ v' w', OwnSl e k enc w' base v' (l ++ [y]) → w.grownBy w' v.ownBlock → (v'.ownBlock = v.ownBlock ∨ v'.ownBlock = some w.heap.size) → wpList P ops Q rest (a.put o.dst v') w') : wpList P ops Q (o :: rest) a w := by
  obtain ⟨v', w', hrun, k2, k3, _, k5⟩ := run_append_own_at (P := P) w base t o.type e i z k bytes ht hi hz hsize hby hzs hsz v l.length (flat enc l) hown ⟨nb, 0, none⟩ 1 c (enc y) (by rw [hk]; omega)
    (fun j u hu => by rw [Addr.add_mid, Nat.zero_add]; exact hc j u hu) h1 h63 hbytes hbase
  refine wpList_plain hgd fun _ hK => ?_
  unfold Oper.wp execOp
  simp only [ho, resolve, invoke, builtin, Sem.run_bind, Sem.run_pure, Result.andThen_ok, List.map_toArray, List.map_cons, List.map_nil, hs, hx, hrun]
  exact hK _ _ (h v' w' (by unfold OwnSl; rw [flat_snoc, List.length_append]; exact k2) k3 k5)
theorem own_form {α : Type} {T : TypeId} {k base : Nat} {enc : α → List Value} {w : World} {v : Value} {l : List α} (h : OwnSl T k enc w base v l) : ∃ A n c, v = .slice A n c := by
  rcases h.2 with ⟨rfl, _⟩ | ⟨g, cap, cur, rfl, _⟩
  · exact ⟨_, _, _, rfl⟩
  · exact ⟨_, _, _, rfl⟩
set_option maxHeartbeats 4000000 in
set_option maxRecDepth 100000 in
theorem canon_any : ∀ (t : VT) (cs : List Value) (w : World), Fit t → ValAt w w.heap.size cs t → Calls Tryz.prog 33 #[.agg ⟨cs⟩] w (CanonPost t w) := by
  intro t
  induction t using VT.ind with
  | h k n f s ns its ih =>
    intro cs w hfit hv
    obtain ⟨vn, vi, rfl, hk, hn, hf, hs, hns, hil, hi⟩ := hv.inv
    obtain ⟨hft1, hft2, hft3⟩ := hfit.inv
    obtain ⟨-, A, c, rfl, hA⟩ := hi
    obtain ⟨-, An, cn, rfl, -⟩ := id hns
    have HA := Lib.hid hA
    have HNS := Lib.hid hns
    have HW := Lib.hid (And.intro hk (And.intro hn (And.intro hf (And.intro hs hil))))
    have HFN := Lib.hid hft1
    have IH : Hid (∀ x ∈ its, ∀ cs w, ValAt w w.heap.size cs x → Calls Tryz.prog 33 #[.agg ⟨cs⟩] w (CanonPost x w)) := Lib.hid fun x hx cs w h => ih x hx cs w (hft3 x hx) h
    have HB88 : Hid (its.length * 88 ≤ 140737488351232) := Lib.hid hft2
    have HLN : Hid (its.length ≤ 9223372036854775807) := Lib.hid (Nat.le_trans hil maxLen_small)
    clear hA hv ih hfit hft1 hft2 hft3 hns hk hn hf hs hil
    go_enter Tryz.func33, Tryz.ntmps33
    go_upto_region 1 with (fail)
    have HST := Lib.hid (canSt_start w 38 (.int .i64 k) (.int .i64 n) (.float .f64 f) (.string s) (.slice An ns.length cn) (.slice A its.length c) (.int .i64 0) (.int .i64 0) (.float .f64 0) (.string ⟨#[]⟩) (.slice none 0 0) (.slice none 0 0))
    generalize ((w.alloc (.cells ⟨[.int .i64 k, .int .i64 n, .float .f64 f, .string s, .slice An ns.length cn, .slice A its.length c]⟩ 38)).alloc (.cells ⟨[.int .i64 0, .int .i64 0, .float .f64 0, .string ⟨#[]⟩, .slice none 0 0, .slice none 0 0]⟩ 38)) = W at *
    have HM : Hid (w.heap.size ≤ w.heap.size + 2) := Lib.hid (by omega)
    obtain ⟨m, hm⟩ : ∃ m, w.heap.size + 2 = m := ⟨_, rfl⟩
    obtain ⟨q, hq⟩ : ∃ q, w.heap.size + 1 = q := ⟨_, rfl⟩
    obtain ⟨p, hp⟩ : ∃ p, w.heap.size = p := ⟨_, rfl⟩
    rw [hm, hq] at HST
    rw [hm] at HM
    have HST' : Hid (CanSt w W p q m (L6 (.int .i64 k) (.int .i64 n) (.float .f64 f) (.string s) (.slice An ns.length cn) (.slice A its.length c))) := Lib.hid (hp ▸ HST.out)
    rw [hq, hp]
    clear HST hq hm hp
    have d2 : W.cell? ⟨p, 2, none⟩ = some (.float .f64 f) := HST'.out.ra.c 2 (by omega)
    have f2 : W.frozen? ⟨p, 2, none⟩ = false := HST'.out.ra.fz 2 (by omega)
    go_upto_region 2 with (go_at_call 55; refine (fcanon_any f _).mono ?_; rintro e z ⟨rfl, hzw⟩; obtain rfl := hzw.symm; clear hzw)
    have HST2 : Hid (CanSt w (W.setCell ⟨p, 2, none⟩ (.float .f64 (canonF f))) p q m (L6 (.int .i64 k) (.int .i64 n) (.float .f64 (canonF f)) (.string s) (.slice An ns.length cn) (.slice A its.length c))) := Lib.hid (HST'.out.put (by omega) (six rfl rfl rfl rfl rfl rfl))
    clear d2 f2 HST'
    generalize W.setCell ⟨p, 2, none⟩ (.float .f64 (canonF f)) = W2 at *
    have d4 : W2.cell? ⟨p, 4, none⟩ = some (.slice An ns.length cn) := HST2.out.ra.c 4 (by omega)
    have HCN := Lib.hid (clone_names W2 (.slice An ns.length cn) ns ((HNS.out.below HST2.out.bel fun _ _ _ h => h).more HST2.out.bel.size) HFN.out)
    go_upto_region 3 with (go_at_call 54; refine HCN.out.mono ?_; rintro e z ⟨v', rfl, hb, hk⟩; obtain ⟨-, An', cn', rfl, -⟩ := id hk; have HST3 := Lib.hid (HST2.out.below hb); have HKN := Lib.hid hk; have HBZ := Lib.hid hb; have e4 : z.cell? ⟨p, 4, none⟩ = some (.slice An ns.length cn) := HST3.out.ra.c 4 (by omega); have f4 : z.frozen? ⟨p, 4, none⟩ = false := HST3.out.ra.fz 4 (by omega); clear hk hb d4)
    have HST4 : Hid (CanSt w (z.setCell ⟨p, 4, none⟩ (.slice An' ns.length cn')) p q m (L6 (.int .i64 k) (.int .i64 n) (.float .f64 (canonF f)) (.string s) (.slice An' ns.length cn') (.slice A its.length c))) := Lib.hid (HST3.out.put (by omega) (six rfl rfl rfl rfl rfl rfl))
    have HK3 : Hid (KeptS (fun b => W2.heap.size ≤ b) (z.setCell ⟨p, 4, none⟩ (.slice An' ns.length cn')) (.slice An' ns.length cn') ns) := Lib.hid (HKN.out.to (fun b hb hlt => ⟨hb, Below.heap_setCell z ⟨p, 4, none⟩ _ b (by
      have h1 := HST2.out.mw
      have h2 := HST2.out.pm
      show b ≠ p
      omega)⟩) (by rw [size_put]; exact Nat.le_refl _))
    have HSZ3 : Hid (W2.heap.size ≤ (z.setCell ⟨p, 4, none⟩ (.slice An' ns.length cn')).heap.size) := Lib.hid (by rw [size_put]; exact HBZ.out.size)
    have HM2 : Hid (m ≤ W2.heap.size) := Lib.hid HST2.out.mw
    clear HST2 HST3 HKN HBZ e4 f4 HCN HNS HFN
    generalize z.setCell ⟨p, 4, none⟩ (.slice An' ns.length cn') = W3 at *
    have d5 : W3.cell? ⟨p, 5, none⟩ = some (.slice A its.length c) := HST4.out.ra.c 5 (by omega)
    go_wp2
    clear d5
    go_loopg [3, 17] its.length (fun g v i u => ∃ (j : Nat) (KL : List Cells6), j + g = its.length ∧ i = .int .i64 j ∧ CanInv 38 W3 u v its j KL)
    case atStart => exact ⟨0, [], by omega, rfl, CanInv.start _ _ _⟩
    case round =>
      obtain ⟨j, KL, hj, rfl, hI⟩ := hrel
      have HI := Lib.hid hI
      clear hI
      obtain ⟨Av, nv, cv, rfl⟩ := own_form HI.out.own
      cases gk with
      | zero =>
        have hge : ¬ ((j : Int) < (its.length : Int)) := by omega
        obtain rfl : j = its.length := by omega
        have HST5 := Lib.hid (HST4.out.below HI.out.bel)
        have g5 : wr.cell? ⟨p, 5, none⟩ = some (.slice A its.length c) := HST5.out.ra.c 5 (by omega)
        have f5 : wr.frozen? ⟨p, 5, none⟩ = false := HST5.out.ra.fz 5 (by omega)
        go_upto_region 10 with (fail)
        have HST6 : Hid (CanSt w (wr.setCell ⟨p, 5, none⟩ (.slice Av nv cv)) p q m (L6 (.int .i64 k) (.int .i64 n) (.float .f64 (canonF f)) (.string s) (.slice An' ns.length cn') (.slice Av nv cv))) := Lib.hid (HST5.out.put (by omega) (six rfl rfl rfl rfl rfl rfl))
        have HP : Hid (∀ b, m ≤ b → (wr.setCell ⟨p, 5, none⟩ (.slice Av nv cv)).heap[b]? = wr.heap[b]?) := Lib.hid fun b hb => Below.heap_setCell wr ⟨p, 5, none⟩ _ b (by
          have := HST5.out.pm
          show b ≠ p
          omega)
        have HPS : Hid ((wr.setCell ⟨p, 5, none⟩ (.slice Av nv cv)).heap.size = wr.heap.size) := Lib.hid (size_put _ _ _)
        clear g5 f5
        generalize wr.setCell ⟨p, 5, none⟩ (.slice Av nv cv) = W9 at *
        have HR9 : Hid (W9.rangeAt p 0 [.int .i64 k, .int .i64 n, .float .f64 (canonF f), .string s, .slice An' ns.length cn', .slice Av nv cv]) := Lib.hid fun i v hv => by
          have h1 := (List.getElem?_eq_some_iff.1 hv).1
          have h2 := HST6.out.ra.c i h1
          rw [Nat.zero_add, h2]
          unfold L6
          rw [List.getD_eq_getElem?_getD, hv]
          rfl
        have HT9 : Hid (W9.there q 0 6) := Lib.hid fun i hi => by
          obtain ⟨z, hz⟩ := HST6.out.rb
          rw [Nat.zero_add, hz.c i hi, hz.fz i hi]
          exact ⟨rfl, rfl⟩
        go_wp2_with (first | ((with_reducible refine wl_sload 38 _ rfl ?hwg p 0 [.int .i64 k, .int .i64 n, .float .f64 (canonF f), .string s, .slice An' ns.length cn', .slice Av nv cv] _ rfl HR9.out Tryz.underlying38 rfl ?hig ?_); (case hwg => exact wantA rfl); (case hig => kernel_rfl)) | ((with_reducible refine wl_sstore 38 _ _ rfl ?hwg q 0 [.int .i64 k, .int .i64 n, .float .f64 (canonF f), .string s, .slice An' ns.length cn', .slice Av nv cv] ?hxg ?hyg ?htg ?hig ?h1g ?_); (case hxg => rfl); (case hyg => rfl); (case htg => exact HT9.out); (case hwg => exact wantA rfl); (case hig => kernel_rfl); (case h1g => exact L6_ones)))
        (try simp only [Exit.inBlock, Exit.then])
        refine bodyPost_ret (results_cellV rfl Tryz.underlying38 rfl _ _ q [.int .i64 k, .int .i64 n, .float .f64 (canonF f), .string s, .slice An' ns.length cn', .slice Av nv cv] (by kernel_rfl) rfl (World.rangeAt_setCells_same _ _ _ _ HT9.out)) rfl ?_
        refine ⟨_, rfl, ?_, ?_⟩
        · refine canon_end HW.out.1 HW.out.2.1 HW.out.2.2.1 HW.out.2.2.2.1 HW.out.2.2.2.2 HM2.out HSZ3.out HK3.out HI.out (fun b hb => ?_) ?_ HM.out
          · rw [heap_puts q b (by have := HST5.out.qm; omega)]
            exact HP.out b hb
          · rw [size_sets]; exact HPS.out
        · exact below_sets HST6.out.bel HST6.out.wq _ 0
      | succ g =>
        have hlt : (j : Int) < (its.length : Int) := by omega
        have hln : its.length ≤ 9223372036854775807 := HLN.out
        have HST5 := Lib.hid (HST4.out.below HI.out.bel)
        obtain ⟨y, hy⟩ : ∃ y, its[j]? = some y := ⟨_, List.getElem?_eq_getElem (by omega)⟩
        obtain ⟨b, o, rfl, hbb, hc⟩ := HA.out (by omega)
        obtain ⟨cs, hcl, hr, hR⟩ := hc j y hy
        have HR := Lib.hid (rangeAt_below hr HST5.out.bel hbb)
        have HCL := Lib.hid hcl
        have HY := Lib.hid hy
        have HV := Lib.hid (hR.next HST5.out.bel)
        clear hc hr hR hy hcl
        go_upto_region 7 with (first | ((with_reducible refine wl_sload 38 _ rfl ?hwg b (o + j * 6) cs _ rfl HR.out Tryz.underlying38 rfl ?hig ?_); (case hwg => exact wantA rfl); (case hig => rw [HCL.out]; kernel_rfl)) | ((with_reducible refine wl_sbox 38 _ _ rfl ?hw wr ?zn cs ?hwld ?hz ?hx ?hy ?hi ?h1 ?_); (case hwld => rfl); (case hx => rfl); (case hy => rfl); (case hw => exact wantA rfl); (case hz => exact HCL.out); (case hi => rw [HCL.out]; kernel_rfl); (case h1 => exact (val_one HV.out).2); intro Z hbx; have HX := Lib.hid hbx; clear hbx))
        have HIY := Lib.hid (IH.out y (List.mem_of_getElem? HY.out) cs Z (HV.out.next HX.out.below))
        have HRZ := Lib.hid HX.out.range
        obtain ⟨j0, hi, hz0, hz1, hz2⟩ := info_partsV info_value
        have HJ0 := Lib.hid hi
        have HY0 := Lib.hid hz0
        have HY1 := Lib.hid hz1
        have HY2 := Lib.hid hz2
        clear hi hz0 hz1 hz2
        go_wp2_with (first | ((with_reducible refine wl_sload 38 _ rfl ?hwg wr.heap.size 0 cs _ rfl HRZ.out Tryz.underlying38 rfl ?hig ?_); (case hwg => exact wantA rfl); (case hig => rw [HCL.out]; kernel_rfl)) | (go_at_call 33; fail))
        refine HIY.out.mono ?_
        rintro e u6 ⟨cs', rfl, hk6, hb6⟩
        obtain ⟨hl6, ho6⟩ := val_one hk6.val
        have HK6 := Lib.hid hk6
        have HB6 := Lib.hid hb6
        have HL6 := Lib.hid hl6
        have HO6 := Lib.hid ho6
        clear hk6 hb6 hl6 ho6 HIY HRZ HR
        have HC7 : Hid (∀ i u, (enc6 ⟨cs', HL6.out⟩)[i]? = some u → (u6.alloc (.cells ⟨cs'⟩ 38)).cell? ⟨u6.heap.size, i, none⟩ = some u) := Lib.hid (cells_box u6 cs' 38)
        have HB7 := Lib.hid (box_below u6 (.cells ⟨cs'⟩ 38))
        have HS7 : Hid (W3.heap.size ≤ (u6.alloc (.cells ⟨cs'⟩ 38)).heap.size) := Lib.hid (Nat.le_trans HI.out.bel.size (Nat.le_trans HX.out.below.size (Nat.le_trans HB6.out.size HB7.out.size)))
        have HOW : Hid (OwnSl 38 6 enc6 (u6.alloc (.cells ⟨cs'⟩ 38)) W3.heap.size (.slice Av nv cv) KL) := Lib.hid (HI.out.own.below (HX.out.below.trans ((HB6.out.trans (HB7.out.mono HB6.out.size)).mono HX.out.below.size)))
        have HM63 : Hid (KL.length + 1 ≤ maxLen) := Lib.hid (by have := HI.out.len; have := HB88.out; unfold maxLen; omega)
        have HM88 : Hid ((KL.length + 1) * 88 ≤ 140737488355328) := Lib.hid (by have := HI.out.len; have := HB88.out; omega)
        go_wp2_with (first | ((with_reducible refine wl_build1 36 _ rfl ?hw3 38 j0 _ cs' ?hx3 Tryz.underlying36 HJ0.out HY0.out ?hs3 ?h03 ?hm3 ?_); (case hw3 => exact wantA rfl); (case hx3 => rfl); (case hs3 => rw [HL6.out]; exact HY1.out); (case h03 => rw [HL6.out]; decide); (case hm3 => rw [HL6.out]; decide)) | (at_builtin; (refine wl_push6 rfl _ _ 36 rfl W3.heap.size 38 j0 _ 6 88 enc6 Tryz.underlying36 HJ0.out HY0.out HY1.out HY2.out rfl (by decide) enc6_len (.slice Av nv cv) KL rfl HOW.out u6.heap.size 1 ⟨cs', HL6.out⟩ HO6.out rfl HC7.out HM63.out HM88.out HS7.out ?_; intro v' u8 hown hg hblk; have HN := Lib.hid (HI.out.next HX.out.below HB6.out HB7.out HY.out HK6.out hown hg hblk); clear hown hg hblk)))
        go_roundg g
        case measure => omega
        case rel => exact ⟨j + 1, _, by omega, by go_num, HN.out⟩
end Go.Proofs.YtpmjcbjdcjjplaaGreat
end
