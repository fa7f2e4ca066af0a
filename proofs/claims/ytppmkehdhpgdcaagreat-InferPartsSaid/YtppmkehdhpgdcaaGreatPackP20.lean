/- Parts of a proof: Walk, ECnt, IndexV, VisP, LabsP, Build1, Order5, Order6. -/
import Derived.Test.YtppmkehdhpgdcaaGreatProg
import Derived.Deep.DeepCutAuto
import Derived.Deep.LoopGhost
import Derived.Deep.Cut
import Derived.Deep.Draws
import Derived.Deep.QuietTactic
import Derived.BigQuiet
import Derived.BigRegion
import Derived.Maps.RangeWalk
import Derived.StillTailTactics
import Derived.WalkMore
import Derived.RegionTactic
import Derived.Lib.SliceRun
import Derived.Lib.Hide
import Derived.Test.YtppmkehdhpgdcaaGreatPackP13
import Derived.Test.YtppmkehdhpgdcaaGreatPackP17
import Derived.Test.YtppmkehdhpgdcaaGreatPackP19
section
namespace Go.Proofs.YtppmkehdhpgdcaaGreat
open Go.RowKit
set_option linter.unusedVariables false
def SomeInt (w : World) (e : Ending) (w' : World) : Prop := ∃ n : Int, e = .returned (.int .i64 n) ∧ Below w.heap.size w w'
def SomeBool (w : World) (e : Ending) (w' : World) : Prop := ∃ b : Bool, e = .returned (.bool b) ∧ Below w.heap.size w w'
theorem cell_box (w : World) (cs : Array Value) (T : TypeId) (i : Nat) : (w.alloc (.cells cs T)).cell? ⟨w.heap.size, i, none⟩ = cs[i]? :=
  cell_of_row _ w.heap.size i cs T (0, 0) (heap_alloc_new w _)
theorem range_box (w : World) (cs : List Value) (T : TypeId) : (w.alloc (.cells ⟨cs⟩ T)).rangeAt w.heap.size 0 cs := fun j v hv => by
  rw [Nat.zero_add, cell_box]; simpa using hv
theorem cells_box (w : World) (cs : List Value) (T : TypeId) : ∀ j v, cs[j]? = some v → (w.alloc (.cells ⟨cs⟩ T)).cell? ⟨w.heap.size, j, none⟩ = some v := fun j v hv => by
  rw [cell_box]; simpa using hv
theorem box_below (w : World) (o : Obj) : Below w.heap.size w (w.alloc o) := (Below.refl w.heap.size w).alloc (Nat.le_refl _) o
theorem box_size (w : World) (o : Obj) : w.heap.size < (w.alloc o).heap.size := by simp
theorem below_sets {B : Nat} {u w : World} (h : Below B u w) {b : Nat} (hb : B ≤ b) (vs : List Value) : ∀ o, Below B u (w.setCells b o vs) := by
  induction vs generalizing w with
  | nil => intro o; exact h
  | cons v vs ih => intro o; exact ih (w := w.setCell ⟨b, o, none⟩ v) (h.setCell hb v) (o + 1)
theorem size_sets (b : Nat) (vs : List Value) : ∀ (o : Nat) (w : World), (w.setCells b o vs).heap.size = w.heap.size := by
  induction vs with
  | nil => intro o w; rfl
  | cons v vs ih => intro o w; exact (ih (o + 1) (w.setCell ⟨b, o, none⟩ v)).trans (by simp [World.setCell])
theorem frozen_box (w : World) (cs : Array Value) (T : TypeId) (i : Nat) : (w.alloc (.cells cs T)).frozen? ⟨w.heap.size, i, none⟩ = false := by
  have h := heap_alloc_new w (.cells cs T)
  unfold World.frozen?
  rw [h]
  simp
theorem there_box (w : World) (z : Array Value) (T : TypeId) : (w.alloc (.cells z T)).there w.heap.size 0 z.size := fun j hj => by
  rw [Nat.zero_add, cell_box, frozen_box]
  exact ⟨by rw [Array.getElem?_eq_getElem hj]; rfl, rfl⟩
def Tag (w : World) (b : Nat) (T : TypeId) : Prop := ∃ c, w.heap[b]? = some (.cells c T (0, 0))
theorem Tag.set {w : World} {b : Nat} {T : TypeId} (h : Tag w b T) (p : Addr) (v : Value) : Tag (w.setCell p v) b T := by
  obtain ⟨c, hc⟩ := h
  unfold World.setCell Tag
  simp only [Array.getElem?_modify, hc]
  split
  · exact ⟨_, rfl⟩
  · exact ⟨_, rfl⟩
theorem Tag.sets {b : Nat} {T : TypeId} (q : Nat) (vs : List Value) : ∀ (o : Nat) {w : World}, Tag w b T → Tag (w.setCells q o vs) b T := by
  induction vs with
  | nil => intro o w h; exact h
  | cons v vs ih => intro o w h; exact ih (o + 1) (h.set ⟨q, o, none⟩ v)
theorem OwnSl.apart {α : Type} {T T' : TypeId} {k nb base : Nat} {enc : α → List Value} {w : World} {v : Value} {l : List α} (h : OwnSl T k enc w base v l) (ht : Tag w nb T') (hne : T ≠ T') : some nb ≠ v.ownBlock := by
  intro hb
  obtain ⟨c, hc⟩ := ht
  rcases h.2 with ⟨rfl, _⟩ | ⟨g, cap, cur, rfl, _, hg, _⟩
  · cases hb
  · have : nb = g := by simpa [Value.ownBlock] using hb
    subst this
    rw [hc] at hg
    injection hg with hg
    injection hg with _ hg _
    exact hne hg.symm
structure Boxed (T : TypeId) (w W : World) (cs : List Value) : Prop where
  tag : Tag W w.heap.size T
  below : Below w.heap.size w W
  range : W.rangeAt w.heap.size 0 cs
  size : w.heap.size < W.heap.size
theorem boxed_store (w : World) (z : Array Value) (T : TypeId) (cs : List Value) (h : cs.length = z.size) : Boxed T w ((w.alloc (.cells z T)).setCells w.heap.size 0 cs) cs :=
  ⟨Tag.sets _ _ _ ⟨z, heap_alloc_new w _⟩, below_sets (box_below w _) (Nat.le_refl _) cs 0, World.rangeAt_setCells_same _ _ _ _ (by rw [h]; exact there_box w z T), by rw [size_sets]; simp⟩
section
variable {P : Program} {ops : Array Oper} {rest : List Oper} {o : Oper} {a : Act} {w : World} {Q : Exit → Act → World → Prop}
theorem wl_sbox (T : TypeId) (x y : Operand) (ho : o.op = .store T x y) (hw : Region.wanted o (yielded ops a.tmps) = true) (w0 : World) (z : Array Value) (cs : List Value) (hwld : w = w0.alloc (.cells z T)) (hz : cs.length = z.size)
    (hx : a.eval x = .pointer (some ⟨w0.heap.size, 0, none⟩)) (hy : a.eval y = .agg cs.toArray) (hi : (P.info? T).map (·.size) = some cs.length) (h1 : ∀ v ∈ cs, v.oneCell' = true)
    (h : ∀ Z, Boxed T w0 Z cs → wpList P ops Q rest (a.put o.dst undef) Z) : wpList P ops Q (o :: rest) a w := by
  subst hwld
  exact wl_sstore T x y ho hw w0.heap.size 0 cs hx hy (by rw [hz]; exact there_box w0 z T) hi h1 (h _ (boxed_store w0 z T cs hz))
end
theorem Boxed.cell {T : TypeId} {w W : World} {cs : List Value} (h : Boxed T w W cs) (j : Nat) {v : Value} (hv : cs[j]? = some v) : W.cell? ⟨w.heap.size, j, none⟩ = some v := by
  have := h.range j v hv
  rwa [Nat.zero_add] at this
theorem Boxed.cell' {T : TypeId} {w W Z : World} {cs : List Value} (h : Boxed T w W cs) (hb : Below W.heap.size W Z) (j : Nat) {v : Value} (hv : cs[j]? = some v) : Z.cell? ⟨w.heap.size, j, none⟩ = some v :=
  (hb.cell (p := ⟨w.heap.size, j, none⟩) h.size).trans (h.cell j hv)
theorem Boxed.sub {T : TypeId} {w W Z : World} {cs : List Value} (h : Boxed T w W cs) (hb : Below W.heap.size W Z) (p q r : List Value) (hc : cs = p ++ q ++ r) (k : Nat) (hk : k = p.length) : Z.rangeAt w.heap.size k q := fun j v hv => by
  subst hk
  have := h.cell' hb (p.length + j) (v := v) (by rw [hc, List.append_assoc, List.getElem?_append_right (by omega), show p.length + j - p.length = j by omega, List.getElem?_append_left (List.getElem?_eq_some_iff.1 hv).1]; exact hv)
  exact this
theorem range_sub {w : World} {b o : Nat} {p cs q : List Value} (h : w.rangeAt b o (p ++ cs ++ q)) (k : Nat) (hk : k = o + p.length) : w.rangeAt b k cs := fun j v hv => by
  subst hk
  have := h (p.length + j) v (by rw [List.append_assoc, List.getElem?_append_right (by omega), show p.length + j - p.length = j by omega, List.getElem?_append_left (List.getElem?_eq_some_iff.1 hv).1]; exact hv)
  rw [Nat.add_assoc]; exact this
theorem range_cell {w : World} {b o : Nat} {cs : List Value} (h : w.rangeAt b o cs) (j : Nat) {v : Value} (hv : cs[j]? = some v) : w.cell? ⟨b, o + j, none⟩ = some v := h j v hv
end Go.Proofs.YtppmkehdhpgdcaaGreat
end
section
namespace Go.Proofs.YtppmkehdhpgdcaaGreat
open Go Go.RowKit
set_option linter.unusedVariables false
set_option linter.unusedSimpArgs false
mutual
def cntE : ET → Nat → Nat
  | .mk _ _ _ _ its, n => cntEL its (n + 1)
def cntEL : List ET → Nat → Nat
  | [], n => n
  | a :: l, n => if 500 ≤ n then n else cntEL l (cntE a n)
end
theorem cntEL_le : ∀ (l : List ET) (n : Nat), (∀ x ∈ l, ∀ m, m < 500 → cntE x m ≤ 500) → n ≤ 500 → cntEL l n ≤ 500
  | [], n, _, h => by rw [cntEL]; exact h
  | a :: l, n, h, hn => by
    rw [cntEL]
    by_cases h5 : 500 ≤ n
    · rw [if_pos h5]; exact hn
    · rw [if_neg h5]; exact cntEL_le l _ (fun x hx => h x (List.mem_cons_of_mem _ hx)) (h a (List.mem_cons_self ..) n (by omega))
theorem cntE_le (t : ET) : ∀ m, m < 500 → cntE t m ≤ 500 := by
  induction t using ET.ind with
  | h k s v ns its ih => exact fun m hm => by rw [cntE]; exact cntEL_le its _ ih (by omega)
theorem edrop_at {l : List ET} {k : Nat} {x : ET} (h : l[k]? = some x) : l.drop k = x :: l.drop (k + 1) := by
  obtain ⟨h1, h2⟩ := List.getElem?_eq_some_iff.1 h
  rw [List.drop_eq_getElem_cons h1, h2]
theorem cntEL_step {l : List ET} {k m : Nat} {x : ET} (h : l[k]? = some x) : cntEL (l.drop k) m = if 500 ≤ m then m else cntEL (l.drop (k + 1)) (cntE x m) := by
  rw [edrop_at h, cntEL]
theorem cntEL_end {l : List ET} {m : Nat} : cntEL (l.drop l.length) m = m := by
  rw [List.drop_eq_nil_of_le (Nat.le_refl _), cntEL]
theorem eslen {w : World} {B : Nat} {cs : List Value} {x : ET} (h : ExpAt w B cs x) : cs.length = 10 := by
  cases h; rfl
set_option maxHeartbeats 1000000 in
set_option maxRecDepth 100000 in
theorem ecounted_any : ∀ (t : ET) (m : Nat) (cs : List Value) (p o : Nat) (w : World), m < 500 → w.rangeAt p o cs → ExpAt w w.heap.size cs t →
    Calls Tryz.prog 83 #[.pointer (some ⟨p, o, none⟩), .int .i64 m] w fun e w' => e = .returned (.int .i64 (cntE t m : Nat)) ∧ w' = w := by
  intro t
  induction t using ET.ind with
  | h k s t ns its ih =>
    intro m cs p o w hm hr hv
    have IH := Lib.hid ih
    obtain ⟨v0, v1, v2, v3, v4, v5, vn, vi, rfl, _, _, _, _, hil, hi⟩ := hv.inv
    obtain ⟨_, A, c, rfl, hA⟩ := hi
    unfold maxLen at hil
    have HA := Lib.hid hA
    have d5 := hr 9 _ rfl
    have HS := Lib.hid (fun k m x => cntEL_step (l := its) (k := k) (m := m) (x := x))
    have HE := Lib.hid (fun m => cntEL_end (l := its) (m := m))
    have HLE := Lib.hid (fun x m hm => cntE_le x m hm)
    have H0 : Hid (cntEL (its.drop 0) (m + 1) = cntE (.mk k s t ns its) m) := Lib.hid (by rw [cntE]; rfl)
    have hm2 : (m : Int) < 500 := by omega
    clear ih hA hr hv
    generalize cntE (.mk k s t ns its) m = res at *
    go_enter Tryz.func83, Tryz.ntmps83
    go_wp2
    go_loopg [1, 13] its.length (fun q n x u => ∃ (j m : Nat), j + q = its.length ∧ x = .int .i64 j ∧ n = .int .i64 m ∧ m ≤ 500 ∧ u = w ∧ cntEL (its.drop j) m = res)
    case atStart => exact ⟨0, m + 1, by omega, rfl, by go_num, by omega, rfl, H0.out⟩
    case round =>
      obtain ⟨j, m, hj, rfl, rfl, hm5, rfl, hres⟩ := hrel
      have HR := Lib.hid hres
      clear hres
      cases gk with
      | zero =>
        obtain rfl : j = its.length := by omega
        have hge : ¬ ((its.length : Int) < (its.length : Int)) := by omega
        have HV := Lib.hid (HR.out.symm.trans (HE.out m))
        go_wp2
        go_ret
        exact ⟨by rw [HV.out]; rfl, rfl⟩
      | succ q =>
        have hlt : (j : Int) < (its.length : Int) := by omega
        obtain ⟨x, hx⟩ : ∃ x, its[j]? = some x := ⟨_, List.getElem?_eq_getElem (by omega)⟩
        obtain ⟨b, o', rfl, hbl, hc⟩ := HA.out (by omega)
        obtain ⟨ks, hkl, hks, hvx⟩ := hc j x hx
        have HV := Lib.hid (HR.out.symm.trans (HS.out j m x hx))
        by_cases h5 : 500 ≤ m
        · have HV2 := Lib.hid (HV.out.trans (if_pos h5))
          have t1 : (500 : Int) ≤ (m : Int) := by omega
          clear hc hks hvx hx HV
          go_wp2
          go_ret
          exact ⟨by rw [HV2.out]; rfl, rfl⟩
        · have HV2 := Lib.hid (HV.out.trans (if_neg h5))
          have t1 : ¬ ((500 : Int) ≤ (m : Int)) := by omega
          have HC := Lib.hid (IH.out x (List.mem_of_getElem? hx) m ks b (o' + j * 10) wr (by omega) hks hvx)
          have hle := HLE.out x m (by omega)
          clear hc hks hvx hx HV h5
          go_wp2_with (go_at_call 83; refine HC.out.mono ?_; rintro e z ⟨rfl, rfl⟩)
          go_roundg q
          case measure => omega
          case rel => exact ⟨j + 1, _, by omega, by go_num, rfl, hle, rfl, HV2.out.symm⟩
set_option maxHeartbeats 1000000 in
theorem eparts_any (t : ET) (cs : List Value) (w : World) (hv : ExpAt w w.heap.size cs t) : Calls Tryz.prog 62 #[.agg ⟨cs⟩] w fun e w' => e = .returned (.int .i64 (cntE t 0 : Nat)) ∧ Below w.heap.size w w' := by
  have HB1 := Lib.hid (box_below w (.cells ⟨cs⟩ 30))
  have HC := Lib.hid (ecounted_any t 0 cs w.heap.size 0 (w.alloc (.cells ⟨cs⟩ 30)) (by decide) (range_box w cs 30) ((hv.under HB1.out).more HB1.out.size))
  go_enter Tryz.func62, Tryz.ntmps62
  go_wp2_with (go_at_call 83; refine HC.out.mono ?_; rintro e z ⟨rfl, rfl⟩)
  go_ret
  exact ⟨rfl, HB1.out⟩
set_option maxHeartbeats 1000000 in
set_option maxRecDepth 100000 in
theorem recount_any : ∀ (t : ET) (m : Nat) (cs : List Value) (w : World), m < 500 → ExpAt w w.heap.size cs t →
    Calls Tryz.prog 51 #[.agg ⟨cs⟩, .int .i64 m] w fun e w' => e = .returned (.int .i64 (cntE t m : Nat)) ∧ Below w.heap.size w w' := by
  intro t
  induction t using ET.ind with
  | h k s t ns its ih =>
    intro m cs w hm hv
    have IH := Lib.hid ih
    obtain ⟨v0, v1, v2, v3, v4, v5, vn, vi, rfl, _, _, _, _, hil, hi⟩ := hv.inv
    obtain ⟨_, A, c, rfl, hA⟩ := hi
    unfold maxLen at hil
    have HA := Lib.hid hA
    have HS := Lib.hid (fun k m x => cntEL_step (l := its) (k := k) (m := m) (x := x))
    have HE := Lib.hid (fun m => cntEL_end (l := its) (m := m))
    have HLE := Lib.hid (fun x m hm => cntE_le x m hm)
    have HCE : Hid (∀ k m, 500 ≤ m → cntEL (its.drop k) m = m) := Lib.hid (fun k m h => by
      cases its.drop k with
      | nil => rw [cntEL]
      | cons a l => rw [cntEL, if_pos h])
    have H0 : Hid (cntEL (its.drop 0) (m + 1) = cntE (.mk k s t ns its) m) := Lib.hid (by rw [cntE]; rfl)
    clear ih hA hv
    generalize cntE (.mk k s t ns its) m = res at *
    go_enter Tryz.func51, Tryz.ntmps51
    go_upto_region 1 with (fail)
    have hb0 := box_below w (.cells ⟨[.int .i64 k, .string s, v0, v1, v2, v3, v4, v5, vn, .slice A its.length c]⟩ 30)
    have hz0 := box_size w (.cells ⟨[.int .i64 k, .string s, v0, v1, v2, v3, v4, v5, vn, .slice A its.length c]⟩ 30)
    have c5 := cell_box w ⟨[.int .i64 k, .string s, v0, v1, v2, v3, v4, v5, vn, .slice A its.length c]⟩ 30 9
    generalize w.alloc (.cells ⟨[.int .i64 k, .string s, v0, v1, v2, v3, v4, v5, vn, .slice A its.length c]⟩ 30) = W at *
    have HB := Lib.hid hb0
    have C5 := Lib.hid c5
    have HSZ := Lib.hid hz0
    clear hb0 c5 hz0
    have hm2 : (m : Int) < 500 := by omega
    go_wp2
    go_loopg [1, 5] its.length (fun g u i wr => ∃ (j m : Nat), j + g = its.length ∧ i = .int .i64 j ∧ u = .int .i64 m ∧ m ≤ 500 ∧ Below W.heap.size W wr ∧ cntEL (its.drop j) m = res)
    case atStart => exact ⟨0, m + 1, by omega, rfl, by go_num, by omega, Below.refl _ _, H0.out⟩
    case round =>
      obtain ⟨j, m, hj, rfl, rfl, hm5, hb, hres⟩ := hrel
      have HB1 := Lib.hid hb
      have HR := Lib.hid hres
      have d5 := (hb.cell (p := ⟨w.heap.size, 9, none⟩) HSZ.out).trans C5.out
      clear hb hres
      simp only [List.getElem?_toArray, List.getElem?_cons_succ, List.getElem?_cons_zero] at d5
      have hm5' : (m : Int) ≤ 500 := by omega
      cases gk with
      | zero =>
        obtain rfl : j = its.length := by omega
        have hge : ¬ ((its.length : Int) < (its.length : Int)) := by omega
        have HV := Lib.hid (HR.out.symm.trans (HE.out m))
        go_wp2
        go_ret
        exact ⟨by rw [HV.out]; go_num, HB.out.trans (HB1.out.mono HB.out.size)⟩
      | succ g =>
        have hlt : (j : Int) < (its.length : Int) := by omega
        by_cases h0 : m < 500
        · have hz2 : w.heap.size ≤ wr.heap.size := Nat.le_trans HB.out.size HB1.out.size
          obtain ⟨y, hy⟩ : ∃ y, its[j]? = some y := ⟨_, List.getElem?_eq_getElem (by omega)⟩
          obtain ⟨b, o, rfl, hbb, hc⟩ := HA.out (by omega)
          obtain ⟨cs, hcl, hr, hR⟩ := hc j y hy
          have hB2 := HB.out.trans (HB1.out.mono HB.out.size)
          have HV := Lib.hid (HR.out.symm.trans (HS.out j m y hy))
          have HV2 := Lib.hid (HV.out.trans (if_neg (by omega)))
          have HR1 := Lib.hid (rangeAt_below hr hB2 hbb)
          have HC := Lib.hid (IH.out y (List.mem_of_getElem? hy) m cs wr h0 ((hR.under hB2).more hB2.size))
          have HCL := Lib.hid hcl
          have hle := HLE.out y m h0
          have h0' : (m : Int) < 500 := by omega
          clear hc hr hR hB2 hy HV h0
          go_wp2_with (first | ((with_reducible refine wl_sload 30 _ rfl ?hwa b (o + j * 10) cs _ rfl HR1.out Tryz.underlying30 rfl ?hia ?_); (case hwa => (first | exact wanted_none rfl | exact wanted_if rfl rfl rfl rfl)); (case hia => rw [HCL.out]; kernel_rfl)) | (go_at_call 51; refine HC.out.mono ?_; rintro e w' ⟨rfl, hb⟩; have HB2 := Lib.hid hb; clear hb))
          go_roundg g
          case measure => omega
          case rel => exact ⟨j + 1, _, by omega, by go_num, rfl, hle, HB1.out.trans (HB2.out.mono HB1.out.size), HV2.out.symm⟩
        · have HV := Lib.hid (HR.out.symm.trans (HCE.out j m (by omega)))
          have h0' : ¬ ((m : Int) < 500) := by omega
          have hm500 : m = 500 := by omega
          go_wp2
          all_goals
            go_ret
            exact ⟨by rw [HV.out, hm500]; rfl, HB.out.trans (HB1.out.mono HB.out.size)⟩
set_option maxHeartbeats 1000000 in
theorem reparts_any (t : ET) (cs : List Value) (w : World) (hv : ExpAt w w.heap.size cs t) : Calls Tryz.prog 25 #[.agg ⟨cs⟩] w fun e w' => e = .returned (.int .i64 (cntE t 0 : Nat)) ∧ Below w.heap.size w w' := by
  have HCL := Lib.hid (eslen hv)
  have HV := Lib.hid hv
  clear hv
  go_enter Tryz.func25, Tryz.ntmps25
  go_upto_region 1 with (fail)
  have HB := Lib.hid (box_below w (.cells ⟨cs⟩ 30))
  have HR := Lib.hid (range_box w cs 30)
  generalize w.alloc (.cells ⟨cs⟩ 30) = W at *
  have HC := Lib.hid (recount_any t 0 cs W (by omega) ((HV.out.under HB.out).more HB.out.size))
  go_wp2_with (first | ((with_reducible refine wl_sload 30 _ rfl ?hwa w.heap.size 0 cs _ rfl HR.out Tryz.underlying30 rfl ?hia ?_); (case hwa => (first | exact wanted_none rfl | exact wanted_if rfl rfl rfl rfl)); (case hia => rw [HCL.out]; kernel_rfl)) | (go_at_call 51; refine HC.out.mono ?_; rintro e w' ⟨rfl, hb⟩; have HB2 := Lib.hid hb; clear hb))
  go_ret
  exact ⟨rfl, HB.out.trans (HB2.out.mono HB.out.size)⟩
end Go.Proofs.YtppmkehdhpgdcaaGreat
end
section
namespace Go.Proofs.YtppmkehdhpgdcaaGreat
open Go Go.RowKit
set_option linter.unusedVariables false
set_option linter.unusedSimpArgs false
def nameIs (s : ByteArray) (x : VarT) : Bool := x.name.toList == s.toList
def findV : List VarT → ByteArray → Int
  | [], _ => -1
  | x :: l, s => if nameIs s x = true then 0 else if findV l s = -1 then -1 else findV l s + 1
theorem findV_no {s : ByteArray} : ∀ {l : List VarT}, (∀ (k : Nat) x, l[k]? = some x → nameIs s x = false) → findV l s = -1
  | [], _ => rfl
  | x :: l, h => by
    unfold findV
    rw [if_neg (by rw [h 0 x rfl]; decide), findV_no fun k y hy => h (k + 1) y hy, if_pos rfl]
theorem findV_yes {s : ByteArray} : ∀ {l : List VarT} (j : Nat) (x : VarT), l[j]? = some x → nameIs s x = true → (∀ k, k < j → ∀ y, l[k]? = some y → nameIs s y = false) → findV l s = (j : Int)
  | [], j, x, h, _, _ => by simp at h
  | a :: l, 0, x, h, hx, _ => by
    obtain rfl : a = x := by simpa using h
    unfold findV
    rw [if_pos hx]; rfl
  | a :: l, j + 1, x, h, hx, hno => by
    have ih := findV_yes (l := l) j x (by simpa using h) hx fun k hk y hy => hno (k + 1) (by omega) y (by simpa using hy)
    unfold findV
    rw [if_neg (by rw [hno 0 (by omega) a rfl]; decide), ih, if_neg (by omega)]
    omega
theorem var_form {w : World} {B : Nat} {ks : List Value} {x : VarT} (h : VarAt w B ks x) : ∃ a b c d e f g i j, ks = [.string x.name, .int .i64 x.label, a, b, c, d, e, f, g, i, j] := by
  obtain ⟨ct, ci, rfl, h3, h6, _, _⟩ := h.ex
  match ct, ci, h3, h6 with
  | [a, b, c], [d, e, f, g, i, j], _, _ => exact ⟨a, b, c, d, e, f, g, i, j, rfl⟩
set_option maxHeartbeats 1000000 in
set_option maxRecDepth 100000 in
theorem lab1_any (nm s : ByteArray) (lb : Int) (a b c d e f g i j : Value) (pb : Nat) (w : World) (hp : w.cell? ⟨pb, 0, none⟩ = some (.string s)) (hlp : pb < w.heap.size) :
    Calls Tryz.prog 31 #[.agg #[.string nm, .int .i64 lb, a, b, c, d, e, f, g, i, j], .pointer (some ⟨pb, 0, none⟩)] w fun r w' => r = .returned (.bool (nm.toList == s.toList)) ∧ Below w.heap.size w w' := by
  have HB := Lib.hid (box_below w (.cells #[.string nm, .int .i64 lb, a, b, c, d, e, f, g, i, j] 64))
  have HP := Lib.hid hp
  have HL := Lib.hid hlp
  have d0 := cell_box w #[.string nm, .int .i64 lb, a, b, c, d, e, f, g, i, j] 64 0
  simp only [List.getElem?_toArray, List.getElem?_cons_zero] at d0
  clear hp hlp
  go_enter Tryz.func31, Tryz.ntmps31
  go_upto_region 1 with (fail)
  have d2 := (HB.out.cell (p := ⟨pb, 0, none⟩) HL.out).trans HP.out
  generalize w.alloc (.cells #[.string nm, .int .i64 lb, a, b, c, d, e, f, g, i, j] 64) = W at *
  go_wp2
  go_ret
  exact ⟨rfl, HB.out⟩
set_option maxHeartbeats 4000000 in
set_option maxRecDepth 100000 in
theorem indexV_any (E : List VarT) (s : ByteArray) (v : Value) (pb : Nat) (w : World) (hv : SlAt w w.heap.size 11 (VarAt w w.heap.size) v E) (hE : E.length ≤ 10000) (hp : w.cell? ⟨pb, 0, none⟩ = some (.string s)) (hlp : pb < w.heap.size) :
    Calls Tryz.prog 30 #[v, .func (.func 31) #[] #[.pointer (some ⟨pb, 0, none⟩)]] w fun e w' => e = .returned (.int .i64 (findV E s)) ∧ Below w.heap.size w w' := by
  obtain ⟨hel, EA, ec, rfl, hea⟩ := hv
  have HEB := Lib.hid hea
  have HO1 := Lib.hid (fun nm lb a b c d e f g i j u (hu : Below w.heap.size w u) => lab1_any nm s lb a b c d e f g i j pb u ((hu.cell (p := ⟨pb, 0, none⟩) hlp).trans hp) (Nat.lt_of_lt_of_le hlp hu.size))
  clear hp hlp
  have hle2 : (E.length : Int) ≤ 10000 := by omega
  clear hea hel
  go_enter Tryz.func30, Tryz.ntmps30
  go_wp2
  go_loopg [8] E.length (fun q x u => ∃ j : Nat, j + q = E.length ∧ x = .int .i64 j ∧ Below w.heap.size w u ∧ ∀ k, k < j → ∀ e, E[k]? = some e → nameIs s e = false)
  case atStart => exact ⟨0, by omega, rfl, Below.refl _ _, fun k hk => absurd hk (Nat.not_lt_zero k)⟩
  case round =>
    obtain ⟨jj, hj, rfl, hb, hno⟩ := hrel
    have HBK := Lib.hid hb
    have HNO := Lib.hid hno
    clear hb hno
    cases gk with
    | zero =>
      obtain rfl : jj = E.length := by omega
      have hge : ¬ ((E.length : Int) < (E.length : Int)) := by omega
      have HR : Hid (findV E s = -1) := Lib.hid (findV_no fun k e he => HNO.out k (List.getElem?_eq_some_iff.1 he).1 e he)
      go_wp2
      go_ret
      exact ⟨by rw [HR.out]; try rfl, HBK.out⟩
    | succ q =>
      have hlt2 : (jj : Int) < (E.length : Int) := by omega
      obtain ⟨x, he⟩ : ∃ e, E[jj]? = some e := ⟨_, List.getElem?_eq_getElem (by omega)⟩
      obtain ⟨bb, o, rfl, hbl, hc⟩ := HEB.out (by omega)
      obtain ⟨ks, hkl, hks, hva⟩ := hc jj x he
      obtain ⟨a, b, c, d, e, f, g, i, j, rfl⟩ := var_form hva
      have HRE := Lib.hid (rangeAt_below hks HBK.out hbl)
      have HE := Lib.hid he
      have HC1 := Lib.hid (HO1.out x.name x.label a b c d e f g i j wr HBK.out)
      clear hc he hks hva hkl
      cases ho : (x.name.toList == s.toList) with
      | true =>
        have HR : Hid (findV E s = jj) := Lib.hid (findV_yes jj x HE.out ho fun k hk e' he' => HNO.out k hk e' he')
        rw [ho] at HC1
        clear ho
        go_wp2_with (first | ((with_reducible refine wl_sload 64 _ rfl ?hw bb (o + jj * 11) [.string x.name, .int .i64 x.label, a, b, c, d, e, f, g, i, j] _ rfl HRE.out Tryz.underlying64 rfl ?hi ?_); (case hw => first | exact wanted_none rfl | exact wanted_if rfl rfl rfl rfl); (case hi => kernel_rfl)) | (go_at_call 31; refine HC1.out.mono ?_; rintro e' w4 ⟨rfl, hb4⟩; have HB4 := Lib.hid hb4; clear hb4))
        go_ret
        exact ⟨by rw [HR.out]; try rfl, HBK.out.trans (HB4.out.mono HBK.out.size)⟩
      | false =>
        have HNX : Hid (∀ k, k < jj + 1 → ∀ e, E[k]? = some e → nameIs s e = false) := Lib.hid fun k hk e' he' => by
          by_cases ek : k = jj
          · subst ek
            have := HE.out
            rw [he'] at this
            injection this with this
            rw [this]; exact ho
          · exact HNO.out k (by omega) e' he'
        rw [ho] at HC1
        clear ho
        go_wp2_with (first | ((with_reducible refine wl_sload 64 _ rfl ?hw2 bb (o + jj * 11) [.string x.name, .int .i64 x.label, a, b, c, d, e, f, g, i, j] _ rfl HRE.out Tryz.underlying64 rfl ?hi2 ?_); (case hw2 => first | exact wanted_none rfl | exact wanted_if rfl rfl rfl rfl); (case hi2 => kernel_rfl)) | (go_at_call 31; refine HC1.out.mono ?_; rintro e' w4 ⟨rfl, hb4⟩; have HB4 := Lib.hid hb4; clear hb4))
        go_roundg q
        case measure => omega
        case rel => exact ⟨jj + 1, by omega, by go_num, HBK.out.trans (HB4.out.mono HBK.out.size), HNX.out⟩
end Go.Proofs.YtppmkehdhpgdcaaGreat
end
section
namespace Go.Proofs.YtppmkehdhpgdcaaGreat
open Go Go.RowKit
set_option linter.unusedVariables false
mutual
def visE : ET → Nat → List ByteArray
  | .mk k s v ns its, n => (if k = 2 then [s] else []) ++ visEL its (n + 1)
def visEL : List ET → Nat → List ByteArray
  | [], _ => []
  | a :: l, n => if 500 ≤ n then [] else visE a n ++ visEL l (cntE a n)
end
theorem visEL_step {l : List ET} {j n : Nat} {x : ET} (h : l[j]? = some x) : visEL (l.drop j) n = if 500 ≤ n then [] else visE x n ++ visEL (l.drop (j + 1)) (cntE x n) := by
  rw [edrop_at h, visEL]
theorem visEL_end {l : List ET} {n : Nat} : visEL (l.drop l.length) n = [] := by
  rw [List.drop_eq_nil_of_le (Nat.le_refl _), visEL]
theorem visEL_far {l : List ET} {n : Nat} (h : 500 ≤ n) : visEL l n = [] := by
  cases l with
  | nil => rw [visEL]
  | cons a l => rw [visEL, if_pos h]
end Go.Proofs.YtppmkehdhpgdcaaGreat
end
section
namespace Go.Proofs.YtppmkehdhpgdcaaGreat
open Go Go.RowKit
set_option linter.unusedVariables false
def labOf (E : List VarT) (s : List UInt8) : Option Int := (E.find? fun x => x.name.toList == s).map (·.label)
def labsV (E : List VarT) (ok : Int → Bool) : List (List UInt8) → List Int × Int
  | [] => ([], 0)
  | s :: r => match labOf E s with
    | none => ([], 11)
    | some a => if ok a = true then (a :: (labsV E ok r).1, (labsV E ok r).2) else ([], 3)
theorem findV_find {E : List VarT} {s : ByteArray} : (findV E s = -1 ∧ labOf E s.toList = none) ∨ (∃ (j : Nat) (x : VarT), findV E s = (j : Int) ∧ E[j]? = some x ∧ labOf E s.toList = some x.label) := by
  induction E with
  | nil => exact Or.inl ⟨rfl, rfl⟩
  | cons a l ih =>
    unfold findV labOf
    cases h : nameIs s a with
    | true =>
      refine Or.inr ⟨0, a, by rw [if_pos rfl]; rfl, rfl, ?_⟩
      rw [List.find?_cons_of_pos (by exact h)]
      rfl
    | false =>
      have hf : (a :: l).find? (fun x => x.name.toList == s.toList) = l.find? (fun x => x.name.toList == s.toList) := List.find?_cons_of_neg (by
        have : (a.name.toList == s.toList) = false := h
        rw [this]; decide)
      rw [hf, if_neg (by decide)]
      rcases ih with ⟨h1, h2⟩ | ⟨j, x, h1, h2, h3⟩
      · exact Or.inl ⟨by rw [if_pos h1], h2⟩
      · exact Or.inr ⟨j + 1, x, by rw [h1, if_neg (by omega)]; omega, by simpa using h2, h3⟩
end Go.Proofs.YtppmkehdhpgdcaaGreat
end
section
namespace Go.Proofs.YtppmkehdhpgdcaaGreat
open Go
set_option linter.unusedVariables false
theorem fill_list : ∀ (ks pre rest : List Value), rest.length = ks.length →
    (ks.zipIdx pre.length).foldl (fun (cs : Array Value) (p : Value × Nat) => cs.setIfInBounds (0 + p.2) p.1) (pre ++ rest).toArray = (pre ++ ks).toArray
  | [], pre, rest, h => by
    rw [List.eq_nil_of_length_eq_zero h]; rfl
  | k :: ks, pre, rest, h => by
    cases rest with
    | nil => cases h
    | cons r rest =>
      rw [List.zipIdx_cons, List.foldl_cons]
      have h1 : (pre ++ r :: rest).toArray.setIfInBounds (0 + pre.length) k = ((pre ++ [k]) ++ rest).toArray := by
        rw [Nat.zero_add, List.setIfInBounds_toArray]
        congr 1
        simp
      show List.foldl _ ((pre ++ r :: rest).toArray.setIfInBounds (0 + pre.length) k) _ = _
      rw [h1]
      have := fill_list ks (pre ++ [k]) rest (by simpa using h)
      rw [List.length_append] at this
      rw [List.append_assoc] at this ⊢
      rw [List.append_assoc] at this
      exact this
theorem fill_one (size : Nat) (ks : List Value) (cells : Array Value) (h1 : ks.length = size) (h2 : cells.size = size) : Instr.fill (fun i => some (i * size, size)) cells [(0, .agg ks.toArray)] = some ks.toArray := by
  unfold Instr.fill
  simp only [Nat.zero_mul]
  have hc : (Value.agg ks.toArray).cells = ks.toArray := rfl
  rw [hc]
  rw [if_neg (by simp [h1, h2])]
  unfold Instr.fill
  congr 1
  have := fill_list ks [] cells.toList (by simpa [h1] using h2)
  simpa using this
section
variable {P : Program}
theorem run_build1 (w : World) (t e : TypeId) (i : TypeInfo) (z : Value) (ks : List Value) (ht : P.underlying t = some (.slice e)) (hi : P.info? e = some i) (hz : i.zero = some z) (hsz : i.size = ks.length) (h0 : 0 < ks.length) (hmax : ks.length ≤ 1000) :
    (Instr.buildSlice t 1 #[(0, .agg ks.toArray)]).run P w = .ok (.slice (some ⟨w.heap.size, 0, none⟩) 1 1) (w.alloc (.cells ⟨ks⟩ e)) := by
  have hs : (sizeOf e).run P w = .ok ks.length w := by simp [sizeOf, typeInfo, hi, hsz]
  have hzv : (zeroValue e).run P w = .ok z w := by simp [zeroValue, typeInfo, hi, hz]
  have hf : ∀ cells : Array Value, cells.size = ks.length → Instr.fill (fun i => some (i * ks.length, ks.length)) cells [(0, .agg ks.toArray)] = some ks.toArray := fun cells hc => fill_one ks.length ks cells rfl hc
  unfold Instr.buildSlice
  simp only [Sem.run_bind, run_underlying ht, Result.andThen_ok, hs, Nat.one_mul]
  rw [if_neg (by omega), if_neg (by omega)]
  simp only [Sem.run_bind, Sem.run_pure, Result.andThen_ok, hzv]
  rw [hf _ (by simp)]
  simp [newRow]
variable {ops : Array Oper} {rest : List Oper} {o : Oper} {a : Act} {w : World} {Q : Exit → Act → World → Prop}
theorem wl_build1 (t : TypeId) (x : Operand) (ho : o.op = .buildSlice t 1 #[(0, x)]) (hw : Region.wanted o (yielded ops a.tmps) = true) (e : TypeId) (i : TypeInfo) (z : Value) (ks : List Value) (hx : a.eval x = .agg ks.toArray)
    (ht : P.underlying t = some (.slice e)) (hi : P.info? e = some i) (hz : i.zero = some z) (hsz : i.size = ks.length) (h0 : 0 < ks.length) (hmax : ks.length ≤ 1000)
    (h : wpList P ops Q rest (a.put o.dst (.slice (some ⟨w.heap.size, 0, none⟩) 1 1)) (w.alloc (.cells ⟨ks⟩ e))) : wpList P ops Q (o :: rest) a w := by
  refine wpList_step fun K hK => ?_
  rw [if_pos hw]
  unfold Oper.wp execOp
  have hr := run_build1 (P := P) w t e i z ks ht hi hz hsz h0 hmax
  simp only [ho, List.map_toArray, List.map_cons, List.map_nil, hx, Sem.run_bind, Sem.run_pure, Result.andThen_ok, hr]
  exact hK _ _ h
end
end Go.Proofs.YtppmkehdhpgdcaaGreat
end
section
namespace Go.Proofs.YtppmkehdhpgdcaaGreat
open Go
set_option linter.unusedVariables false
section
variable {P : Program} {ops : Array Oper} {S : World → Prop} {Q : Exit → Act → World → Prop} {i : Nat} {r : OrdT} {a : Act} {w : World}
end
theorem fill_at : ∀ (ks : List Value) (n m : Nat) (pre mid post : List Value), mid.length = ks.length → n + m = pre.length →
    (ks.zipIdx m).foldl (fun (cs : Array Value) (p : Value × Nat) => cs.setIfInBounds (n + p.2) p.1) (pre ++ mid ++ post).toArray = (pre ++ ks ++ post).toArray
  | [], n, m, pre, mid, post, h, _ => by
    rw [List.eq_nil_of_length_eq_zero h]; rfl
  | k :: ks, n, m, pre, mid, post, h, hn => by
    cases mid with
    | nil => cases h
    | cons x mid =>
      rw [List.zipIdx_cons, List.foldl_cons]
      have h1 : (pre ++ x :: mid ++ post).toArray.setIfInBounds (n + m) k = ((pre ++ [k]) ++ mid ++ post).toArray := by
        rw [hn, List.setIfInBounds_toArray]
        congr 1
        simp
      show List.foldl _ ((pre ++ x :: mid ++ post).toArray.setIfInBounds (n + m) k) _ = _
      rw [h1]
      have := fill_at ks n (m + 1) (pre ++ [k]) mid post (by simpa using h) (by rw [List.length_append, List.length_singleton]; omega)
      rw [this]
      congr 1
      simp
theorem fill_two (size : Nat) (k1 k2 : List Value) (cells : Array Value) (h1 : k1.length = size) (h2 : k2.length = size) (hc : cells.size = 2 * size) :
    Instr.fill (fun i => some (i * size, size)) cells [(0, .agg k1.toArray), (1, .agg k2.toArray)] = some (k1 ++ k2).toArray := by
  have e1 : (Value.agg k1.toArray).cells = k1.toArray := rfl
  have e2 : (Value.agg k2.toArray).cells = k2.toArray := rfl
  obtain ⟨m1, m2, hm, hl1, hl2⟩ : ∃ m1 m2 : List Value, cells = (m1 ++ m2).toArray ∧ m1.length = size ∧ m2.length = size := by
    refine ⟨cells.toList.take size, cells.toList.drop size, by simp, ?_, ?_⟩
    · rw [List.length_take, Array.length_toList]; omega
    · rw [List.length_drop, Array.length_toList]; omega
  subst hm
  unfold Instr.fill
  simp only [e1]
  rw [if_neg (by simp [h1, hl1, hl2])]
  have f1 := fill_at k1 (0 * size) 0 [] m1 m2 (by rw [hl1, h1]) (by simp)
  rw [List.nil_append, List.nil_append] at f1
  have f1' : (k1.toArray.zipIdx).foldl (fun (cs : Array Value) (p : Value × Nat) => cs.setIfInBounds (0 * size + p.2) p.1) (m1 ++ m2).toArray = (k1 ++ m2).toArray := by
    rw [← f1]; simp
  rw [show (k1.toArray.zipIdx.foldl (fun cs x => match x with | (c, j) => cs.setIfInBounds (0 * size + j) c) (m1 ++ m2).toArray) = (k1 ++ m2).toArray from f1']
  unfold Instr.fill
  simp only [e2]
  rw [if_neg (by simp [h1, h2, hl2])]
  have f2 := fill_at k2 (1 * size) 0 k1 m2 [] (by rw [hl2, h2]) (by rw [h1]; simp)
  rw [List.append_nil, List.append_nil] at f2
  have f2' : (k2.toArray.zipIdx).foldl (fun (cs : Array Value) (p : Value × Nat) => cs.setIfInBounds (1 * size + p.2) p.1) (k1 ++ m2).toArray = (k1 ++ k2).toArray := by
    rw [← f2]; simp
  rw [show (k2.toArray.zipIdx.foldl (fun cs x => match x with | (c, j) => cs.setIfInBounds (1 * size + j) c) (k1 ++ m2).toArray) = (k1 ++ k2).toArray from f2']
  rfl
section
variable {P : Program}
theorem run_build2 (w : World) (t e : TypeId) (i : TypeInfo) (z : Value) (k1 k2 : List Value) (ht : P.underlying t = some (.slice e)) (hi : P.info? e = some i) (hz : i.zero = some z) (hsz : i.size = k1.length) (hs2 : k2.length = k1.length) (h0 : 0 < k1.length) (hmax : k1.length ≤ 1000) :
    (Instr.buildSlice t 2 #[(0, .agg k1.toArray), (1, .agg k2.toArray)]).run P w = .ok (.slice (some ⟨w.heap.size, 0, none⟩) 2 2) (w.alloc (.cells ⟨k1 ++ k2⟩ e)) := by
  have hs : (sizeOf e).run P w = .ok k1.length w := by simp [sizeOf, typeInfo, hi, hsz]
  have hzv : (zeroValue e).run P w = .ok z w := by simp [zeroValue, typeInfo, hi, hz]
  have hf : ∀ cells : Array Value, cells.size = 2 * k1.length → Instr.fill (fun i => some (i * k1.length, k1.length)) cells [(0, .agg k1.toArray), (1, .agg k2.toArray)] = some (k1 ++ k2).toArray := fun cells hc => fill_two k1.length k1 k2 cells rfl hs2 hc
  unfold Instr.buildSlice
  simp only [Sem.run_bind, run_underlying ht, Result.andThen_ok, hs]
  rw [if_neg (by omega), if_neg (by omega)]
  simp only [Sem.run_bind, Sem.run_pure, Result.andThen_ok, hzv]
  rw [hf _ (by simp)]
  simp [newRow]
variable {o : Oper} {a : Act} {w : World}
theorem exec_build2 (t : TypeId) (x y : Operand) (ho : o.op = .buildSlice t 2 #[(0, x), (1, y)]) (e : TypeId) (i : TypeInfo) (z : Value) (k1 k2 : List Value) (hx : a.eval x = .agg k1.toArray) (hy : a.eval y = .agg k2.toArray)
    (ht : P.underlying t = some (.slice e)) (hi : P.info? e = some i) (hz : i.zero = some z) (hsz : i.size = k1.length) (hs2 : k2.length = k1.length) (h0 : 0 < k1.length) (hmax : k1.length ≤ 1000) :
    (execOp a.eval o).run P w = .ok (.value (.slice (some ⟨w.heap.size, 0, none⟩) 2 2)) (w.alloc (.cells ⟨k1 ++ k2⟩ e)) := by
  unfold execOp
  have hr := run_build2 (P := P) w t e i z k1 k2 ht hi hz hsz hs2 h0 hmax
  simp only [ho, List.map_toArray, List.map_cons, List.map_nil, hx, hy, Sem.run_bind, Sem.run_pure, Result.andThen_ok, hr]
end
end Go.Proofs.YtppmkehdhpgdcaaGreat
end
section
namespace Go.Proofs.YtppmkehdhpgdcaaGreat
open Go
set_option linter.unusedVariables false
section
variable {P : Program} {ops : Array Oper} {S : World → Prop} {Q : Exit → Act → World → Prop} {i : Nat} {r : OrdT} {a : Act} {w : World}
theorem tree_cc {k j d1 d2 d3 n : Nat} {T : TypeId} (A B C : Value → World → Prop) (f1 f2 : FuncId) {fn1 fn2 : Func} (hf1 : P.funcs[f1]? = some fn1) (hn1 : (fn1.name == "runtime.NumGoroutine") = false) (hb1 : fn1.body.isNone = false)
    (hf2 : P.funcs[f2]? = some fn2) (hn2 : (fn2.name == "runtime.NumGoroutine") = false) (hb2 : fn2.body.isNone = false) (x1 : Value) (L : Array Value) (t1 t2 : Array TypeId)
    (o1 o2 o3 : Oper) (hi : ops[i]? = some o1) (hk : ops[k]? = some o2) (hj : ops[j]? = some o3) (ho1 : o1.op = .call { callee := .value (.func f1), args := #[.const x1], argTypes := t1 }) (ho2 : o2.op = .call { callee := .value (.func f2), args := #[.tmp d1], argTypes := t2 })
    (hd1 : o1.dst = some d1) (hd2 : o2.dst = some d2) (hd3 : o3.dst = some d3)
    (hw1 : Region.wanted o1 (yielded ops a.tmps) = true) (hw1' : ∀ v, Region.wanted o1 (yielded ops (a.put (some d3) v).tmps) = true)
    (hw2 : ∀ u, Region.wanted o2 (yielded ops (a.put (some d1) u).tmps) = true) (hw2' : ∀ u v, Region.wanted o2 (yielded ops ((a.put (some d1) u).put (some d3) v).tmps) = true)
    (hw3 : Region.wanted o3 (yielded ops a.tmps) = true) (hw3' : ∀ u, Region.wanted o3 (yielded ops (a.put (some d1) u).tmps) = true) (hw3'' : ∀ u v, Region.wanted o3 (yielded ops ((a.put (some d1) u).put (some d2) v).tmps) = true)
    (he2 : ∀ u, (a.put (some d1) u).eval (.tmp d1) = u) (he2' : ∀ u v, ((a.put (some d1) u).put (some d3) v).eval (.tmp d1) = u)
    (r3 : ∀ z : World, (execOp a.eval o3).run P z = .ok (.value (.slice (some ⟨z.heap.size, 0, none⟩) n n)) (z.alloc (.cells L T)))
    (r3' : ∀ u (z : World), (execOp (a.put (some d1) u).eval o3).run P z = .ok (.value (.slice (some ⟨z.heap.size, 0, none⟩) n n)) (z.alloc (.cells L T)))
    (r3'' : ∀ u v (z : World), (execOp ((a.put (some d1) u).put (some d2) v).eval o3).run P z = .ok (.value (.slice (some ⟨z.heap.size, 0, none⟩) n n)) (z.alloc (.cells L T)))
    (c1 : ∀ z : World, S z → Calls P f1 #[x1] z fun e z' => ∃ v, e = .returned v ∧ S z' ∧ A v z' ∧ ∀ u, C u z → C u z')
    (c2 : ∀ u (z : World), S z → A u z → Calls P f2 #[u] z fun e z' => ∃ v, e = .returned v ∧ S z' ∧ B v z' ∧ ∀ u, C u z → C u z')
    (hSa : ∀ z : World, S z → S (z.alloc (.cells L T))) (hAa : ∀ v (z : World), A v z → A v (z.alloc (.cells L T))) (hBa : ∀ v (z : World), B v z → B v (z.alloc (.cells L T))) (hCa : ∀ z : World, C (.slice (some ⟨z.heap.size, 0, none⟩) n n) (z.alloc (.cells L T)))
    (h13 : d1 ≠ d3) (h23 : d2 ≠ d3) (hS : S w)
    (h : ∀ u v x z, S z → B v z → C x z → wpTree P ops S Q r (((a.put (some d1) u).put (some d2) v).put (some d3) x) z) :
    wpTree P ops S Q (.two i j (.two k j (.act j r) (.act k r)) (.act i (.act k r))) a w := by
  have e1 : ∀ (a : Act) (z : World), (execOp a.eval o1).run P z = .ok (.enter f1 #[x1]) z := fun a z => by
    rw [exec_call (a := a) hf1 hn1 hb1 o1 #[.const x1] t1 ho1]
    simp [Act.eval]
  have e2 : ∀ (a : Act) (u : Value) (z : World), a.eval (.tmp d1) = u → (execOp a.eval o2).run P z = .ok (.enter f2 #[u]) z := fun a u z hu => by
    have := exec_call (a := a) (w := z) hf2 hn2 hb2 o2 #[.tmp d1] t2 ho2
    rw [this]
    simp [hu]
  have hact : ∀ (u x : Value) (z : World), S z → A u z → C x z → wpTree P ops S Q (.act k r) ((a.put (some d1) u).put (some d3) x) z := by
    intro u x z hSz hAz hCz
    show wpOp P ops Q k _ _ z
    refine op_call o2 f2 #[u] hk (hw2' u x) (e2 _ u z (he2' u x)) ((c2 u z hSz hAz).mono ?_)
    rintro e z' ⟨v, rfl, hS', hB', hC'⟩
    refine ⟨v, rfl, hS', ?_⟩
    rw [hd2, put_comm _ h23]
    exact h u v x z' hS' hB' (hC' x hCz)
  refine ⟨?_, ?_⟩
  · refine op_call o1 f1 #[x1] hi hw1 (e1 a w) ((c1 w hS).mono ?_)
    rintro e z ⟨u, rfl, hSz, hAz, -⟩
    refine ⟨u, rfl, hSz, ?_⟩
    rw [hd1]
    refine ⟨?_, ?_⟩
    · refine op_call o2 f2 #[u] hk (hw2 u) (e2 _ u z (he2 u)) ((c2 u z hSz hAz).mono ?_)
      rintro e z' ⟨v, rfl, hS', hB', -⟩
      refine ⟨v, rfl, hS', ?_⟩
      rw [hd2]
      show wpOp P ops Q j _ _ z'
      refine op_run o3 _ _ hj (hw3'' u v) (r3'' u v z') ⟨hSa z' hS', ?_⟩
      rw [hd3]
      exact h _ _ _ _ (hSa z' hS') (hBa v z' hB') (hCa z')
    · refine op_run o3 _ _ hj (hw3' u) (r3' u z) ⟨hSa z hSz, ?_⟩
      rw [hd3]
      exact hact _ _ _ (hSa z hSz) (hAa u z hAz) (hCa z)
  · refine op_run o3 _ _ hj hw3 (r3 w) ⟨hSa w hS, ?_⟩
    rw [hd3]
    show wpOp P ops Q i _ _ _
    refine op_call o1 f1 #[x1] hi (hw1' _) (e1 _ _) ((c1 _ (hSa w hS)).mono ?_)
    rintro e z ⟨u, rfl, hSz, hAz, hCz⟩
    refine ⟨u, rfl, hSz, ?_⟩
    rw [hd1, put_comm _ h13]
    exact hact _ _ _ hSz hAz (hCz _ (hCa w))
end
end Go.Proofs.YtppmkehdhpgdcaaGreat
end
