/- slices.Backward over a list of nodes. -/
import Derived.Test.YtedajbpjokmlaaaROrder
import Derived.RangeFuncNested
import Derived.RangeFuncBound
import Derived.RangeFuncCalls
import Derived.RangeFuncLeaves
import Derived.Shelf.Abstract
import Derived.Shelf.RegionOpen
import Derived.OwnWalkIn
import Derived.TacticsInMore
import Derived.LoopNIn
import Derived.LoopIn
namespace Go.Proofs.Ytedajbpjokmlaaa
open Go Go.RowKit Go.Shelf
set_option linter.unusedVariables false
attribute [local go_sem] Oper.semAt_some

/-- a place in a list, and the node there -/
abbrev NP (N : Nat) := { x : Int × Nat // x.2 < N }
def encP {N : Nat} (x : NP N) : Array Value := #[.int .i64 x.1.1, .int .i64 x.1.2]
def placesL {N : Nat} (D : List Nat) (h : ∀ i ∈ D, i < N) : List (NP N) := (D.zipIdx).pmap (fun (x : Nat × Nat) (hx : x.1 < N) => (⟨((x.2 : Int), x.1), hx⟩ : NP N)) (fun x hx => h x.1 (List.fst_mem_of_mem_zipIdx hx))
theorem places_len {N : Nat} (D : List Nat) (h : ∀ i ∈ D, i < N) : (placesL D h).length = D.length := by simp [placesL]
theorem places_at {N : Nat} {D : List Nat} {h : ∀ i ∈ D, i < N} {j : Nat} {x : NP N} (hx : (placesL D h)[j]? = some x) : x.1.1 = j ∧ D[j]? = some x.1.2 := by
  unfold placesL at hx
  rw [List.getElem?_pmap] at hx
  simp only [Option.pmap_eq_some_iff] at hx
  obtain ⟨y, h1, h2, rfl⟩ := hx
  rw [List.getElem?_zipIdx] at h2
  simp at h2
  obtain ⟨a, ha, rfl⟩ := h2
  exact ⟨by simp, ha⟩
theorem places_nodes {N : Nat} (D : List Nat) (h : ∀ i ∈ D, i < N) : (placesL D h).map (fun x => x.1.2) = D := by
  refine List.ext_getElem? fun j => ?_
  rw [List.getElem?_map]
  cases hj : (placesL D h)[j]? with
  | none =>
    have := List.getElem?_eq_none_iff.1 hj
    rw [places_len] at this
    rw [List.getElem?_eq_none this]; rfl
  | some x => rw [(places_at hj).2]; rfl

set_option maxRecDepth 100000 in
set_option maxHeartbeats 2000000 in
theorem back1_in {N : Nat} (F : Fence) (n : Nat) (h62 : F.fn 62) (hro : F.round = none) (hn : 1 ≤ n) (l Bs b cap : Nat) (L : List (NP N)) (hlen : L.length ≤ 10000) (Kp : World → World → Prop)
    (hK1 : ∀ W W', Kp W W' → W'.heap[b]? = W.heap[b]?) (hK2 : ∀ W W', Kp W W' → W'.heap[Bs]? = W.heap[Bs]?) (J Jx : List (NP N) → World → Prop)
    (hY : ∀ pre x W, J pre W → pre.length < L.length → YieldAt F (n - 1) Try.prog l (encP x) W fun e W' =>
      (e = .returned (.bool true) ∧ J (pre ++ [x]) W' ∧ Kp W W') ∨ (e = .returned (.bool false) ∧ Jx (pre ++ [x]) W'))
    (W : World) (hBs : W.cell? ⟨Bs, 0, none⟩ = some (.slice (some ⟨b, 0, none⟩) L.length cap)) (hc : ∀ (j : Nat) (x : NP N), L[j]? = some x → x.1.1 = (j : Int) ∧ W.cell? ⟨b, j, none⟩ = some (.int .i64 x.1.2)) (h0 : J [] W) :
    CallsIn F n Try.prog 62 #[.func (.yield l) #[] #[], .pointer (some ⟨Bs, 0, none⟩)] W fun e W' => (∃ v, e = .returned v) ∧
      ((∃ ys, ys = L.reverse ∧ J ys W') ∨ (∃ pre, True ∧ Jx pre W')) := by
  refine callsIn_of_wp Try.func62 rfl h62 ?_ hro
  simp only [Try.ntmps62, List.size_toArray, List.length_cons, List.length_nil, Nat.reduceAdd, Nat.reduceSub, Array.replicate_succ, Array.replicate_zero, List.push_toArray, List.append_toArray, List.nil_append, List.cons_append]
  have hl2 : (L.length : Int) ≤ 10000 := by omega
  gi_wp2
  gi_loopw [3] (fun i wr => ∃ k m : Nat, k + m = L.length ∧ i = .int .i64 ((m : Int) - 1) ∧ J (L.reverse.take k) wr ∧ wr.heap[b]? = W.heap[b]? ∧ wr.heap[Bs]? = W.heap[Bs]?) (fun i _ => (intOf i + 1).toNat)
  case atStart => exact ⟨0, L.length, by omega, rfl, h0, rfl, rfl⟩
  case round =>
    obtain ⟨k, m, hkm, rfl, hJs, hnx, hbs⟩ := hrel
    have hBs' := (World.cell?_of_block (a := ⟨Bs, 0, none⟩) hbs).trans hBs
    cases m with
    | zero =>
      have e1 : ((0 : Nat) : Int) - 1 = -1 := rfl
      rw [e1]
      have htk : L.reverse.take k = L.reverse := List.take_of_length_le (by rw [List.length_reverse]; omega)
      gi_wp2
      go_end0
      exact ⟨⟨_, rfl⟩, .inl ⟨_, rfl, htk ▸ hJs⟩⟩
    | succ m =>
      have e1 : ((m + 1 : Nat) : Int) - 1 = (m : Int) := by omega
      rw [e1]
      obtain ⟨x, hx⟩ : ∃ x, L[m]? = some x := ⟨_, List.getElem?_eq_getElem (by omega)⟩
      obtain ⟨hx1, hx2⟩ := hc m x hx
      have hcx := (World.cell?_of_block (a := ⟨b, m, none⟩) hnx).trans hx2
      have hrx : L.reverse[k]? = some x := by rw [List.getElem?_reverse (by omega), show L.length - 1 - k = m by omega]; exact hx
      obtain ⟨fn, tmps, assign, body, hy, hR⟩ := hY _ x wr hJs (by rw [List.length_take, List.length_reverse]; omega)
      rw [← take_at hrx] at hR
      unfold encP at hy
      rw [hx1] at hy
      have hm2 : (m : Int) < (L.length : Int) := by omega
      clear hx hx1 hx2 hrx e1
      gi_wp2
      refine hR.mono ?_
      rintro e W3 (⟨rfl, hJ3, hk3⟩ | ⟨rfl, hJx3⟩)
      · gi_wp2
        go_roundw
        case rel => exact ⟨k + 1, m, by omega, rfl, hJ3, (hK1 _ _ hk3).trans hnx, (hK2 _ _ hk3).trans hbs⟩
        case measure => simp [intOf]
      · gi_wp2
        refine bodyPost_ret (results_none rfl _ _ _) rfl ?_
        exact ⟨⟨_, rfl⟩, .inr ⟨_, trivial, hJx3⟩⟩
set_option maxRecDepth 100000 in
set_option maxHeartbeats 2000000 in
theorem back_nil_in {N : Nat} (F : Fence) (n : Nat) (h62 : F.fn 62) (hro : F.round = none) (l Bs c : Nat) (A : Option Addr) (J : List (NP N) → World → Prop)
    (W : World) (hBs : W.cell? ⟨Bs, 0, none⟩ = some (.slice A 0 c)) (h0 : J [] W) :
    CallsIn F n Try.prog 62 #[.func (.yield l) #[] #[], .pointer (some ⟨Bs, 0, none⟩)] W fun e W' => (∃ v, e = .returned v) ∧ J [] W' := by
  refine callsIn_of_wp Try.func62 rfl h62 ?_ hro
  simp only [Try.ntmps62, List.size_toArray, List.length_cons, List.length_nil, Nat.reduceAdd, Nat.reduceSub, Array.replicate_succ, Array.replicate_zero, List.push_toArray, List.append_toArray, List.nil_append, List.cons_append]
  gi_wp2
  gi_loopw [3] (fun i wr => i = .int .i64 (-1) ∧ J [] wr) (fun _ _ => 0)
  case atStart => exact ⟨rfl, h0⟩
  case round =>
    obtain ⟨rfl, hJs⟩ := hrel
    gi_wp2
    go_end0
    exact ⟨⟨_, rfl⟩, hJs⟩
theorem back_stops {N : Nat} (F : Fence) (n : Nat) (h62 : F.fn 62) (hro : F.round = none) (hn : 1 ≤ n) (Bs c : Nat) (A : Option Addr) (D : List Nat) (hD : ∀ i ∈ D, i < N) (hlen : D.length ≤ 10000) (w : World) (hBs : Bs < w.heap.size)
    (hc : w.cell? ⟨Bs, 0, none⟩ = some (.slice A D.length c)) (ho : OutAt w w.heap.size (.slice A D.length c) D) (Kp : World → World → Prop) (hK1 : ∀ b, A = some ⟨b, 0, none⟩ → ∀ W W', Kp W W' → W'.heap[b]? = W.heap[b]?) (hK2 : ∀ W W', Kp W W' → W'.heap[Bs]? = W.heap[Bs]?) :
    SeqStopsK F n Try.prog 62 #[.pointer (some ⟨Bs, 0, none⟩)] (encP (N := N)) Kp (fun ys => ys.map (fun x => x.1.2) = D.reverse) (fun _ => True) D.length w := fun l J Jx W hW _ _ hY h0 => by
  have hc' := (hW.cell (p := ⟨Bs, 0, none⟩) hBs).trans hc
  obtain ⟨A', c', hv, hA⟩ := ho.ex
  injection hv with e1 _ e2
  subst e1 e2
  by_cases h1 : D.length = 0
  · obtain rfl : D = [] := List.length_eq_zero_iff.1 h1
    exact (back_nil_in F n h62 hro l Bs c A J W hc' h0).mono fun e W' ⟨he, hj⟩ => ⟨he, .inl ⟨[], rfl, hj⟩⟩
  · obtain ⟨b, rfl, hb, hx⟩ := hA (by omega)
    have hpl := places_len D hD
    refine (back1_in F n h62 hro hn l Bs b c (placesL D hD) (by omega) Kp (hK1 b rfl) hK2 J Jx (by rw [hpl]; exact hY) W (by rw [hpl]; exact hc') (fun j x hj => ?_) h0).mono ?_
    · obtain ⟨h2, h3⟩ := places_at hj
      exact ⟨h2, (hW.cell (p := ⟨b, j, none⟩) hb).trans (hx j _ h3)⟩
    · rintro e W' ⟨he, ⟨ys, rfl, hj⟩ | ⟨pre, _, hj⟩⟩
      · refine ⟨he, .inl ⟨_, ?_, hj⟩⟩
        show List.map _ _ = _
        rw [List.map_reverse, places_nodes]
      · exact ⟨he, .inr ⟨_, trivial, hj⟩⟩
theorem back_any (A : Option Addr) (len cap : Nat) (w : World) : Calls Try.prog 43 #[.slice A len cap] w (fun e w' => e = .returned (.func (.func 62) #[] #[.pointer (some ⟨w.heap.size, 0, none⟩)]) ∧ w' = w.alloc (.cells #[.slice A len cap] 34)) := by
  go_enter Try.func43, Try.ntmps43
  go_wp2
  go_ret
  exact ⟨rfl, rfl⟩
end Go.Proofs.Ytedajbpjokmlaaa
