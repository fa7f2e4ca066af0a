/- Arguments opened: slices of pairs, slices of numbers. -/
import Derived.Test.YtpikafadfailkaaRows
import Derived.Test.YtpikafadfailkaaLists
import Derived.ProofKit
import Derived.OpenShut
import Derived.ShutString
import Derived.ChangeOld
import Derived.Deep.Slices
namespace Go.Proofs.Ytpikafadfailkaa
open Go.ChangeShapes Go.WideShapes Go.ChangeAt Go.RowKit Go.Deep P

theorem own : ownKnob Try.prog.godebug = none := by kernel_rfl
theorem laidOut : laidOutB Try.prog = true := by kernel_rfl

section
variable {H : Type} {enc : TypeId × Value → H} {W : World}
theorem lt_of_trod {t : TypeId} {v : Value} {d : DataW H} {p : List MemPlace} (h : DataW.Trod enc Try.prog W 0 (fun _ => true) true t v d p) : ∀ x ∈ p, x.block < W.heap.size := by
  obtain ⟨m, hm⟩ := h; exact DataW.trod_lt m _ _ _ hm

theorem open_pairs {A : Option Addr} {len cap : Nat} {d : DataW H} {p : List MemPlace} (h : DataW.Trod enc Try.prog W 0 (fun _ => true) true 22 (.slice A len cap) d p) :
    ∃ ps : List (Int × Int), ps.length = len ∧ Pairs W W.heap.size A ps := by
  obtain ⟨fuel, hf⟩ := h
  rcases open_slice Try.underlying22 hf with ⟨hcs, _⟩ | ⟨a, len', cap', m, n, D, Pl, hcs, _, hl, hm, hmm, _, hi⟩
  · simp [Value.cells] at hcs
    obtain ⟨rfl, rfl, rfl⟩ := hcs
    exact ⟨[], rfl, by simp, fun h => absurd h (by simp)⟩
  · simp [Value.cells] at hcs
    obtain ⟨rfl, rfl, rfl⟩ := hcs
    simp only [if_true] at hmm
    subst hmm
    have hC : Try.prog.cellsOf 39 = 2 := by kernel_rfl
    have hC1 : Try.prog.cellsOf 3 = 1 := by kernel_rfl
    have each : ∀ i, i < m → ∃ x y : Int, W.cell? (a.add (i * 2)) = some (.int .i64 x) ∧ W.cell? ((a.add (i * 2)).add 1) = some (.int .i64 y) ∧ (Lit.int .i64 x).wf = true ∧ (Lit.int .i64 y).wf = true := by
      intro i him
      obtain ⟨cs', hc, ht⟩ := hi i him
      rw [hC] at hc
      obtain ⟨_, hlen, hat⟩ := World.cells?_some hc
      obtain ⟨xs, m', _, _, _, hxs, hel⟩ := DataW.trod_array Try.underlying39 ht
      have h0 := hel 0 (by omega)
      have h1 := hel 1 (by omega)
      rw [hC1] at h0 h1
      match cs', hlen with
      | [c0, c1], _ =>
        have k0 := hat 0 (by omega)
        have k1 := hat 1 (by omega)
        rw [List.getElem?_eq_getElem (by omega)] at h0 h1
        simp only [Nat.zero_mul, List.drop_zero, List.take_succ_cons, List.take_zero, Nat.one_mul, List.drop_succ_cons] at h0 h1
        obtain ⟨x, hx, _, wx⟩ := DataW.trod_int Try.underlying3 h0
        obtain ⟨y, hy, _, wy⟩ := DataW.trod_int Try.underlying3 h1
        simp at hx hy
        subst hx hy
        refine ⟨x, y, ?_, by simpa using k1, wx, wy⟩
        have : (a.add (i * 2)).add 0 = a.add (i * 2) := by simp [Addr.add]
        rw [this] at k0
        simpa using k0
    obtain ⟨f, hf2⟩ : ∃ f : Nat → Int × Int, ∀ i, i < m → W.cell? (a.add (i * 2)) = some (.int .i64 (f i).1) ∧ W.cell? ((a.add (i * 2)).add 1) = some (.int .i64 (f i).2) ∧ (Lit.int .i64 (f i).1).wf = true ∧ (Lit.int .i64 (f i).2).wf = true := by
      refine ⟨fun i => if h : i < m then ((each i h).choose, (each i h).choose_spec.choose) else (0, 0), fun i hi => ?_⟩
      simp only [dif_pos hi]
      exact (each i hi).choose_spec.choose_spec
    unfold maxLen at hm
    refine ⟨(List.range len).map f, by simp, by simp; omega, fun hp => ?_⟩
    have hlen : 0 < len := by simpa using hp
    obtain ⟨c0, _⟩ := hf2 0 (by omega)
    have hb := block_lt_of_cell c0
    have hs := World.cell?_spot c0
    obtain ⟨b, o, s⟩ := a
    have hs' : s = none := by simpa [Addr.add] using hs
    subst hs'
    refine ⟨b, o, rfl, by simpa [Addr.add] using hb, fun i p hip => ?_⟩
    have hilt : i < len := by have := (List.getElem?_eq_some_iff.1 hip).1; simpa using this
    rw [List.getElem?_map, List.getElem?_range hilt] at hip
    simp at hip
    subst hip
    have := hf2 i (by omega)
    rw [Addr.add_mid, Addr.add_mid] at this
    exact this

theorem open_nums {A : Option Addr} {len cap : Nat} {d : DataW H} {p : List MemPlace} (h : DataW.Trod enc Try.prog W 0 (fun _ => true) true 50 (.slice A len cap) d p) :
    ∃ l : List Int, l.length = len ∧ IntsAt W W.heap.size (.slice A len cap) l := by
  obtain ⟨fuel, hf⟩ := h
  rcases open_ints Try.underlying50 Try.underlying3 (by kernel_rfl) hf with ⟨hcs, _⟩ | ⟨a, len', cap', zs, hcs, _, hl, hm, hz, _, hcell, _⟩
  · simp [Value.cells] at hcs
    obtain ⟨rfl, rfl, rfl⟩ := hcs
    exact ⟨[], rfl, by simp, none, 0, rfl, fun h => absurd h (by simp)⟩
  · simp [Value.cells] at hcs
    obtain ⟨rfl, rfl, rfl⟩ := hcs
    simp only [if_true] at hz
    unfold maxLen at hm
    have hlen : (zs.take len).length = len := by rw [List.length_take]; omega
    refine ⟨zs.take len, hlen, by rw [hlen]; omega, some a, cap, by rw [hlen], fun hp => ?_⟩
    rw [hlen] at hp
    have c0 := hcell 0 (by omega)
    have hb := block_lt_of_cell c0
    have hs := World.cell?_spot c0
    obtain ⟨b, o, s⟩ := a
    have hs' : s = none := by simpa [Addr.add] using hs
    subst hs'
    refine ⟨b, o, rfl, by simpa [Addr.add] using hb, fun i x hx => ?_⟩
    rw [List.getElem?_take] at hx
    split at hx
    · have hi := (List.getElem?_eq_some_iff.1 hx).1
      have := hcell i hi
      rw [Addr.add_mid] at this
      rw [this]
      simp [List.getD, hx]
    · cases hx
end

end Go.Proofs.Ytpikafadfailkaa
