/- Parts of a proof: FitV. -/
import Derived.SizedLaws
import Derived.Test.YtpmjcbjdcjjplaaGreatPack5
import Derived.Test.YtpmjcbjdcjjplaaGreatPack15
namespace Go.Proofs.YtpmjcbjdcjjplaaGreat
open Go.ChangeShapes Go.WideShapes Go.ChangeAt Go.RowKit Go.Deep
set_option linter.unusedVariables false
inductive Fit : VT → Prop
  | mk {k n : Int} {f : Nat} {s : ByteArray} {ns : List ByteArray} {its : List VT} (h1 : ns.length * 16 ≤ reachBytes) (h2 : its.length * 88 ≤ reachBytes) (h3 : ∀ x ∈ its, Fit x) : Fit (.mk k n f s ns its)
theorem Fit.inv {k n : Int} {f : Nat} {s : ByteArray} {ns : List ByteArray} {its : List VT} (h : Fit (.mk k n f s ns its)) : ns.length * 16 ≤ reachBytes ∧ its.length * 88 ≤ reachBytes ∧ ∀ x ∈ its, Fit x := by
  cases h with
  | mk h1 h2 h3 => exact ⟨h1, h2, h3⟩
theorem weightsAll_mem {H : Type} {P : Program} {e : TypeId} : ∀ {l : List (DataW H)} {d : DataW H}, d ∈ l → ∀ n ∈ d.weights P e, n ∈ DataW.weightsAll P e l
  | [], _, h, _, _ => by cases h
  | a :: l, d, h, n, hn => by
    simp only [DataW.weightsAll, List.mem_append]
    rcases List.mem_cons.1 h with rfl | h
    · exact .inl hn
    · exact .inr (weightsAll_mem h n hn)
section
variable {H : Type} {enc : TypeId × Value → H} {W : World}
theorem open_slF {α : Type} {T E : TypeId} {k : Nat} {R : List Value → α → Prop} {S : α → Prop} (hT : Tryz.prog.underlying T = some (.slice E)) (hk : Tryz.prog.cellsOf E = k) (h0 : 0 < k) {fuel : Nat} {v : Value} {x : DataW H × List MemPlace}
    (h : DataW.trod enc Tryz.prog W 0 (fun _ => true) true fuel T [v] = some x) (hw : ∀ n ∈ x.1.weights Tryz.prog T, n ≤ reachBytes)
    (each : ∀ n, n < fuel → ∀ cs y, DataW.trod enc Tryz.prog W 0 (fun _ => true) true n E cs = some y → (∀ n ∈ y.1.weights Tryz.prog E, n ≤ reachBytes) → ∃ a : α, R cs a ∧ S a) :
    ∃ l : List α, SlAt W W.heap.size k R v l ∧ l.length ≤ maxLen ∧ l.length * Tryz.prog.bytesOf E ≤ reachBytes ∧ ∀ a ∈ l, S a := by
  rcases DataW.trod_slice hT h with ⟨hcs, _⟩ | ⟨a, len, cap, elems, rest, n, hf, hcs, hx, _, hle, hm, hlen, hel, _, _⟩
  · obtain rfl : v = .slice none 0 0 := by simpa using hcs
    exact ⟨[], SlAt.nil _ _ _ _, by simp, by simp, fun a ha => by cases ha⟩
  · obtain rfl : v = .slice (some a) len cap := by simpa using hcs
    rw [hk] at hel
    have hwt : len * Tryz.prog.bytesOf E ≤ reachBytes ∧ ∀ e ∈ elems, ∀ n ∈ e.1.weights Tryz.prog E, n ≤ reachBytes := by
      rw [hx] at hw
      simp only [DataW.weights, hT, List.mem_cons, List.mem_append] at hw
      refine ⟨?_, fun e he n hn => hw n (.inr (.inl (weightsAll_mem (List.mem_map_of_mem he) n hn)))⟩
      have := hw _ (.inl rfl)
      rw [List.length_map, List.length_map, hlen, Nat.add_mul] at this
      omega
    have hex : ∀ i, i < len → ∃ b : α, (∃ cs : List Value, cs.length = k ∧ (∀ j, j < k → W.cell? ((a.add (i * k)).add j) = cs[j]?) ∧ R cs b) ∧ S b := fun i hi => by
      have h1 := hel i hi
      rw [List.getElem?_eq_getElem (by omega)] at h1
      obtain ⟨cs, hc, ht⟩ := Option.bind_eq_some_iff.1 h1
      obtain ⟨_, hlen2, hat⟩ := World.cells?_some hc
      obtain ⟨b, hb, hS⟩ := each n (by omega) cs _ ht (hwt.2 _ (List.getElem_mem _))
      exact ⟨b, ⟨cs, hlen2, hat, hb⟩, hS⟩
    obtain ⟨l, hl, hall⟩ := list_choose len hex
    refine ⟨l, ⟨by unfold maxLen at hm; omega, some a, cap, by rw [hl], fun hp => ?_⟩, by omega, by rw [hl]; exact hwt.1, fun b hb => ?_⟩
    · obtain ⟨x0, hx0⟩ : ∃ x0, l[0]? = some x0 := ⟨_, List.getElem?_eq_getElem hp⟩
      obtain ⟨⟨cs0, hl0, hat0, _⟩, _⟩ := hall 0 x0 hx0
      have c0 := hat0 0 h0
      rw [List.getElem?_eq_getElem (by omega)] at c0
      have hb := block_lt_of_cell c0
      have hs := World.cell?_spot c0
      obtain ⟨b, o, s⟩ := a
      have hs' : s = none := by simpa [Addr.add] using hs
      subst hs'
      refine ⟨b, o, rfl, by simpa [Addr.add] using hb, fun i x hx => ?_⟩
      obtain ⟨⟨cs, h1, h2, h3⟩, _⟩ := hall i x hx
      refine ⟨cs, h1, fun j u hu => ?_, h3⟩
      have := h2 j (by have := (List.getElem?_eq_some_iff.1 hu).1; omega)
      rw [Addr.add_mid, Addr.add_mid] at this
      rw [this, hu]
    · obtain ⟨i, hi⟩ := List.mem_iff_getElem?.1 hb
      exact (hall i b hi).2
theorem bytes_string : Tryz.prog.bytesOf 9 = 16 := by kernel_rfl
theorem bytes_value : Tryz.prog.bytesOf 38 = 88 := by kernel_rfl
theorem open_fit : ∀ (fuel : Nat) (cs : List Value) (x : DataW H × List MemPlace), DataW.trod enc Tryz.prog W 0 (fun _ => true) true fuel 38 cs = some x → (∀ n ∈ x.1.weights Tryz.prog 38, n ≤ reachBytes) → ∃ t, ValAt W W.heap.size cs t ∧ Fit t := by
  intro fuel
  induction fuel using Nat.strongRecOn with
  | _ fuel ih =>
    intro cs x h hw
    obtain ⟨xs, n, hf, hx, hlen, hxl, hg⟩ := DataW.trod_struct Tryz.underlying38 h
    rw [cells_value] at hlen
    clear h
    obtain ⟨c0, c1, c2, c3, c4, c5, rfl⟩ := list6 hlen
    have h0 := hg 0 _ rfl
    have h1 := hg 1 _ rfl
    have h2 := hg 2 _ rfl
    have h3 := hg 3 _ rfl
    have h4 := hg 4 _ rfl
    have h5 := hg 5 _ rfl
    have hx6 : xs.length = 6 := hxl
    clear hg hxl
    rw [List.getElem?_eq_getElem (by omega)] at h0 h1 h2 h3 h4 h5
    simp only [List.getElem_toArray, List.getElem_cons_zero, List.getElem_cons_succ, cells_int, cells_int64, cells_float64, cells_string, cells_strings, cells_values, List.drop_zero, List.drop_succ_cons, List.take_succ_cons, List.take_zero] at h0 h1 h2 h3 h4 h5
    obtain ⟨k, e0, _, w0⟩ := DataW.trod_int Tryz.underlying3 h0
    obtain ⟨m, e1, _, w1⟩ := DataW.trod_int Tryz.underlying2 h1
    obtain ⟨f, e2, _, w2⟩ := trod_float Tryz.underlying34 h2
    obtain ⟨s, e3, _, w3⟩ := DataW.trod_string Tryz.underlying9 h3
    rw [hx] at hw
    simp only [DataW.weights, Tryz.underlying38] at hw
    have k4 : ∀ n ∈ (xs[4]'(by omega)).1.weights Tryz.prog 35, n ≤ reachBytes := fun n hn => hw n (DataW.weights_mem_each (j := 4) rfl (by rw [List.getElem?_map, List.getElem?_eq_getElem (by omega)]; rfl) n hn)
    have k5 : ∀ n ∈ (xs[5]'(by omega)).1.weights Tryz.prog 36, n ≤ reachBytes := fun n hn => hw n (DataW.weights_mem_each (j := 5) rfl (by rw [List.getElem?_map, List.getElem?_eq_getElem (by omega)]; rfl) n hn)
    obtain ⟨ns, hns, _, hnb, _⟩ := open_slF (S := fun _ => True) Tryz.underlying35 cells_string (by omega) h4 k4 fun _ _ cs y hy _ => by
      obtain ⟨s, hs⟩ := open_str hy
      exact ⟨s, hs, trivial⟩
    obtain ⟨its, hits, hil, hib, hfit⟩ := open_slF Tryz.underlying36 cells_value (by omega) h5 k5 fun q hq cs y hy hyw => ih q (by omega) cs y hy hyw
    rw [bytes_string] at hnb
    rw [bytes_value] at hib
    simp only [List.cons.injEq, and_true] at e0 e1 e2 e3
    subst e0 e1 e2 e3
    exact ⟨_, ValAt.of w0 w1 w2 w3 hns hil hits, .mk hnb hib hfit⟩
end
end Go.Proofs.YtpmjcbjdcjjplaaGreat
