/- region.graphOf. -/
import Derived.Test.YtlfefikhmdbbfaaGreatReach2
import Derived.Test.YtlfefikhmdbbfaaGreatGmem
namespace Go.Proofs.YtlfefikhmdbbfaaGreat
open Go.RowKit
set_option linter.unusedVariables false

def natsI (l : List Nat) : List Int := l.map fun x : Nat => (x : Int)
theorem natsI_len (l : List Nat) : (natsI l).length = l.length := by simp [natsI]
theorem natsI_snoc (l : List Nat) (x : Nat) : natsI (l ++ [x]) = natsI l ++ [(x : Int)] := by simp [natsI]
/-- row k: what leads out of k; behind these: what leads to k - n -/
def rowsG (n : Nat) (E : List (Nat × Nat)) (k : Nat) : List Int := if k < n then natsI (outs E k) else natsI (ins E (k - n))
structure GAt (w : World) (gb tb fb n base : Nat) (V : Nat → Value) (E : List (Nat × Nat)) : Prop where
  c0 : w.cell? ⟨gb, 0, none⟩ = some (.int .i64 n)
  c1 : w.cell? ⟨gb, 1, none⟩ = some (.slice (some ⟨tb, 0, none⟩) n n)
  c2 : w.cell? ⟨gb, 2, none⟩ = some (.slice (some ⟨fb, 0, none⟩) n n)
  rows : Rows2 w base tb fb n V (rowsG n E)
  lt : gb < w.heap.size
  ge : base ≤ tb ∧ base ≤ fb
def GraphPost (w : World) (n : Nat) (E : List (Nat × Nat)) (e : Ending) (w' : World) : Prop :=
  ∃ gb tb fb V, e = .returned (.pointer (some ⟨gb, 0, none⟩)) ∧ GAt w' gb tb fb n w.heap.size V E ∧ Below w.heap.size w w'
theorem info_ints : (Tryz.prog.info? 32).map (fun i => (i.zero, i.size, i.bytes)) = some (some (.slice none 0 0), 1, 24) := by kernel_rfl
theorem made_rep (z : Value) (h1 : z.cells = #[z]) (n : Nat) : madeCells z.cells n = Array.replicate n z := by
  refine Array.ext (by simp [size_madeCells]) fun i h2 h3 => ?_
  rw [size_madeCells] at h2
  have := made_at z h1 n i h2
  rw [Array.getElem?_eq_getElem (by rw [size_madeCells]; exact h2)] at this
  injection this with this
  rw [this]; simp
theorem own_slice {α : Type} {T : TypeId} {k base : Nat} {enc : α → List Value} {w : World} {v : Value} {l : List α} (h : OwnSl T k enc w base v l) : ∃ A n c, v = .slice A n c := by
  rcases h.2 with ⟨rfl, _⟩ | ⟨g, cap, cur, rfl, _⟩
  · exact ⟨_, _, _, rfl⟩
  · exact ⟨_, _, _, rfl⟩
theorem rowsG_len (n : Nat) (E : List (Nat × Nat)) (k : Nat) : (rowsG n E k).length ≤ E.length := by
  unfold rowsG
  split
  · rw [natsI_len]; exact outs_len _ _
  · rw [natsI_len]; exact ins_len _ _
theorem rowsG_snoc (n : Nat) (E : List (Nat × Nat)) (f t : Nat) (hf : f < n) (ht : t < n) (k : Nat) (hk : k < 2 * n) :
    rowsG n (E ++ [(f, t)]) k = if k = n + t then rowsG n E (n + t) ++ [(f : Int)] else if k = f then rowsG n E f ++ [(t : Int)] else rowsG n E k := by
  unfold rowsG
  by_cases h : k < n
  · rw [if_pos h, if_neg (by omega : ¬ k = n + t), outs_snoc]
    by_cases e : f = k
    · subst e; rw [if_pos rfl, if_pos rfl, if_pos h, natsI_snoc]
    · rw [if_neg e, if_neg (fun h => e h.symm), if_pos h]
  · rw [if_neg h, ins_snoc]
    by_cases e : t = k - n
    · rw [if_pos e, if_pos (by omega : k = n + t), if_neg (by omega), natsI_snoc, show n + t - n = k - n by omega]
    · rw [if_neg e, if_neg (by omega : ¬ k = n + t), if_neg (by omega : ¬ k = f), if_neg h]
theorem Rows2.congr {w : World} {base tb fb n : Nat} {V : Nat → Value} {L L' : Nat → List Int} (h : Rows2 w base tb fb n V L) (hl : ∀ k, k < 2 * n → L' k = L k) : Rows2 w base tb fb n V L' :=
  ⟨h.ct, h.cf, fun k hk => by rw [hl k hk]; exact h.own k hk, h.apart, h.tt, h.tf, h.ne, h.lt⟩
theorem rowsG_nil (n k : Nat) : rowsG n [] k = [] := by unfold rowsG outs ins natsI; simp
theorem gat_start (w : World) (n tb fb : Nat) (h : (tb = w.heap.size ∧ fb = w.heap.size + 1) ∨ (tb = w.heap.size + 1 ∧ fb = w.heap.size)) (T : TypeId) (hT : T ≠ 3) :
    ∃ V, GAt (((w.alloc (.cells (Array.replicate n (.slice none 0 0)) 32)).alloc (.cells (Array.replicate n (.slice none 0 0)) 32)).alloc
      (.cells #[.int .i64 n, .slice (some ⟨tb, 0, none⟩) n n, .slice (some ⟨fb, 0, none⟩) n n] T)).drew (w.heap.size + 1 + 1) tb fb n w.heap.size V [] ∧
    Tag (((w.alloc (.cells (Array.replicate n (.slice none 0 0)) 32)).alloc (.cells (Array.replicate n (.slice none 0 0)) 32)).alloc
      (.cells #[.int .i64 n, .slice (some ⟨tb, 0, none⟩) n n, .slice (some ⟨fb, 0, none⟩) n n] T)).drew (w.heap.size + 1 + 1) T := by
  have s1 : (w.alloc (.cells (Array.replicate n (.slice none 0 0)) 32)).heap.size = w.heap.size + 1 := by simp
  have r0 := rowF_new w n (.slice none 0 0) 32
  have g0 : Tag (w.alloc (.cells (Array.replicate n (.slice none 0 0)) 32)) w.heap.size 32 := ⟨_, heap_alloc_new w _⟩
  generalize w.alloc (.cells (Array.replicate n (.slice none 0 0)) 32) = w1 at *
  have s2 : (w1.alloc (.cells (Array.replicate n (.slice none 0 0)) 32)).heap.size = w1.heap.size + 1 := by simp
  have r1 := rowF_new w1 n (.slice none 0 0) 32
  have g1 : Tag (w1.alloc (.cells (Array.replicate n (.slice none 0 0)) 32)) w1.heap.size 32 := ⟨_, heap_alloc_new w1 _⟩
  have b1 := box_below w1 (.cells (Array.replicate n (.slice none 0 0)) 32)
  have r0' := r0.below b1 (by omega)
  have g0' := g0.keep (b1.block _ (by omega))
  generalize w1.alloc (.cells (Array.replicate n (.slice none 0 0)) 32) = w2 at *
  have b2 := box_below w2 (.cells #[.int .i64 n, .slice (some ⟨tb, 0, none⟩) n n, .slice (some ⟨fb, 0, none⟩) n n] T)
  have cb := cells_box w2 [.int .i64 n, .slice (some ⟨tb, 0, none⟩) n n, .slice (some ⟨fb, 0, none⟩) n n] T
  have g2 : Tag (w2.alloc (.cells #[.int .i64 n, .slice (some ⟨tb, 0, none⟩) n n, .slice (some ⟨fb, 0, none⟩) n n] T)) w2.heap.size T := ⟨_, heap_alloc_new w2 _⟩
  have s3 := box_size w2 (.cells #[.int .i64 n, .slice (some ⟨tb, 0, none⟩) n n, .slice (some ⟨fb, 0, none⟩) n n] T)
  rw [show w.heap.size + 1 + 1 = w2.heap.size by omega]
  generalize w2.alloc (.cells #[.int .i64 n, .slice (some ⟨tb, 0, none⟩) n n, .slice (some ⟨fb, 0, none⟩) n n] T) = w3 at *
  have r0'' := (r0'.below b2 (by omega)).drewN 1
  have r1'' := (r1.below b2 (by omega)).drewN 1
  have q0 : Tag w3.drew w.heap.size 32 := g0'.keep (b2.block _ (by omega))
  have q1 : Tag w3.drew w1.heap.size 32 := g1.keep (b2.block _ (by omega))
  refine ⟨fun _ => .slice none 0 0, ⟨cb 0 _ rfl, cb 1 _ rfl, cb 2 _ rfl, ⟨?_, ?_, fun k _ => by rw [rowsG_nil]; exact OwnSl.nil _ _, fun _ _ _ _ _ => .inl rfl, ?_, ?_, by omega, ?_⟩, s3, by omega⟩, g2⟩
  · rcases h with ⟨rfl, rfl⟩ | ⟨rfl, rfl⟩
    · exact r0''
    · rw [← s1]; exact r1''
  · rcases h with ⟨rfl, rfl⟩ | ⟨rfl, rfl⟩
    · rw [← s1]; exact r1''
    · exact r0''
  · rcases h with ⟨rfl, rfl⟩ | ⟨rfl, rfl⟩
    · exact q0
    · rw [← s1]; exact q1
  · rcases h with ⟨rfl, rfl⟩ | ⟨rfl, rfl⟩
    · rw [← s1]; exact q1
    · exact q0
  · have := b2.size
    show tb < w3.heap.size ∧ fb < w3.heap.size
    omega

end Go.Proofs.YtlfefikhmdbbfaaGreat
