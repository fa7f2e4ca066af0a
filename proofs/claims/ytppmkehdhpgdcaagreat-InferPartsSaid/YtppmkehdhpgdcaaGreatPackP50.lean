/- Parts of a proof: RPutP. -/
import Derived.ArgAppend
import Derived.Sort.Walk0
import Derived.Test.YtppmkehdhpgdcaaGreatPackP12
import Derived.Test.YtppmkehdhpgdcaaGreatPackP19
import Derived.Test.YtppmkehdhpgdcaaGreatPackP48
namespace Go.Proofs.YtppmkehdhpgdcaaGreat
open Go Go.RowKit
set_option linter.unusedVariables false
section
variable {P : Program} {a : Act} {o : Oper} {w : World}
variable {ops : Array Oper} {S : World → Prop} {Q : Exit → Act → World → Prop} {i : Nat} {r : List (Nat × Bool)}
theorem own_addr {base : Nat} {e : TypeId} {size n : Nat} {v : Value} {xs : List Value} (h : w.ownsRow base e size v n xs) (hn : 0 < n) :
    ∃ g c, v = .slice (some ⟨g, 0, none⟩) n c ∧ n ≤ c ∧ base ≤ g ∧ g < w.heap.size ∧ ∀ j u, xs[j]? = some u → w.cell? ((⟨g, 0, none⟩ : Addr).add j) = some u := by
  rcases h.2 with ⟨_, h0⟩ | ⟨g, cap, cur, hv, hb, hg, hc, _⟩
  · omega
  · refine ⟨g, cap, hv, hc, hb, ?_, fun j u hu => World.ownsRow.cells h (g := g) (by rw [hv]; rfl) j u hu⟩
    rcases Nat.lt_or_ge g w.heap.size with h2 | h2
    · exact h2
    · rw [Array.getElem?_eq_none h2] at hg; cases hg
end
end Go.Proofs.YtppmkehdhpgdcaaGreat
