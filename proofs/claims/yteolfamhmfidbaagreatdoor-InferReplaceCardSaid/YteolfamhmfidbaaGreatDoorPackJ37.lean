/- Parts of a proof: RPutP. -/
import Derived.ArgAppend
import Derived.Sort.Walk0
import Derived.Test.YteolfamhmfidbaaGreatDoorPackJ2
import Derived.Test.YteolfamhmfidbaaGreatDoorPackJ6
import Derived.Test.YteolfamhmfidbaaGreatDoorPackJ35
set_option maxHeartbeats 8000000
set_option maxRecDepth 100000
set_option linter.unusedVariables false
set_option linter.unusedSimpArgs false
namespace Go.Proofs.YteolfamhmfidbaaGreatDoor
open Go Go.RowKit
def txt (s:ByteArray):List UInt8:=s.data.toList
section
variable {P:Program} {a:Act} {o:Oper} {w:World}
variable {ops:Array Oper} {S:World->Prop} {Q:Exit->Act->World->Prop} {i:Nat} {r:List (Nat × Bool)}
theorem zem {base:Nat} {e:TypeId} {size n:Nat} {v:Value} {xs:List Value} (h:w.ownsRow base e size v n xs) (hn:0 < n):
  ∃ g c,v= .slice (some ⟨g,0,none⟩) n c/\n<=c/\base<=g/\g < w.heap.size/\∀ j u,xs[j]?= some u->w.cell? ((⟨g,0,none⟩:Addr).add j)= some u:=by
 rcases h.2 with ⟨_,h0⟩|⟨g,cap,cur,hv,hb,hg,hc,_⟩
 ·omega
 ·refine⟨g,cap,hv,hc,hb,?_,fun j u hu=>World.ownsRow.cells h (g:=g) (by rw[hv];rfl) j u hu⟩
  rcases Nat.lt_or_ge g w.heap.size with h2|h2
  ·exact h2
  ·rw[Array.getElem?_eq_none h2] at hg;cases hg
end
end Go.Proofs.YteolfamhmfidbaaGreatDoor
