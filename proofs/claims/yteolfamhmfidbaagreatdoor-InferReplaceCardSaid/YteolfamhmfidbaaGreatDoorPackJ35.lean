/- Parts of a proof: ReadsP. -/
import Derived.Sort.KeysCollected
import Derived.Sort.Walk0
import Derived.Test.YteolfamhmfidbaaGreatDoorPackJ3
set_option maxHeartbeats 8000000
set_option maxRecDepth 100000
set_option linter.unusedVariables false
set_option linter.unusedSimpArgs false
namespace Go.Proofs.YteolfamhmfidbaaGreatDoor
open Go Go.RowKit
def putL:List (List UInt8)->List UInt8->List (List UInt8)
 |[],s=>[s]
 |a::l,s=>if a < s then a::putL l s else if a= s then a::l else s::a::l
theorem z5c (s:List UInt8):∀ (l:List (List UInt8)) (x:List UInt8),x∈putL l s↔x= s\/x∈l
 |[],x=>by simp[putL]
 |a::l,x=>by
  unfold putL
  by_cases h:a < s
  ·rw[if_pos h,List.mem_cons,z5c s l,List.mem_cons]
   constructor
   ·rintro(h|h|h)
    ·exact Or.inr (Or.inl h)
    ·exact Or.inl h
    ·exact Or.inr (Or.inr h)
   ·rintro(h|h|h)
    ·exact Or.inr (Or.inl h)
    ·exact Or.inl h
    ·exact Or.inr (Or.inr h)
  ·rw[if_neg h]
   by_cases h2:a= s
   ·rw[if_pos h2,List.mem_cons]
    constructor
    ·exact Or.inr
    ·rintro(h|h)
     ·exact Or.inl (h.trans h2.symm)
     ·exact h
   ·rw[if_neg h2,List.mem_cons]
theorem z4M (s:List UInt8):∀ (l:List (List UInt8)),l.Pairwise (· < ·)->(putL l s).Pairwise (· < ·)
 |[],_=>by simp[putL]
 |a::l,h=>by
  unfold putL
  rw[List.pairwise_cons] at h
  by_cases h1:a < s
  ·rw[if_pos h1,List.pairwise_cons]
   refine⟨fun x hx=> ?_,z4M s l h.2⟩
   rcases(z5c s l x).1 hx with rfl|hx
   ·exact h1
   ·exact h.1 x hx
  ·rw[if_neg h1]
   by_cases h2:a= s
   ·rw[if_pos h2,List.pairwise_cons];exact h
   ·rw[if_neg h2,List.pairwise_cons,List.pairwise_cons]
    have hs:s < a:=by
     rcases List.le_iff_lt_or_eq.1 (List.not_lt.1 h1) with h3|h3
     ·exact h3
     ·exact(h2 h3.symm).elim
    refine⟨fun x hx=> ?_,h⟩
    rcases List.mem_cons.1 hx with rfl|hx
    ·exact hs
    ·exact List.lt_trans hs (h.1 x hx)
theorem z8t:∀ (xs l:List (List UInt8)) (x:List UInt8),x∈xs.foldl putL l↔x∈xs\/x∈l
 |[],l,x=>by simp
 |a::xs,l,x=>by
  rw[List.foldl_cons,z8t xs,z5c,List.mem_cons]
  constructor
  ·rintro(h|h|h)
   ·exact Or.inl (Or.inr h)
   ·exact Or.inl (Or.inl h)
   ·exact Or.inr h
  ·rintro((h|h)|h)
   ·exact Or.inr (Or.inl h)
   ·exact Or.inl h
   ·exact Or.inr (Or.inr h)
theorem z4N:∀ (xs l:List (List UInt8)),l.Pairwise (· < ·)->(xs.foldl putL l).Pairwise (· < ·)
 |[],l,h=>h
 |a::xs,l,h=>by rw[List.foldl_cons];exact z4N xs _ (z4M a l h)
theorem z8m {l:List (List UInt8)} (h:l.Pairwise (· < ·)):l.Nodup:=h.imp fun hab he=>by subst he;exact List.lt_irrefl _ hab
end Go.Proofs.YteolfamhmfidbaaGreatDoor
