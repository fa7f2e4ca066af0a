/- Parts of a proof: Both1. -/
import Derived.Test.YteolfamhmfidbaaGreatDoorPackJ2
import Derived.Test.YteolfamhmfidbaaGreatDoorPackJ5
import Derived.Test.YteolfamhmfidbaaGreatDoorPackJ44
import Derived.Test.YteolfamhmfidbaaGreatDoorPackJ46
set_option maxHeartbeats 8000000
set_option maxRecDepth 100000
set_option linter.unusedVariables false
set_option linter.unusedSimpArgs false
namespace Go.Proofs.YteolfamhmfidbaaGreatDoor
open Go.RowKit P
theorem Pairs.ok {w:World} {B:Nat} {A:Option Addr} {ps:List (Int × Int)} (h:Pairs w B A ps):okPs ps:=by
 intro p hp
 obtain⟨i,hi⟩:=List.mem_iff_getElem?.1 hp
 have hl:0 < ps.length:=by have:=(List.getElem?_eq_some_iff.1 hi).1;omega
 obtain⟨b,o,_,_,hc⟩:=h.2 hl
 exact⟨(hc i p hi).2.2.1,(hc i p hi).2.2.2⟩
theorem Pairs.below {w w':World} {B:Nat} {A:Option Addr} {ps:List (Int × Int)} (h:Pairs w B A ps) (hb:Below B w w'):Pairs w' B A ps:=by
 refine⟨h.1,fun hl=> ?_⟩
 obtain⟨b,o,rfl,hlt,hc⟩:=h.2 hl
 refine⟨b,o,rfl,hlt,fun i p hp=> ?_⟩
 obtain⟨c0,c1,c2⟩:=hc i p hp
 exact⟨(hb.cell (p:=⟨b,o+i*2,none⟩) hlt).trans c0,(hb.cell (p:=⟨b,o+i*2+1,none⟩) hlt).trans c1,c2⟩
theorem Pairs.more {w:World} {B B':Nat} {A:Option Addr} {ps:List (Int × Int)} (h:Pairs w B A ps) (hB:B<=B'):Pairs w B' A ps:=by
 refine⟨h.1,fun hl=> ?_⟩
 obtain⟨b,o,rfl,hlt,hc⟩:=h.2 hl
 exact⟨b,o,rfl,by omega,hc⟩
theorem LatR.far {w:World} {b n:Nat} {L:Rel} (h:LatR w b n L) {b':Nat} (hb:b≠b') (vs:List Value):∀ o,LatR (w.setCells b' o vs) b n L:=by
 induction vs generalizing w with
 |nil=>intro o;exact h
 |cons v vs ih=>
  intro o
  exact ih (w:=w.setCell ⟨b',o,none⟩ v) ⟨h.at_.cells fun p=>World.cell?_setCell_other w _ _ v (fun e=>hb (by injection e with e1 _ _;exact e1.symm)),h.lat,h.le8,by rw[z2n];exact h.lt⟩ (o+1)
end Go.Proofs.YteolfamhmfidbaaGreatDoor
