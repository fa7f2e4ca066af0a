/- Parts of a proof: WEdP. -/
import Derived.Test.YtpmjcbjdcjjplaaGreatDoorPackE41
import Derived.Test.YtpmjcbjdcjjplaaGreatDoorPackE47
set_option maxHeartbeats 8000000
set_option maxRecDepth 100000
set_option linter.unusedVariables false
set_option linter.unusedSimpArgs false
namespace Go.Proofs.YtpmjcbjdcjjplaaGreatDoor
open Go Go.RowKit P
abbrev gM (m:ModelT):List GN:=m.nodes.map gnOf
theorem z3g:∀ (g:List GN) (i:Nat),(∀ x∈g,x.next.length<=40)->(z02 i g).length<=41*g.length
 |[],_,_=>Nat.zero_le _
 |x::g,i,h=>by
  show(nodeE i x ++ z02 (i+1) g).length<=_
  rw[List.length_append]
  have h1:=z3g g (i+1) fun y hy=>h y (List.mem_cons_of_mem _ hy)
  have h2:(nodeE i x).length<=x.next.length+1:=by
   unfold nodeE;rw[List.length_append,z4i];split<;>simp
  have:=h x (by simp);rw[List.length_cons];omega
theorem z9w {m:ModelT} (h:SmallM m):(zH (gM m)).length<=4100:=by
 have h2:=z3g (gM m) 0 fun x hx=>by
  obtain⟨y,A,rfl⟩:=List.mem_map.1 hx;obtain⟨i,g⟩:=List.mem_iff_getElem?.1 A;exact(h.next i y g).1
 have h1:(gM m).length<=100:=by unfold gM;rw[List.length_map];exact h.nodes
 unfold zH;omega
theorem z9I {m:ModelT} {i:Nat} {nd:NodeT} (hnd:m.nodes[i]?= some nd) (hn:nd.next=[]) (hc:nd.catch_ < 0):z0X (gM m) (i:Int)=[]:=by
 have K:∀ k,reach (gM m).length (z17 (gM m)) i k= false:=fun k=>by
  rw[Bool.eq_false_iff];intro O;rw[z4r (fun e A=>(z2W e A).2)] at O;obtain⟨b,N,_⟩:=O.first;unfold z17 inE at N;obtain⟨e,A,C⟩:=List.mem_map.1 N;injection C with h1 h2;obtain⟨x,g,G⟩:=z7f (List.mem_filter.1 A).1;rw[h1,List.getElem?_map,hnd] at g;injection g with g;subst g;rcases G with h|⟨_,h⟩
  ·have h:e.2.2∈nd.next:=h
   rw[hn] at h;cases h
  ·have h:0<=nd.catch_:=h
   omega
 unfold z0X;split
 ·have e:(i:Int).toNat= i:=by omega
  rw[e];unfold listN;rw[List.filter_eq_nil_iff.2 (fun k _=>by rw[K k];decide)];rfl
 ·rfl
theorem zg2 {E:List EdgeT} {e:EdgeT} (h:e∈E):∃ n:Nat,outK E e.1 e.2.1=(n:Int):=by
 unfold outK;have:(E.findIdx? (outP e.1 e.2.1)).isSome= true:=by
  rw[List.findIdx?_isSome,List.any_eq_true];exact⟨e,h,by unfold outP;simp⟩
 rw[if_pos this];exact⟨_,rfl⟩
theorem z9A {w:World} {B:Nat} {m:ModelT} {OA GA VA MA NA:Option Addr} {oc gc vc mc nc:Nat} (h:ModelAt w B [.int .i64 m.labels,.slice OA m.order.length oc,.slice GA m.grants.length gc,.slice VA m.vars.length vc,.slice MA m.msgs.length mc,.slice NA m.nodes.length nc] m):GraphAt w B (.slice NA m.nodes.length nc) (gM m):=by
 obtain⟨v1,v2,v3,v4,v5,he,hg⟩:=h.graph;simp only[List.cons.injEq] at he;obtain⟨-, -, -, -, -,rfl, -⟩:=he;exact hg
theorem zaD {m:ModelT} {tb:NodeT->Bool} (h:WellOk m tb) {i:Nat} {nd:NodeT} (hnd:m.nodes[i]?= some nd) {r:Nat} (hr:(z0X (gM m) (i:Int)).length= r):
  (nd.kind= 2/\r= 0/\nd.next.length= 0/\nd.catch_ < 0)\/(nd.kind= 13/\r= 0/\nd.next.length= 0/\nd.catch_ < 0)\/(nd.kind≠2/\nd.kind≠13/\0 < r)\/(nd.kind≠2/\nd.kind≠13/\r= 0/\0 < nd.next.length)\/(nd.kind≠2/\nd.kind≠13/\r= 0/\nd.next.length= 0/\0<=nd.catch_):=by
 have A:=zdM h hnd;by_cases g:nd.kind= 2\/nd.kind= 13
 ·obtain⟨h1,h2⟩:=A.1 g
  have h3:r= 0:=by rw[← hr,z9I hnd h1 h2];rfl
  have h4:nd.next.length= 0:=by rw[h1];rfl
  rcases g with g|g
  ·exact .inl ⟨g,h3,h4,h2⟩
  ·exact .inr (.inl ⟨g,h3,h4,h2⟩)
 ·have C: ¬ (nd.next=[]/\nd.catch_ < 0):=fun h=>g (A.2 h)
  have k2:nd.kind≠2:=fun h=>g (.inl h);have k3:nd.kind≠13:=fun h=>g (.inr h);rcases Nat.eq_zero_or_pos r with h0|h0
  ·rcases Nat.eq_zero_or_pos nd.next.length with h1|h1
   ·refine .inr (.inr (.inr (.inr ⟨k2,k3,h0,h1,?_⟩)))
    rcases Int.lt_or_le nd.catch_ 0 with h2|h2
    ·exact absurd ⟨List.eq_nil_of_length_eq_zero h1,h2⟩ C
    ·exact h2
   ·exact .inr (.inr (.inr (.inl ⟨k2,k3,h0,h1⟩)))
  ·exact .inr (.inr (.inl ⟨k2,k3,h0⟩))
end Go.Proofs.YtpmjcbjdcjjplaaGreatDoor
