/- Parts of a proof: OpenV, OpenX. -/
import Derived.Test.YtdjfpcmlffekkaaGreatDoorRows
import Derived.ProofKit
import Derived.OpenShut
import Derived.ShutString
import Derived.ChangeOld
import Derived.Deep.Slices
import Derived.Test.YtdjfpcmlffekkaaGreatDoorPackG4
set_option maxHeartbeats 8000000
set_option maxRecDepth 100000
set_option linter.unusedVariables false
set_option linter.unusedSimpArgs false
namespace Go.Proofs.YtdjfpcmlffekkaaGreatDoor
section
open Go.ChangeShapes Go.WideShapes Go.ChangeAt Go.RowKit Go.Deep
theorem own:ownKnob Tryz.prog.godebug= none:=by kernel_rfl
theorem ze3:laidOutB Tryz.prog= true:=by kernel_rfl
theorem z4n {α:Type} {P:Nat->α->Prop}:∀ n,(∀ i,i < n->∃ a,P i a)->∃ l:List α,l.length= n/\∀ i x,l[i]?= some x->P i x
 |0,_=>⟨[],rfl,fun i x h=>by simp at h⟩
 |n+1,h=>by
  obtain⟨l,h1,h2⟩:=z4n n fun i hi=>h i (by omega)
  obtain⟨a,ha⟩:=h n (by omega)
  refine⟨l ++ [a],by simp[h1],fun i x hx=> ?_⟩
  rcases Nat.lt_or_ge i l.length with hl|hl
  ·rw[List.getElem?_append_left hl] at hx;exact h2 i x hx
  ·rw[List.getElem?_append_right hl] at hx
   have h0:i - l.length= 0:=by have:=(List.getElem?_eq_some_iff.1 hx).1;simp at this;omega
   rw[h0] at hx
   have:a= x:=by simpa using hx
   subst this
   rw[show i= n by omega];exact ha
theorem list3 {α:Type} {l:List α} (h:l.length= 3):∃ a b c,l=[a,b,c]:=by
 match l,h with
 |[a,b,c],_=>exact⟨a,b,c,rfl⟩
section
variable {H:Type} {enc:TypeId × Value->H} {W:World}
theorem z9t {t:TypeId} {v:Value} {d:DataW H} {p:List MemPlace} (h:DataW.Trod enc Tryz.prog W 0 (fun _=>true) true t v d p):∀ x∈p,x.block < W.heap.size:=by
 obtain⟨m,hm⟩:=h;exact DataW.trod_lt m _ _ _ hm
theorem z8S {α:Type} {T E:TypeId} {k:Nat} {R:List Value->α->Prop} (hT:Tryz.prog.underlying T= some (.slice E)) (hk:Tryz.prog.cellsOf E= k) (h0:0 < k) {fuel:Nat} {v:Value} {x:DataW H × List MemPlace}
  (h:DataW.trod enc Tryz.prog W 0 (fun _=>true) true fuel T [v]= some x)
  (each:∀ n,n < fuel->∀ cs y,DataW.trod enc Tryz.prog W 0 (fun _=>true) true n E cs= some y->∃ a:α,R cs a):
  ∃ l:List α,SlAt W W.heap.size k R v l/\l.length<=maxLen:=by
 rcases DataW.trod_slice hT h with ⟨A,_⟩|⟨a,len,F,N,rest,n,hf,A,_,_,a7,hm,a2,K,_,_⟩
 ·obtain rfl:v= .slice none 0 0:=by simpa using A
  exact⟨[],SlAt.nil _ _ _ _,by simp⟩
 ·obtain rfl:v= .slice (some a) len F:=by simpa using A
  rw[hk] at K;have Y:∀ i,i < len->∃ b:α,∃ cs:List Value,cs.length= k/\(∀ j,j < k->W.cell? ((a.add (i*k)).add j)= cs[j]?)/\R cs b:=fun i hi=>by
   have h1:=K i hi;rw[List.getElem?_eq_getElem (by omega)] at h1;obtain⟨cs,hc,ht⟩:=Option.bind_eq_some_iff.1 h1;obtain⟨_,C,O⟩:=World.cells?_some hc;obtain⟨b,X⟩:=each n (by omega) cs _ ht;exact⟨b,cs,C,O,X⟩
  obtain⟨l,hl,g⟩:=z4n len Y;refine⟨l,⟨by unfold maxLen at hm;omega,some a,F,by rw[hl],fun hp=> ?_⟩,by omega⟩;obtain⟨x0,a1⟩:∃ x0,l[0]?= some x0:=⟨_,List.getElem?_eq_getElem hp⟩;obtain⟨a3,a6,G,_⟩:=g 0 x0 a1;have c0:=G 0 h0;rw[List.getElem?_eq_getElem (by omega)] at c0;have X:=block_lt_of_cell c0;have hs:=World.cell?_spot c0;obtain⟨b,o,s⟩:=a;have a0:s= none:=by simpa [Addr.add] using hs
  subst a0;refine⟨b,o,rfl,by simpa [Addr.add] using X,fun i x hx=> ?_⟩;obtain⟨cs,h1,h2,h3⟩:=g i x hx;refine⟨cs,h1,fun j u hu=> ?_,h3⟩;have:=h2 j (by have:=(List.getElem?_eq_some_iff.1 hu).1;omega);rw[Addr.add_mid,Addr.add_mid] at this;rw[this,hu]
theorem zdb {n:Nat} {cs:List Value} {y:DataW H × List MemPlace} (h:DataW.trod enc Tryz.prog W 0 (fun _=>true) true n 9 cs= some y):∃ s,StrR cs s:=by
 obtain⟨s,h1,_,h2⟩:=DataW.trod_string Tryz.underlying9 h;exact⟨s,h1,h2⟩
theorem zaj:Tryz.prog.cellsOf 3= 1:=by kernel_rfl
theorem z6U:Tryz.prog.cellsOf 9= 1:=by kernel_rfl
theorem z6J:Tryz.prog.cellsOf 38= 1:=by kernel_rfl
theorem z8e:Tryz.prog.cellsOf 39= 1:=by kernel_rfl
theorem z4P:Tryz.prog.cellsOf 41= 3:=by kernel_rfl
theorem zb4:∀ (fuel:Nat) (cs:List Value) (x:DataW H × List MemPlace),DataW.trod enc Tryz.prog W 0 (fun _=>true) true fuel 41 cs= some x->∃ t,TypAt W W.heap.size cs t:=by
 intro fuel
 induction fuel using Nat.strongRecOn with
 |_ fuel ih=>
  intro cs x h;obtain⟨X,n,Y,_,g,C,F⟩:=DataW.trod_struct Tryz.underlying41 h;rw[z4P] at g;clear h;obtain⟨c0,c1,c2,rfl⟩:=list3 g;have h0:=F 0 _ rfl;have h1:=F 1 _ rfl;have h2:=F 2 _ rfl;have N:X.length= 3:=C;clear F C;rw[List.getElem?_eq_getElem (by omega)] at h0 h1 h2;simp only[List.getElem_toArray,List.getElem_cons_zero,List.getElem_cons_succ,zaj,z6J,z8e,List.drop_zero,List.drop_succ_cons,List.take_succ_cons,List.take_zero,List.take_nil] at h0 h1 h2;obtain⟨k,e0,_,w0⟩:=DataW.trod_int Tryz.underlying3 h0;obtain⟨ns,K,_⟩:=z8S Tryz.underlying38 z6U (by omega) h1 fun _ _ cs y hy=>zdb hy;obtain⟨O,A,G⟩:=z8S Tryz.underlying39 z4P (by omega) h2 fun q hq cs y hy=>ih q (by omega) cs y hy;simp only[List.cons.injEq,and_true] at e0;subst e0;exact⟨_,TypAt.of w0 K G A⟩
end
end
section
open Go.ChangeShapes Go.WideShapes Go.ChangeAt Go.RowKit Go.Deep
section
variable {H:Type} {enc:TypeId × Value->H} {W:World}
theorem zds {r:Reach} {b0:Nat} {v:Value} {d:DataW H} {p:List MemPlace} (hv:Value.okWide Tryz.prog W r b0 41 v) (h:DataW.Trod enc Tryz.prog W 0 (fun _=>true) true 41 v d p):
  ∃ cs t,v= .agg ⟨cs⟩/\TypAt W W.heap.size cs t:=by
 obtain⟨cs,rfl,_⟩:=okWide_struct Tryz.underlying41 hv;obtain⟨fuel,hf⟩:=h;obtain⟨m,hm⟩:=zb4 _ _ _ hf;exact⟨cs.toList,m,rfl,by simpa [Value.cells] using hm⟩
end
end
end Go.Proofs.YtdjfpcmlffekkaaGreatDoor
