/- Parts of a proof: OpenV, OpenX. -/
import Derived.Test.YteolfamhmfidbaaGreatDoorRows
import Derived.ProofKit
import Derived.OpenShut
import Derived.ShutString
import Derived.ChangeOld
import Derived.Deep.Slices
import Derived.Test.YteolfamhmfidbaaGreatDoorPackJ3
set_option maxHeartbeats 8000000
set_option maxRecDepth 100000
set_option linter.unusedVariables false
set_option linter.unusedSimpArgs false
namespace Go.Proofs.YteolfamhmfidbaaGreatDoor
section
open Go.ChangeShapes Go.WideShapes Go.ChangeAt Go.RowKit Go.Deep
theorem own:ownKnob Tryz.prog.godebug= none:=by kernel_rfl
theorem z6o:laidOutB Tryz.prog= true:=by kernel_rfl
theorem z2R {α:Type} {P:Nat->α->Prop}:∀ n,(∀ i,i < n->∃ a,P i a)->∃ l:List α,l.length= n/\∀ i x,l[i]?= some x->P i x
 |0,_=>⟨[],rfl,fun i x h=>by simp at h⟩
 |n+1,h=>by
  obtain⟨l,h1,h2⟩:=z2R n fun i hi=>h i (by omega)
  obtain⟨a,ha⟩:=h n (by omega)
  refine⟨l ++ [a],by simp[h1],fun i x hx=> ?_⟩
  rcases Nat.lt_or_ge i l.length with hl|hl
  ·rw[List.getElem?_append_left hl] at hx;exact h2 i x hx
  ·rw[List.getElem?_append_right hl] at hx
   have h0:i - l.length= 0:=by have:=(List.getElem?_eq_some_iff.1 hx).1;simp at this;omega
   rw[h0] at hx
   have:a= x:=by simpa using hx
   subst this
   rw[show i= n by omega];exact ha
theorem list6 {α:Type} {l:List α} (h:l.length= 6):∃ a b c d e f,l=[a,b,c,d,e,f]:=by
 match l,h with
 |[a,b,c,d,e,f],_=>exact⟨a,b,c,d,e,f,rfl⟩
theorem list3 {α:Type} {l:List α} (h:l.length= 3):∃ a b c,l=[a,b,c]:=by
 match l,h with
 |[a,b,c],_=>exact⟨a,b,c,rfl⟩
section
variable {H:Type} {enc:TypeId × Value->H} {W:World}
theorem z3o {t:TypeId} {v:Value} {d:DataW H} {p:List MemPlace} (h:DataW.Trod enc Tryz.prog W 0 (fun _=>true) true t v d p):∀ x∈p,x.block < W.heap.size:=by
 obtain⟨m,hm⟩:=h;exact DataW.trod_lt m _ _ _ hm
theorem zaY {P:Program} {w:World} {base:Nat} {spare:Nat->Bool} {held:Bool} {t:TypeId} {fuel:Nat} {cs:List Value} {x:DataW H × List MemPlace} {k:FloatKind} (ht:P.underlying t= some (.float k))
  (h:DataW.trod enc P w base spare held fuel t cs= some x):∃ n,cs=[.float k n]/\x=(.lit (.float k n),[])/\(Lit.float k n).wf= true:=by
 cases fuel with
 |zero=>simp[DataW.trod] at h
 |succ n=>
  unfold DataW.trod at h
  rw[ht] at h
  split at h<;>simp_all
theorem z2U {α:Type} {T E:TypeId} {k:Nat} {R:List Value->α->Prop} (hT:Tryz.prog.underlying T= some (.slice E)) (hk:Tryz.prog.cellsOf E= k) (h0:0 < k) {fuel:Nat} {v:Value} {x:DataW H × List MemPlace}
  (h:DataW.trod enc Tryz.prog W 0 (fun _=>true) true fuel T [v]= some x)
  (each:∀ n,n < fuel->∀ cs y,DataW.trod enc Tryz.prog W 0 (fun _=>true) true n E cs= some y->∃ a:α,R cs a):
  ∃ l:List α,SlAt W W.heap.size k R v l/\l.length<=maxLen:=by
 rcases DataW.trod_slice hT h with ⟨hcs,_⟩|⟨a,len,cap,elems,rest,n,hf,hcs,_,_,hle,hm,hlen,hel,_,_⟩
 ·obtain rfl:v= .slice none 0 0:=by simpa using hcs
  exact⟨[],SlAt.nil _ _ _ _,by simp⟩
 ·obtain rfl:v= .slice (some a) len cap:=by simpa using hcs
  rw[hk] at hel
  have hex:∀ i,i < len->∃ b:α,∃ cs:List Value,cs.length= k/\(∀ j,j < k->W.cell? ((a.add (i*k)).add j)= cs[j]?)/\R cs b:=fun i hi=>by
   have h1:=hel i hi
   rw[List.getElem?_eq_getElem (by omega)] at h1
   obtain⟨cs,hc,ht⟩:=Option.bind_eq_some_iff.1 h1
   obtain⟨_,hlen2,hat⟩:=World.cells?_some hc
   obtain⟨b,hb⟩:=each n (by omega) cs _ ht
   exact⟨b,cs,hlen2,hat,hb⟩
  obtain⟨l,hl,hall⟩:=z2R len hex
  refine⟨l,⟨by unfold maxLen at hm;omega,some a,cap,by rw[hl],fun hp=> ?_⟩,by omega⟩
  obtain⟨x0,hx0⟩:∃ x0,l[0]?= some x0:=⟨_,List.getElem?_eq_getElem hp⟩
  obtain⟨cs0,hl0,hat0,_⟩:=hall 0 x0 hx0
  have c0:=hat0 0 h0
  rw[List.getElem?_eq_getElem (by omega)] at c0
  have hb:=block_lt_of_cell c0
  have hs:=World.cell?_spot c0
  obtain⟨b,o,s⟩:=a
  have hs':s= none:=by simpa [Addr.add] using hs
  subst hs'
  refine⟨b,o,rfl,by simpa [Addr.add] using hb,fun i x hx=> ?_⟩
  obtain⟨cs,h1,h2,h3⟩:=hall i x hx
  refine⟨cs,h1,fun j u hu=> ?_,h3⟩
  have:=h2 j (by have:=(List.getElem?_eq_some_iff.1 hu).1;omega)
  rw[Addr.add_mid,Addr.add_mid] at this
  rw[this,hu]
theorem z50 {n:Nat} {cs:List Value} {y:DataW H × List MemPlace} (h:DataW.trod enc Tryz.prog W 0 (fun _=>true) true n 9 cs= some y):∃ s,StrR cs s:=by
 obtain⟨s,h1,_,h2⟩:=DataW.trod_string Tryz.underlying9 h
 exact⟨s,h1,h2⟩
theorem z2D:Tryz.prog.cellsOf 3= 1:=by kernel_rfl
theorem z0B:Tryz.prog.cellsOf 9= 1:=by kernel_rfl
theorem z1X:Tryz.prog.cellsOf 24= 1:=by kernel_rfl
theorem z81:Tryz.prog.cellsOf 25= 1:=by kernel_rfl
theorem z9d:Tryz.prog.cellsOf 46= 1:=by kernel_rfl
theorem z92:Tryz.prog.cellsOf 2= 1:=by kernel_rfl
theorem z7z:Tryz.prog.cellsOf 23= 1:=by kernel_rfl
theorem z1A:Tryz.prog.cellsOf 27= 6:=by kernel_rfl
theorem z3v:Tryz.prog.cellsOf 48= 3:=by kernel_rfl
theorem z3w:∀ (fuel:Nat) (cs:List Value) (x:DataW H × List MemPlace),DataW.trod enc Tryz.prog W 0 (fun _=>true) true fuel 27 cs= some x->∃ t,ValAt W W.heap.size cs t:=by
 intro fuel
 induction fuel using Nat.strongRecOn with
 |_ fuel ih=>
  intro cs x h
  obtain⟨xs,n,hf,_,hlen,hxl,hg⟩:=DataW.trod_struct Tryz.underlying27 h
  rw[z1A] at hlen
  clear h
  obtain⟨c0,c1,c2,c3,c4,c5,rfl⟩:=list6 hlen
  have h0:=hg 0 _ rfl
  have h1:=hg 1 _ rfl
  have h2:=hg 2 _ rfl
  have h3:=hg 3 _ rfl
  have h4:=hg 4 _ rfl
  have h5:=hg 5 _ rfl
  have hx6:xs.length= 6:=hxl
  clear hg hxl
  rw[List.getElem?_eq_getElem (by omega)] at h0 h1 h2 h3 h4 h5
  simp only[List.getElem_toArray,List.getElem_cons_zero,List.getElem_cons_succ,z2D,z92,z7z,z0B,z1X,z81,List.drop_zero,List.drop_succ_cons,List.take_succ_cons,List.take_zero] at h0 h1 h2 h3 h4 h5
  obtain⟨k,e0,_,w0⟩:=DataW.trod_int Tryz.underlying3 h0
  obtain⟨m,e1,_,w1⟩:=DataW.trod_int Tryz.underlying2 h1
  obtain⟨f,e2,_,w2⟩:=zaY Tryz.underlying23 h2
  obtain⟨s,e3,_,w3⟩:=DataW.trod_string Tryz.underlying9 h3
  obtain⟨ns,hns,_⟩:=z2U Tryz.underlying24 z0B (by omega) h4 fun _ _ cs y hy=>z50 hy
  obtain⟨its,hits,hil⟩:=z2U Tryz.underlying25 z1A (by omega) h5 fun q hq cs y hy=>ih q (by omega) cs y hy
  simp only[List.cons.injEq,and_true] at e0 e1 e2 e3
  subst e0 e1 e2 e3
  exact⟨_,ValAt.of w0 w1 w2 w3 hns hil hits⟩
theorem zbu:∀ (fuel:Nat) (cs:List Value) (x:DataW H × List MemPlace),DataW.trod enc Tryz.prog W 0 (fun _=>true) true fuel 48 cs= some x->∃ t,TypAt W W.heap.size cs t:=by
 intro fuel
 induction fuel using Nat.strongRecOn with
 |_ fuel ih=>
  intro cs x h
  obtain⟨xs,n,hf,_,hlen,hxl,hg⟩:=DataW.trod_struct Tryz.underlying48 h
  rw[z3v] at hlen
  clear h
  obtain⟨c0,c1,c2,rfl⟩:=list3 hlen
  have h0:=hg 0 _ rfl
  have h1:=hg 1 _ rfl
  have h2:=hg 2 _ rfl
  have hx6:xs.length= 3:=hxl
  clear hg hxl
  rw[List.getElem?_eq_getElem (by omega)] at h0 h1 h2
  simp only[List.getElem_toArray,List.getElem_cons_zero,List.getElem_cons_succ,z2D,z1X,z9d,List.drop_zero,List.drop_succ_cons,List.take_succ_cons,List.take_zero,List.take_nil] at h0 h1 h2
  obtain⟨k,e0,_,w0⟩:=DataW.trod_int Tryz.underlying3 h0
  obtain⟨ns,hns,_⟩:=z2U Tryz.underlying24 z0B (by omega) h1 fun _ _ cs y hy=>z50 hy
  obtain⟨its,hits,hil⟩:=z2U Tryz.underlying46 z3v (by omega) h2 fun q hq cs y hy=>ih q (by omega) cs y hy
  simp only[List.cons.injEq,and_true] at e0
  subst e0
  exact⟨_,TypAt.of w0 hns hil hits⟩
end
end
section
open Go.ChangeShapes Go.WideShapes Go.ChangeAt Go.RowKit Go.Deep
theorem zgt {α:Type} {l:List α} (h:l.length= 10):∃ a0 a1 a2 a3 a4 a5 a6 a7 a8 a9,l=[a0,a1,a2,a3,a4,a5,a6,a7,a8,a9]:=by
 match l,h with
 |[a0,a1,a2,a3,a4,a5,a6,a7,a8,a9],_=>exact⟨a0,a1,a2,a3,a4,a5,a6,a7,a8,a9,rfl⟩
theorem zga {α:Type} {l:List α} (h:l.length= 11):∃ a0 a1 a2 a3 a4 a5 a6 a7 a8 a9 a10,l=[a0,a1,a2,a3,a4,a5,a6,a7,a8,a9,a10]:=by
 match l,h with
 |[a0,a1,a2,a3,a4,a5,a6,a7,a8,a9,a10],_=>exact⟨a0,a1,a2,a3,a4,a5,a6,a7,a8,a9,a10,rfl⟩
section
variable {H:Type} {enc:TypeId × Value->H} {W:World}
theorem z90:Tryz.prog.cellsOf 28= 1:=by kernel_rfl
theorem z5I:Tryz.prog.cellsOf 30= 10:=by kernel_rfl
theorem z6H:Tryz.prog.cellsOf 50= 11:=by kernel_rfl
theorem zei {n:Nat} {cs:List Value} {y:DataW H × List MemPlace} (h:DataW.trod enc Tryz.prog W 0 (fun _=>true) true n 50 cs= some y):∃ s,VarAt W W.heap.size cs s:=by
 obtain⟨xs,n,hf,_,hlen,hxl,hg⟩:=DataW.trod_struct Tryz.underlying50 h
 rw[z6H] at hlen
 clear h
 obtain⟨c0,c1,d0,d1,d2,d3,d4,d5,d6,d7,d8,rfl⟩:=zga hlen
 have h0:=hg 0 _ rfl
 have h1:=hg 1 _ rfl
 have h2:=hg 2 _ rfl
 have h3:=hg 3 _ rfl
 have hx6:xs.length= 4:=hxl
 clear hg hxl
 rw[List.getElem?_eq_getElem (by omega)] at h0 h1 h2 h3
 simp only[List.getElem_toArray,List.getElem_cons_zero,List.getElem_cons_succ,z2D,z0B,z1A,z3v,List.drop_zero,List.drop_succ_cons,List.take_succ_cons,List.take_zero,List.take_nil] at h0 h1 h2 h3
 obtain⟨s,e0,_,w0⟩:=DataW.trod_string Tryz.underlying9 h0
 obtain⟨k,e1,_,w1⟩:=DataW.trod_int Tryz.underlying3 h1
 obtain⟨t,ht⟩:=zbu _ _ _ h2
 obtain⟨v,hv⟩:=z3w _ _ _ h3
 simp only[List.cons.injEq,and_true] at e0 e1
 subst e0 e1
 exact⟨⟨s,k,t,v⟩,⟨_,_,rfl,rfl,rfl,ht,hv⟩,w0,w1⟩
theorem zeA {r:Reach} {b0:Nat} {v:Value} {d:DataW H} {p:List MemPlace} (hv:Value.okWide Tryz.prog W r b0 27 v) (h:DataW.Trod enc Tryz.prog W 0 (fun _=>true) true 27 v d p):
  ∃ cs t,v= .agg ⟨cs⟩/\ValAt W W.heap.size cs t:=by
 obtain⟨cs,rfl,_⟩:=okWide_struct Tryz.underlying27 hv
 obtain⟨fuel,hf⟩:=h
 obtain⟨m,hm⟩:=z3w _ _ _ hf
 exact⟨cs.toList,m,rfl,by simpa [Value.cells] using hm⟩
theorem ze7 {r:Reach} {b0:Nat} {v:Value} {d:DataW H} {p:List MemPlace} (hv:Value.okWide Tryz.prog W r b0 31 v) (h:DataW.Trod enc Tryz.prog W 0 (fun _=>true) true 31 v d p):
  ∃ l,SlAt W W.heap.size 11 (VarAt W W.heap.size) v l/\l.length<=maxLen:=by
 obtain⟨a,len,cap,rfl⟩:=okWide_slice Tryz.underlying31 hv
 obtain⟨fuel,hf⟩:=h
 obtain⟨l,hl,hm⟩:=z2U Tryz.underlying31 z6H (by omega) hf fun _ _ cs y hy=>zei hy
 exact⟨l,hl,hm⟩
end
end
end Go.Proofs.YteolfamhmfidbaaGreatDoor
