/- Parts of a proof: FitV, FitX. -/
import Derived.SizedLaws
import Derived.Test.YteolfamhmfidbaaGreatDoorPackJ4
import Derived.Test.YteolfamhmfidbaaGreatDoorPackJ10
import Derived.Test.YteolfamhmfidbaaGreatDoorPackJ11
set_option maxHeartbeats 8000000
set_option maxRecDepth 100000
set_option linter.unusedVariables false
set_option linter.unusedSimpArgs false
namespace Go.Proofs.YteolfamhmfidbaaGreatDoor
section
open Go.ChangeShapes Go.WideShapes Go.ChangeAt Go.RowKit Go.Deep
inductive Fit:VT->Prop
 |mk {k n:Int} {f:Nat} {s:ByteArray} {ns:List ByteArray} {its:List VT} (h1:ns.length*16<=reachBytes) (h2:its.length*88<=reachBytes) (h3:∀ x∈its,Fit x):Fit (.mk k n f s ns its)
theorem Fit.inv {k n:Int} {f:Nat} {s:ByteArray} {ns:List ByteArray} {its:List VT} (h:Fit (.mk k n f s ns its)):ns.length*16<=reachBytes/\its.length*88<=reachBytes/\∀ x∈its,Fit x:=by
 cases h with
 |mk h1 h2 h3=>exact⟨h1,h2,h3⟩
theorem z2W {H:Type} {P:Program} {e:TypeId}:∀ {l:List (DataW H)} {d:DataW H},d∈l->∀ n∈d.weights P e,n∈DataW.weightsAll P e l
 |[],_,h,_,_=>by cases h
 |a::l,d,h,n,hn=>by
  simp only[DataW.weightsAll,List.mem_append]
  rcases List.mem_cons.1 h with rfl|h
  ·exact .inl hn
  ·exact .inr (z2W h n hn)
section
variable {H:Type} {enc:TypeId × Value->H} {W:World}
theorem z8q {α:Type} {T E:TypeId} {k:Nat} {R:List Value->α->Prop} {S:α->Prop} (hT:Tryz.prog.underlying T= some (.slice E)) (hk:Tryz.prog.cellsOf E= k) (h0:0 < k) {fuel:Nat} {v:Value} {x:DataW H × List MemPlace}
  (h:DataW.trod enc Tryz.prog W 0 (fun _=>true) true fuel T [v]= some x) (hw:∀ n∈x.1.weights Tryz.prog T,n<=reachBytes)
  (each:∀ n,n < fuel->∀ cs y,DataW.trod enc Tryz.prog W 0 (fun _=>true) true n E cs= some y->(∀ n∈y.1.weights Tryz.prog E,n<=reachBytes)->∃ a:α,R cs a/\S a):
  ∃ l:List α,SlAt W W.heap.size k R v l/\l.length<=maxLen/\l.length*Tryz.prog.bytesOf E<=reachBytes/\∀ a∈l,S a:=by
 rcases DataW.trod_slice hT h with ⟨hcs,_⟩|⟨a,len,cap,elems,rest,n,hf,hcs,hx,_,hle,hm,hlen,hel,_,_⟩
 ·obtain rfl:v= .slice none 0 0:=by simpa using hcs
  exact⟨[],SlAt.nil _ _ _ _,by simp,by simp,fun a ha=>by cases ha⟩
 ·obtain rfl:v= .slice (some a) len cap:=by simpa using hcs
  rw[hk] at hel
  have hwt:len*Tryz.prog.bytesOf E<=reachBytes/\∀ e∈elems,∀ n∈e.1.weights Tryz.prog E,n<=reachBytes:=by
   rw[hx] at hw
   simp only[DataW.weights,hT,List.mem_cons,List.mem_append] at hw
   refine⟨?_,fun e he n hn=>hw n (.inr (.inl (z2W (List.mem_map_of_mem he) n hn)))⟩
   have:=hw _ (.inl rfl)
   rw[List.length_map,List.length_map,hlen,Nat.add_mul] at this
   omega
  have hex:∀ i,i < len->∃ b:α,(∃ cs:List Value,cs.length= k/\(∀ j,j < k->W.cell? ((a.add (i*k)).add j)= cs[j]?)/\R cs b)/\S b:=fun i hi=>by
   have h1:=hel i hi
   rw[List.getElem?_eq_getElem (by omega)] at h1
   obtain⟨cs,hc,ht⟩:=Option.bind_eq_some_iff.1 h1
   obtain⟨_,hlen2,hat⟩:=World.cells?_some hc
   obtain⟨b,hb,hS⟩:=each n (by omega) cs _ ht (hwt.2 _ (List.getElem_mem _))
   exact⟨b,⟨cs,hlen2,hat,hb⟩,hS⟩
  obtain⟨l,hl,hall⟩:=z2R len hex
  refine⟨l,⟨by unfold maxLen at hm;omega,some a,cap,by rw[hl],fun hp=> ?_⟩,by omega,by rw[hl];exact hwt.1,fun b hb=> ?_⟩
  ·obtain⟨x0,hx0⟩:∃ x0,l[0]?= some x0:=⟨_,List.getElem?_eq_getElem hp⟩
   obtain⟨⟨cs0,hl0,hat0,_⟩,_⟩:=hall 0 x0 hx0
   have c0:=hat0 0 h0
   rw[List.getElem?_eq_getElem (by omega)] at c0
   have hb:=block_lt_of_cell c0
   have hs:=World.cell?_spot c0
   obtain⟨b,o,s⟩:=a
   have hs':s= none:=by simpa [Addr.add] using hs
   subst hs'
   refine⟨b,o,rfl,by simpa [Addr.add] using hb,fun i x hx=> ?_⟩
   obtain⟨⟨cs,h1,h2,h3⟩,_⟩:=hall i x hx
   refine⟨cs,h1,fun j u hu=> ?_,h3⟩
   have:=h2 j (by have:=(List.getElem?_eq_some_iff.1 hu).1;omega)
   rw[Addr.add_mid,Addr.add_mid] at this
   rw[this,hu]
  ·obtain⟨i,hi⟩:=List.mem_iff_getElem?.1 hb
   exact(hall i b hi).2
theorem z8S:Tryz.prog.bytesOf 9= 16:=by kernel_rfl
end
end
section
open Go.ChangeShapes Go.WideShapes Go.ChangeAt Go.RowKit Go.Deep
section
variable {H:Type} {enc:TypeId × Value->H} {W:World}
theorem zb3:Tryz.prog.bytesOf 30= 160:=by kernel_rfl
theorem zcq:∀ (fuel:Nat) (cs:List Value) (x:DataW H × List MemPlace),DataW.trod enc Tryz.prog W 0 (fun _=>true) true fuel 30 cs= some x->(∀ n∈x.1.weights Tryz.prog 30,n<=reachBytes)->∃ t,ExpAt W W.heap.size cs t/\FitE t:=by
 intro fuel
 induction fuel using Nat.strongRecOn with
 |_ fuel ih=>
  intro cs x h hw
  obtain⟨xs,n,hf,hx,hlen,hxl,hg⟩:=DataW.trod_struct Tryz.underlying30 h
  rw[z5I] at hlen
  clear h
  obtain⟨c0,c1,d0,d1,d2,d3,d4,d5,c3,c4,rfl⟩:=zgt hlen
  have h0:=hg 0 _ rfl
  have h1:=hg 1 _ rfl
  have h2:=hg 2 _ rfl
  have h3:=hg 3 _ rfl
  have h4:=hg 4 _ rfl
  have hx6:xs.length= 5:=hxl
  clear hg hxl
  rw[List.getElem?_eq_getElem (by omega)] at h0 h1 h2 h3 h4
  simp only[List.getElem_toArray,List.getElem_cons_zero,List.getElem_cons_succ,z2D,z0B,z1X,z90,z1A,List.drop_zero,List.drop_succ_cons,List.take_succ_cons,List.take_zero,List.take_nil] at h0 h1 h2 h3 h4
  obtain⟨k,e0,_,w0⟩:=DataW.trod_int Tryz.underlying3 h0
  obtain⟨s,e1,_,w1⟩:=DataW.trod_string Tryz.underlying9 h1
  obtain⟨t,ht⟩:=z3w _ _ _ h2
  rw[hx] at hw
  simp only[DataW.weights,Tryz.underlying30] at hw
  have k3:∀ n∈(xs[3]'(by omega)).1.weights Tryz.prog 24,n<=reachBytes:=fun n hn=>hw n (DataW.weights_mem_each (j:=3) rfl (by rw[List.getElem?_map,List.getElem?_eq_getElem (by omega)];rfl) n hn)
  have k4:∀ n∈(xs[4]'(by omega)).1.weights Tryz.prog 28,n<=reachBytes:=fun n hn=>hw n (DataW.weights_mem_each (j:=4) rfl (by rw[List.getElem?_map,List.getElem?_eq_getElem (by omega)];rfl) n hn)
  obtain⟨ns,hns,_,hnb,_⟩:=z8q (S:=fun _=>True) Tryz.underlying24 z0B (by omega) h3 k3 fun _ _ cs y hy _=>by
   obtain⟨s,hs⟩:=z50 hy
   exact⟨s,hs,trivial⟩
  obtain⟨its,hits,hil,hib,hfit⟩:=z8q Tryz.underlying28 z5I (by omega) h4 k4 fun q hq cs y hy hyw=>ih q (by omega) cs y hy hyw
  rw[z8S] at hnb
  rw[zb3] at hib
  simp only[List.cons.injEq,and_true] at e0 e1
  subst e0 e1
  exact⟨_,ExpAt.of w0 w1 ht hns hil hits,.mk hnb hib hfit⟩
theorem zcc {r:Reach} {b0:Nat} {v:Value} {d:DataW H} {p:List MemPlace} (hv:Value.okWide Tryz.prog W r b0 30 v) (h:DataW.Trod enc Tryz.prog W 0 (fun _=>true) true 30 v d p) (hw:∀ n∈d.weights Tryz.prog 30,n<=reachBytes):
  ∃ cs t,v= .agg ⟨cs⟩/\ExpAt W W.heap.size cs t/\FitE t:=by
 obtain⟨cs,rfl,_⟩:=okWide_struct Tryz.underlying30 hv
 obtain⟨fuel,hf⟩:=h
 obtain⟨m,hm,hfit⟩:=zcq _ _ _ hf hw
 exact⟨cs.toList,m,rfl,by simpa [Value.cells] using hm,hfit⟩
end
end
end Go.Proofs.YteolfamhmfidbaaGreatDoor
