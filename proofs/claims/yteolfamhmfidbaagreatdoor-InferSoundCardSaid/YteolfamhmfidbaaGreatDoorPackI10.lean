/- Parts of a proof: OpenP. -/
import Derived.ChangeOld
import Derived.Deep.Slices
import Derived.Test.YteolfamhmfidbaaGreatDoorPackI4
import Derived.Test.YteolfamhmfidbaaGreatDoorPackI9
set_option maxHeartbeats 8000000
set_option maxRecDepth 100000
set_option linter.unusedVariables false
set_option linter.unusedSimpArgs false
namespace Go.Proofs.YteolfamhmfidbaaGreatDoor
open Go.ChangeShapes Go.WideShapes Go.ChangeAt Go.RowKit Go.Deep P
section
variable {H:Type} {enc:TypeId × Value->H} {W:World}
theorem zaK {A:Option Addr} {len cap:Nat} {d:DataW H} {p:List MemPlace} (h:DataW.Trod enc Tryz.prog W 0 (fun _=>true) true 22 (.slice A len cap) d p):
  ∃ ps:List (Int × Int),ps.length= len/\Pairs W W.heap.size A ps:=by
 obtain⟨fuel,hf⟩:=h
 rcases open_slice Tryz.underlying22 hf with ⟨hcs,_⟩|⟨a,len',cap',m,n,D,Pl,hcs,_,hl,hm,hmm,_,hi⟩
 ·simp[Value.cells] at hcs
  obtain⟨rfl,rfl,rfl⟩:=hcs
  exact⟨[],rfl,by simp,fun h=>absurd h (by simp)⟩
 ·simp[Value.cells] at hcs
  obtain⟨rfl,rfl,rfl⟩:=hcs
  simp only[if_true] at hmm
  subst hmm
  have hC:Tryz.prog.cellsOf 64= 2:=by kernel_rfl
  have hC1:Tryz.prog.cellsOf 3= 1:=by kernel_rfl
  have each:∀ i,i < m->∃ x y:Int,W.cell? (a.add (i*2))= some (.int .i64 x)/\W.cell? ((a.add (i*2)).add 1)= some (.int .i64 y)/\(Lit.int .i64 x).wf= true/\(Lit.int .i64 y).wf= true:=by
   intro i him
   obtain⟨cs',hc,ht⟩:=hi i him
   rw[hC] at hc
   obtain⟨_,hlen,hat⟩:=World.cells?_some hc
   obtain⟨xs,m',_,_,_,hxs,hel⟩:=DataW.trod_array Tryz.underlying64 ht
   have h0:=hel 0 (by omega)
   have h1:=hel 1 (by omega)
   rw[hC1] at h0 h1
   match cs',hlen with
   |[c0,c1],_=>
    have k0:=hat 0 (by omega)
    have k1:=hat 1 (by omega)
    rw[List.getElem?_eq_getElem (by omega)] at h0 h1
    simp only[Nat.zero_mul,List.drop_zero,List.take_succ_cons,List.take_zero,Nat.one_mul,List.drop_succ_cons] at h0 h1
    obtain⟨x,hx,_,wx⟩:=DataW.trod_int Tryz.underlying3 h0
    obtain⟨y,hy,_,wy⟩:=DataW.trod_int Tryz.underlying3 h1
    simp at hx hy
    subst hx hy
    refine⟨x,y,?_,by simpa using k1,wx,wy⟩
    have:(a.add (i*2)).add 0= a.add (i*2):=by simp[Addr.add]
    rw[this] at k0
    simpa using k0
  obtain⟨f,hf2⟩:∃ f:Nat->Int × Int,∀ i,i < m->W.cell? (a.add (i*2))= some (.int .i64 (f i).1)/\W.cell? ((a.add (i*2)).add 1)= some (.int .i64 (f i).2)/\(Lit.int .i64 (f i).1).wf= true/\(Lit.int .i64 (f i).2).wf= true:=by
   refine⟨fun i=>if h:i < m then((each i h).choose,(each i h).choose_spec.choose) else(0,0),fun i hi=> ?_⟩
   simp only[dif_pos hi]
   exact(each i hi).choose_spec.choose_spec
  unfold maxLen at hm
  refine⟨(List.range len).map f,by simp,by simp;omega,fun hp=> ?_⟩
  have hlen:0 < len:=by simpa using hp
  obtain⟨c0,_⟩:=hf2 0 (by omega)
  have hb:=block_lt_of_cell c0
  have hs:=World.cell?_spot c0
  obtain⟨b,o,s⟩:=a
  have hs':s= none:=by simpa [Addr.add] using hs
  subst hs'
  refine⟨b,o,rfl,by simpa [Addr.add] using hb,fun i p hip=> ?_⟩
  have hilt:i < len:=by have:=(List.getElem?_eq_some_iff.1 hip).1;simpa using this
  rw[List.getElem?_map,List.getElem?_range hilt] at hip
  simp at hip
  subst hip
  have:=hf2 i (by omega)
  rw[Addr.add_mid,Addr.add_mid] at this
  exact this
end
end Go.Proofs.YteolfamhmfidbaaGreatDoor
