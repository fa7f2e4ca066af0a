/- Parts of a proof: WellP, WellNilP. -/
import Derived.Test.YtpmjcbjdcjjplaaGreatDoorPackE12
import Derived.Test.YtpmjcbjdcjjplaaGreatDoorPackE17
import Derived.Test.YtpmjcbjdcjjplaaGreatDoorPackE24
set_option maxHeartbeats 8000000
set_option maxRecDepth 100000
set_option linter.unusedVariables false
set_option linter.unusedSimpArgs false
namespace Go.Proofs.YtpmjcbjdcjjplaaGreatDoor
section
open Go Go.RowKit P
abbrev zY:=Int × Int
def encF (f:zY):List Value:=[.int .i64 f.1,.int .i64 f.2]
theorem z8i (f:zY):(encF f).length= 2:=rfl
theorem zef (f:zY):∀ v∈encF f,v.oneCell'= true:=by
 intro v hv;simp only[encF,List.mem_cons,List.not_mem_nil,or_false] at hv;rcases hv with rfl|rfl<;>rfl
def putF (ok:Bool) (r a:Int):List zY:=if ok then[] else[(r,a)]
def upto (f:Nat->List zY) (j:Nat):List zY:=(List.range j).flatMap f
theorem z3d (f:Nat->List zY):upto f 0=[]:=rfl
theorem z2h (f:Nat->List zY) (j:Nat):upto f (j+1)= upto f j ++ f j:=by
 unfold upto;rw[List.range_succ,List.flatMap_append];simp
theorem z0H {f:Nat->List zY} (h:∀ i,(f i).length<=1):∀ j,(upto f j).length<=j
 |0=>Nat.le_refl _
 |j+1=>by
  rw[z2h,List.length_append]
  have:=z0H h j
  have:=h j
  omega
theorem z2J (ok:Bool) (r a:Int):(putF ok r a).length<=1:=by unfold putF;split<;>simp
mutual
def z0J:TT->Bool
 | .mk k _ its=> !(k ==7) && z0h its
def z0h:List TT->Bool
 |[]=>true
 |a::l=>z0J a && z0h l
end
theorem z8r {l:List TT} {j:Nat} {x:TT} (h:l[j]?= some x):z0h (l.drop j)=(z0J x && z0h (l.drop (j+1))):=by
 obtain⟨h1,h2⟩:=List.getElem?_eq_some_iff.1 h;rw[List.drop_eq_getElem_cons h1,h2,z0h]
theorem z9B {l:List TT}:z0h (l.drop l.length)= true:=by rw[List.drop_length,z0h]
def z0i (t:TT):Bool:=typeT t && z0J t
def nameW (s:ByteArray):Bool:=nameB s && !wordB s
def cntN (l:List (List UInt8)) (s:List UInt8):Nat:=l.countP (· ==s)
theorem z1v (l:List (List UInt8)) (a s:List UInt8):cntN (l ++ [a]) s= cntN l s+if a= s then 1 else 0:=by
 unfold cntN;rw[List.countP_append];simp[List.countP_cons]
theorem za1 (l:List (List UInt8)) (s:List UInt8):cntN l s<=l.length:=List.countP_le_length
section
variable (n:Nat) (R:Rel) (m:ModelT)
def varB (i:Nat) (v:VarT):Bool:=decide (cntN ((m.vars.take (i+1)).map (·.name.data.toList)) v.name.data.toList= 1) && (nameW v.name && (lqI n R v.label v.label && (z0i v.type && fitT v.init v.type)))
def msgB (i:Nat) (v:MsgT):Bool:=decide (cntN ((m.msgs.take (i+1)).map (·.name.data.toList)) v.name.data.toList= 1) && (nameW v.name && (lqI n R v.label v.label && (z0i v.key && z0i v.body)))
def varF (i:Nat):List zY:=match m.vars[i]? with|none=>[]|some v=>putF (varB n R m i v) 2 i
def msgF (i:Nat):List zY:=match m.msgs[i]? with|none=>[]|some v=>putF (msgB n R m i v) 3 i
def z1F (i:Nat):List zY:=match m.grants[i]? with|none=>[]|some g=>putF (lqI n R g.1 g.1 && lqI n R g.2 g.2) 4 i
end
structure Need where
 least:Int
 most:Int
 conds:Bool
 expr:Bool
 body:Bool
 v:Bool
 msg:Bool
 catch_:Bool
 wait:Int
def z0P (k:Int):Option Need:=
 if k= 2\/k= 13 then some ⟨0,0,false,false,false,false,false,false,0⟩
 else if k= 11 then some ⟨2,2,false,true,false,true,true,true,2⟩
 else if k= 9 then some ⟨1,1,false,true,false,true,true,true,0⟩
 else if k= 3 then some ⟨1,1,false,true,false,true,false,true,0⟩
 else if k= 4\/k= 5 then some ⟨2,6,true,false,false,false,false,true,0⟩
 else if k= 6 then some ⟨1,6,false,false,false,false,false,false,0⟩
 else if k= 7 then some ⟨1,1,false,false,false,true,false,true,1⟩
 else if k= 8 then some ⟨1,1,false,false,false,false,false,false,2⟩
 else if k= 10 then some ⟨1,1,false,true,true,false,true,true,0⟩
 else if k= 12 then some ⟨1,1,false,true,true,true,false,false,0⟩
 else if k= 1 then some ⟨1,1,false,false,false,false,false,false,0⟩
 else none
def encNd (d:Need):List Value:=[.int .i64 d.least,.int .i64 d.most,.bool d.conds,.bool d.expr,.bool d.body,.bool d.v,.bool d.msg,.bool d.catch_,.int .i64 d.wait]
def vz:VT:= .mk 0 0 0 ⟨#[]⟩ [] []
def ez:ET:= .mk 0 ⟨#[]⟩ vz [] []
def kE:ET->Int| .mk k _ _ _ _=>k
def valE:ET->VT| .mk _ _ v _ _=>v
def z0Z (x:ET) (must:Bool):Bool:=if must then !(kE x ==0) else sameE x ez && z0j (.mk 2 ⟨#[120]⟩ (valE x) [] [])
def numB (n:Int) (must:Bool) (most:Int):Bool:=if must then decide (0<=n) && decide (n < most) else n == -1
def wayB (nodes:List NodeT) (z:Int):Bool:=decide (0<=z) && (decide (z < nodes.length) && match nodes[z.toNat]? with|some y=> !(y.kind ==1)|none=>false)
def waysB (nodes:List NodeT) (x:NodeT) (d:Need):Bool:=
 (decide (d.least<=x.next.length) && decide ((x.next.length:Int)<=d.most)) &&
 ((if d.conds then decide ((x.conds.length:Int)<=5) && ((x.next.length:Int) ==x.conds.length+1) else(x.conds.length:Int) ==0) &&
 (x.next.all (wayB nodes) && (x.catch_ == -1 ||(d.catch_ && wayB nodes x.catch_))))
def z3m (x:NodeT) (d:Need):Bool:=
 decide (0<=x.wait) && (decide (x.wait<=1000) && (if x.kind= 7 then(decide (0 < x.wait) ==decide (0<=x.catch_)) else(decide (0 < x.wait) ==(d.wait ==2))))
section
variable (n:Nat) (R:Rel) (m:ModelT)
def fromB (x:NodeT):Bool:=if x.kind= 12 then lqI n R x.from_ x.from_ else x.from_ ==0
def z0A (x:NodeT):Bool:=match z0P x.kind with
 |none=>false
 |some d=>lqI n R x.label x.label && (waysB m.nodes x d && (z3m x d && (fromB n R x && (z0Z x.expr d.expr && (z0Z x.body d.body && (numB x.var d.v m.vars.length && numB x.msg d.msg m.msgs.length))))))
variable (tb:NodeT->Bool)
def nodeF (i:Nat):List zY:=match m.nodes[i]? with|none=>[]|some x=>if z0A n R m x then putF (tb x) 6 i else[(5,i)]
def sizeB:Bool:=decide (m.vars.length<=16) && (decide (m.msgs.length<=8) && (decide (m.grants.length<=64) && (decide (1<=m.nodes.length) && decide (m.nodes.length<=40))))
def z1p:Bool:=m.nodes.any fun x=>x.kind ==1
def z0g:List zY:=if sizeB m then upto (varF n R m) m.vars.length ++ (upto (msgF n R m) m.msgs.length ++ (upto (z1F n R m) m.grants.length ++ (upto (nodeF n R m tb) m.nodes.length ++ putF (z1p m) 7 (-1)))) else[(7, -1)]
end
def wellM (m:ModelT) (tb:NodeT->Bool):List zY:=if makeE m.labels m.order= 0 then z0g m.labels.toNat (ordOf m.labels.toNat m.order) m tb else[(1, -1)]
theorem z5y (n:Nat) (R:Rel) (m:ModelT) (i:Nat):(varF n R m i).length<=1:=by unfold varF;split;exact Nat.zero_le _;exact z2J _ _ _
theorem z5o (n:Nat) (R:Rel) (m:ModelT) (i:Nat):(msgF n R m i).length<=1:=by unfold msgF;split;exact Nat.zero_le _;exact z2J _ _ _
theorem z5S (n:Nat) (R:Rel) (m:ModelT) (i:Nat):(z1F n R m i).length<=1:=by unfold z1F;split;exact Nat.zero_le _;exact z2J _ _ _
theorem z7w (n:Nat) (R:Rel) (m:ModelT) (tb:NodeT->Bool) (i:Nat):(nodeF n R m tb i).length<=1:=by unfold nodeF;split;exact Nat.zero_le _;split;exact z2J _ _ _;exact Nat.le_refl _
structure CkStep (cb:Nat) (w w':World) (lv lv':Value):Prop where
 os:w'.os= w.os
 tape:w'.tape= w.tape
 output:w'.output= w.output
 size:w.heap.size<=w'.heap.size
 block:∀ b,b < w.heap.size->b≠cb->some b≠lv.ownBlock->w'.heap[b]?= w.heap[b]?
 next:lv'.ownBlock= lv.ownBlock\/∃ g,lv'.ownBlock= some g/\w.heap.size<=g
section
variable {cb:Nat} {w w1 w':World} {lv lv1 lv':Value}
theorem CkStep.refl (cb:Nat) (w:World) (lv:Value):CkStep cb w w lv lv:=⟨rfl,rfl,rfl,Nat.le_refl _,fun _ _ _ _=>rfl,.inl rfl⟩
theorem CkStep.trans (h:CkStep cb w w1 lv lv1) (k:CkStep cb w1 w' lv1 lv'):CkStep cb w w' lv lv':=by
 refine⟨k.os.trans h.os,k.tape.trans h.tape,k.output.trans h.output,Nat.le_trans h.size k.size,fun b h1 h2 h3=>(k.block b (Nat.lt_of_lt_of_le h1 h.size) h2 ?_).trans (h.block b h1 h2 h3),?_⟩
 ·rcases h.next with e|⟨g,e,A⟩
  ·rw[e];exact h3
  ·rw[e];intro e2;injection e2 with e2;omega
 ·rcases k.next with e|⟨g,e,A⟩
  ·rcases h.next with e2|⟨g,e2,A⟩
   ·exact .inl (e.trans e2)
   ·exact .inr ⟨g,e.trans e2,A⟩
  ·exact .inr ⟨g,e,Nat.le_trans h.size A⟩
theorem CkStep.of (hb:Below w.heap.size w w') (cb:Nat) (lv:Value):CkStep cb w w' lv lv:=⟨hb.os,hb.tape,hb.output,hb.size,fun b h _ _=>hb.block b h,.inl rfl⟩
theorem CkStep.below (h:CkStep cb w w' lv lv') (hlv:lv.ownBlock= none) {B:Nat} (hB:B<=cb) (hw:B<=w.heap.size):Below B w w':=
 ⟨h.os,h.tape,h.output,h.size,fun b hb=>h.block b (by omega) (by omega) (by rw[hlv];intro e;cases e)⟩
end
structure Ck (TC TF:TypeId) (W u:World) (cb:Nat) (mp lp lv:Value) (L:List zY):Prop where
 box:u.heap[cb]?= some (.cells ⟨[mp,lp,lv]⟩ TC (0,0))
 own:OwnSl TF 2 encF u W.heap.size lv L
 step:CkStep cb W u (.slice none 0 0) lv
 lt:cb < W.heap.size
section
variable {TC TF:TypeId} {W u u':World} {cb:Nat} {mp lp lv:Value} {L:List zY}
theorem Ck.on (h:Ck TC TF W u cb mp lp lv L) (hb:Below u.heap.size u u'):Ck TC TF W u' cb mp lp lv L:=
 ⟨(hb.block _ (Nat.lt_of_lt_of_le h.lt h.step.size)).trans h.box,h.own.below hb,h.step.trans (CkStep.of hb cb lv),h.lt⟩
theorem Ck.below (h:Ck TC TF W u cb mp lp lv L) {B:Nat} (hB:B<=cb):Below B W u:=h.step.below rfl hB (Nat.le_trans hB (Nat.le_of_lt h.lt))
end
end
section
open Go Go.RowKit P
theorem z2K {ok:Bool} {r a:Int} (h:putF ok r a=[]):ok= true:=by
 unfold putF at h;split at h
 ·assumption
 ·cases h
theorem z2N {g:Nat->List zY} {j:Nat} (h:upto g j=[]):∀ i,i < j->g i=[]:=fun i hi=>by
 unfold upto at h
 rw[List.flatMap_eq_nil_iff] at h
 exact h i (List.mem_range.2 hi)
structure WellOk (m:ModelT) (tb:NodeT->Bool):Prop where
 make:makeE m.labels m.order= 0
 size:sizeB m= true
 vars:∀ (i:Nat) v,m.vars[i]?= some v->varB m.labels.toNat (ordOf m.labels.toNat m.order) m i v= true
 msgs:∀ (i:Nat) v,m.msgs[i]?= some v->msgB m.labels.toNat (ordOf m.labels.toNat m.order) m i v= true
 grants:∀ (i:Nat) g,m.grants[i]?= some g->lqI m.labels.toNat (ordOf m.labels.toNat m.order) g.1 g.1= true/\lqI m.labels.toNat (ordOf m.labels.toNat m.order) g.2 g.2= true
 shape:∀ (i:Nat) x,m.nodes[i]?= some x->z0A m.labels.toNat (ordOf m.labels.toNat m.order) m x= true
 typed:∀ (i:Nat) x,m.nodes[i]?= some x->tb x= true
 start:z1p m= true
theorem zfn {m:ModelT} {tb:NodeT->Bool} (h:wellM m tb=[]):WellOk m tb:=by
 unfold wellM at h;split at h
 ·rename_i h0
  unfold z0g at h;split at h
  ·rename_i hs
   rw[List.append_eq_nil_iff,List.append_eq_nil_iff,List.append_eq_nil_iff,List.append_eq_nil_iff] at h;obtain⟨h1,h2,h3,h4,h5⟩:=h;refine⟨h0,hs,fun i v hv=> ?_,fun i v hv=> ?_,fun i g hg=> ?_,fun i x hx=> ?_,fun i x hx=> ?_,z2K h5⟩
   ·have:=z2N h1 i (List.getElem?_eq_some_iff.1 hv).1
    unfold varF at this;rw[hv] at this;exact z2K this
   ·have:=z2N h2 i (List.getElem?_eq_some_iff.1 hv).1
    unfold msgF at this;rw[hv] at this;exact z2K this
   ·have:=z2N h3 i (List.getElem?_eq_some_iff.1 hg).1
    unfold z1F at this;rw[hg] at this;have:=z2K this;rwa [Bool.and_eq_true] at this
   ·have:=z2N h4 i (List.getElem?_eq_some_iff.1 hx).1
    unfold nodeF at this;rw[hx] at this;simp only at this;split at this
    ·assumption
    ·cases this
   ·have:=z2N h4 i (List.getElem?_eq_some_iff.1 hx).1
    unfold nodeF at this;rw[hx] at this;simp only at this;split at this
    ·exact z2K this
    ·cases this
  ·cases h
 ·cases h
theorem z7v {i:Nat} {e:EdgeT}:∀ {l:List Int} {p:Nat},e∈nextE i p l->e.1= i/\e.2.2∈l/\p<=e.2.1/\e.2.1 < p+l.length
 |[],_,h=>by cases h
 |a::l,p,h=>by
  rcases List.mem_cons.1 h with rfl|h
  ·exact⟨rfl,by simp,Nat.le_refl _,by simp⟩
  ·obtain⟨h1,h2,h3,h4⟩:=z7v h
   exact⟨h1,List.mem_cons_of_mem _ h2,by omega,by rw[List.length_cons];omega⟩
theorem z7f {g:List GN} {e:EdgeT} (h:e∈zH g):∃ x,g[e.1]?= some x/\(e.2.2∈x.next\/(e.2.2= x.catch_/\0<=x.catch_)):=by
 have A:∀ (g:List GN) (k:Nat),e∈z02 k g->k<=e.1/\∃ x,g[e.1 - k]?= some x/\(e.2.2∈x.next\/(e.2.2= x.catch_/\0<=x.catch_)):=by
  intro g
  induction g with
  |nil=>intro k h;cases h
  |cons x g ih=>
   intro k h;rcases List.mem_append.1 h with h|h
   ·unfold nodeE at h
    rcases List.mem_append.1 h with h|h
    ·obtain⟨h1,h2,_,_⟩:=z7v h
     exact⟨by omega,x,by rw[h1,Nat.sub_self];rfl,.inl h2⟩
    ·split at h
     ·rename_i hc
      have:=List.mem_singleton.1 h;subst this;exact⟨Nat.le_refl _,x,by show(x::g)[k - k]?= _;rw[Nat.sub_self];rfl,.inr ⟨rfl,hc⟩⟩
     ·cases h
   ·obtain⟨h1,y,h2,h3⟩:=ih _ h
    refine⟨by omega,y,?_,h3⟩;rw[show e.1 - k=(e.1 - (k+1))+1 by omega];exact h2
 obtain⟨_,x,h1,h2⟩:=A g 0 h;exact⟨x,h1,h2⟩
theorem zas {nodes:List NodeT} {z:Int} (h:wayB nodes z= true):0<=z/\z < nodes.length/\∃ y,nodes[z.toNat]?= some y/\y.kind≠1:=by
 unfold wayB at h;simp only[Bool.and_eq_true,decide_eq_true_eq] at h;obtain⟨h1,h2,h3⟩:=h;refine⟨h1,h2,?_⟩;split at h3
 ·rename_i y hy
  exact⟨y,hy,by simpa using h3⟩
 ·cases h3
theorem zdL {m:ModelT} {tb:NodeT->Bool} (h:WellOk m tb) {e:EdgeT} (he:e∈zH (m.nodes.map gnOf)):0<=e.2.2/\e.2.2 < m.nodes.length/\∃ y,m.nodes[e.2.2.toNat]?= some y/\y.kind≠1:=by
 obtain⟨x,X,g⟩:=z7f he;rw[List.getElem?_map] at X;obtain⟨O,K,rfl⟩:=Option.map_eq_some_iff.1 X;have G:=h.shape _ O K;unfold z0A at G;split at G
 ·cases G
 ·rename_i d hd
  simp only[Bool.and_eq_true] at G;have N:=G.2.1;unfold waysB at N;simp only[Bool.and_eq_true] at N;obtain⟨_,_,C,A⟩:=N;rcases g with g|⟨g,h0⟩
  ·exact zas (List.all_eq_true.1 C _ g)
  ·rw[Bool.or_eq_true] at A
   rcases A with A|A
   ·have:O.catch_= -1:=by simpa using A
    have h0:0<=O.catch_:=h0;omega
   ·rw[Bool.and_eq_true] at A
    rw[g];exact zas A.2
theorem zdM {m:ModelT} {tb:NodeT->Bool} (h:WellOk m tb) {i:Nat} {nd:NodeT} (hnd:m.nodes[i]?= some nd):(nd.kind= 2\/nd.kind= 13)↔(nd.next=[]/\nd.catch_ < 0):=by
 have C:=h.shape _ nd hnd;unfold z0A at C;split at C
 ·cases C
 ·rename_i d hd
  simp only[Bool.and_eq_true] at C;have G:=C.2.1;unfold waysB at G;simp only[Bool.and_eq_true,decide_eq_true_eq] at G;obtain⟨⟨K,N⟩,_,_,g⟩:=G;constructor
  ·intro A
   unfold z0P at hd;rw[if_pos A] at hd;injection hd with hd;subst hd;have h0:nd.next.length= 0:=by have:(nd.next.length:Int)<=0:=N;omega
   refine⟨List.eq_nil_of_length_eq_zero h0,?_⟩;rw[Bool.or_eq_true] at g;rcases g with g|g
   ·have:nd.catch_= -1:=by simpa using g
    omega
   ·simp at g
  ·rintro⟨O,_⟩
   rcases Decidable.em (nd.kind= 2\/nd.kind= 13) with A|A
   ·exact A
   exfalso;unfold z0P at hd;rw[if_neg A] at hd;rw[O] at K;have h1:1<=d.least:=by
    repeat' split at hd
    all_goals first|(injection hd with hd;subst hd;decide)|cases hd
   simp at K;omega
end
end Go.Proofs.YtpmjcbjdcjjplaaGreatDoor
