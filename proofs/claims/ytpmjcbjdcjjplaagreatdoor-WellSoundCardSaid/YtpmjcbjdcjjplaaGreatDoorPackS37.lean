/- Parts of a proof: WellP, WellNilP. -/
import Derived.Test.YtpmjcbjdcjjplaaGreatDoorPackS12
import Derived.Test.YtpmjcbjdcjjplaaGreatDoorPackS17
import Derived.Test.YtpmjcbjdcjjplaaGreatDoorPackS24
set_option maxHeartbeats 8000000
set_option maxRecDepth 100000
set_option linter.unusedVariables false
set_option linter.unusedSimpArgs false
namespace Go.Proofs.YtpmjcbjdcjjplaaGreatDoor
section
open Go Go.RowKit P
abbrev z03:=Int × Int
def encF (f:z03):List Value:=[.int .i64 f.1,.int .i64 f.2]
theorem z8o (f:z03):(encF f).length= 2:=rfl
theorem zew (f:z03):∀ v∈encF f,v.oneCell'= true:=by
 intro v hv;simp only[encF,List.mem_cons,List.not_mem_nil,or_false] at hv;rcases hv with rfl|rfl<;>rfl
def putF (ok:Bool) (r a:Int):List z03:=if ok then[] else[(r,a)]
def upto (f:Nat->List z03) (j:Nat):List z03:=(List.range j).flatMap f
theorem z3i (f:Nat->List z03):upto f 0=[]:=rfl
theorem z2y (f:Nat->List z03) (j:Nat):upto f (j+1)= upto f j ++ f j:=by
 unfold upto;rw[List.range_succ,List.flatMap_append];simp
theorem z0M {f:Nat->List z03} (h:∀ i,(f i).length<=1):∀ j,(upto f j).length<=j
 |0=>Nat.le_refl _
 |j+1=>by
  rw[z2y,List.length_append]
  have:=z0M h j
  have:=h j
  omega
theorem z2W (ok:Bool) (r a:Int):(putF ok r a).length<=1:=by unfold putF;split<;>simp
mutual
def z0O:TT->Bool
 | .mk k _ its=> !(k ==7) && z0o its
def z0o:List TT->Bool
 |[]=>true
 |a::l=>z0O a && z0o l
end
theorem z8w {l:List TT} {j:Nat} {x:TT} (h:l[j]?= some x):z0o (l.drop j)=(z0O x && z0o (l.drop (j+1))):=by
 obtain⟨h1,h2⟩:=List.getElem?_eq_some_iff.1 h;rw[List.drop_eq_getElem_cons h1,h2,z0o]
theorem z9I {l:List TT}:z0o (l.drop l.length)= true:=by rw[List.drop_length,z0o]
def z0p (t:TT):Bool:=typeT t && z0O t
def nameW (s:ByteArray):Bool:=nameB s && !wordB s
def cntN (l:List (List UInt8)) (s:List UInt8):Nat:=l.countP (· ==s)
theorem z1M (l:List (List UInt8)) (a s:List UInt8):cntN (l ++ [a]) s= cntN l s+if a= s then 1 else 0:=by
 unfold cntN;rw[List.countP_append];simp[List.countP_cons]
theorem za7 (l:List (List UInt8)) (s:List UInt8):cntN l s<=l.length:=List.countP_le_length
section
variable (n:Nat) (R:Rel) (m:ModelT)
def varB (i:Nat) (v:VarT):Bool:=decide (cntN ((m.vars.take (i+1)).map (·.name.data.toList)) v.name.data.toList= 1) && (nameW v.name && (lqI n R v.label v.label && (z0p v.type && fitT v.init v.type)))
def msgB (i:Nat) (v:MsgT):Bool:=decide (cntN ((m.msgs.take (i+1)).map (·.name.data.toList)) v.name.data.toList= 1) && (nameW v.name && (lqI n R v.label v.label && (z0p v.key && z0p v.body)))
def varF (i:Nat):List z03:=match m.vars[i]? with|none=>[]|some v=>putF (varB n R m i v) 2 i
def msgF (i:Nat):List z03:=match m.msgs[i]? with|none=>[]|some v=>putF (msgB n R m i v) 3 i
def z1W (i:Nat):List z03:=match m.grants[i]? with|none=>[]|some g=>putF (lqI n R g.1 g.1 && lqI n R g.2 g.2) 4 i
end
structure Need where
 least:Int
 most:Int
 conds:Bool
 expr:Bool
 body:Bool
 v:Bool
 msg:Bool
 catch_:Bool
 wait:Int
def z11 (k:Int):Option Need:=
 if k= 2\/k= 13 then some ⟨0,0,false,false,false,false,false,false,0⟩
 else if k= 11 then some ⟨2,2,false,true,false,true,true,true,2⟩
 else if k= 9 then some ⟨1,1,false,true,false,true,true,true,0⟩
 else if k= 3 then some ⟨1,1,false,true,false,true,false,true,0⟩
 else if k= 4\/k= 5 then some ⟨2,6,true,false,false,false,false,true,0⟩
 else if k= 6 then some ⟨1,6,false,false,false,false,false,false,0⟩
 else if k= 7 then some ⟨1,1,false,false,false,true,false,true,1⟩
 else if k= 8 then some ⟨1,1,false,false,false,false,false,false,2⟩
 else if k= 10 then some ⟨1,1,false,true,true,false,true,true,0⟩
 else if k= 12 then some ⟨1,1,false,true,true,true,false,false,0⟩
 else if k= 1 then some ⟨1,1,false,false,false,false,false,false,0⟩
 else none
def encNd (d:Need):List Value:=[.int .i64 d.least,.int .i64 d.most,.bool d.conds,.bool d.expr,.bool d.body,.bool d.v,.bool d.msg,.bool d.catch_,.int .i64 d.wait]
def vz:VT:= .mk 0 0 0 ⟨#[]⟩ [] []
def ez:ET:= .mk 0 ⟨#[]⟩ vz [] []
def kE:ET->Int| .mk k _ _ _ _=>k
def valE:ET->VT| .mk _ _ v _ _=>v
def z0L (x:ET) (must:Bool):Bool:=if must then !(kE x ==0) else sameE x ez && zZ (.mk 2 ⟨#[120]⟩ (valE x) [] [])
def numB (n:Int) (must:Bool) (most:Int):Bool:=if must then decide (0<=n) && decide (n < most) else n == -1
def wayB (nodes:List NodeT) (z:Int):Bool:=decide (0<=z) && (decide (z < nodes.length) && match nodes[z.toNat]? with|some y=> !(y.kind ==1)|none=>false)
def waysB (nodes:List NodeT) (x:NodeT) (d:Need):Bool:=
 (decide (d.least<=x.next.length) && decide ((x.next.length:Int)<=d.most)) &&
 ((if d.conds then decide ((x.conds.length:Int)<=5) && ((x.next.length:Int) ==x.conds.length+1) else(x.conds.length:Int) ==0) &&
 (x.next.all (wayB nodes) && (x.catch_ == -1 ||(d.catch_ && wayB nodes x.catch_))))
def z3u (x:NodeT) (d:Need):Bool:=
 decide (0<=x.wait) && (decide (x.wait<=1000) && (if x.kind= 7 then(decide (0 < x.wait) ==decide (0<=x.catch_)) else(decide (0 < x.wait) ==(d.wait ==2))))
section
variable (n:Nat) (R:Rel) (m:ModelT)
def fromB (x:NodeT):Bool:=if x.kind= 12 then lqI n R x.from_ x.from_ else x.from_ ==0
def z0K (x:NodeT):Bool:=match z11 x.kind with
 |none=>false
 |some d=>lqI n R x.label x.label && (waysB m.nodes x d && (z3u x d && (fromB n R x && (z0L x.expr d.expr && (z0L x.body d.body && (numB x.var d.v m.vars.length && numB x.msg d.msg m.msgs.length))))))
variable (tb:NodeT->Bool)
def nodeF (i:Nat):List z03:=match m.nodes[i]? with|none=>[]|some x=>if z0K n R m x then putF (tb x) 6 i else[(5,i)]
def sizeB:Bool:=decide (m.vars.length<=16) && (decide (m.msgs.length<=8) && (decide (m.grants.length<=64) && (decide (1<=m.nodes.length) && decide (m.nodes.length<=40))))
def z1C:Bool:=m.nodes.any fun x=>x.kind ==1
def z0n:List z03:=if sizeB m then upto (varF n R m) m.vars.length ++ (upto (msgF n R m) m.msgs.length ++ (upto (z1W n R m) m.grants.length ++ (upto (nodeF n R m tb) m.nodes.length ++ putF (z1C m) 7 (-1)))) else[(7, -1)]
end
def wellM (m:ModelT) (tb:NodeT->Bool):List z03:=if makeE m.labels m.order= 0 then z0n m.labels.toNat (ordOf m.labels.toNat m.order) m tb else[(1, -1)]
theorem z5I (n:Nat) (R:Rel) (m:ModelT) (i:Nat):(varF n R m i).length<=1:=by unfold varF;split;exact Nat.zero_le _;exact z2W _ _ _
theorem z5y (n:Nat) (R:Rel) (m:ModelT) (i:Nat):(msgF n R m i).length<=1:=by unfold msgF;split;exact Nat.zero_le _;exact z2W _ _ _
theorem z62 (n:Nat) (R:Rel) (m:ModelT) (i:Nat):(z1W n R m i).length<=1:=by unfold z1W;split;exact Nat.zero_le _;exact z2W _ _ _
theorem z7A (n:Nat) (R:Rel) (m:ModelT) (tb:NodeT->Bool) (i:Nat):(nodeF n R m tb i).length<=1:=by unfold nodeF;split;exact Nat.zero_le _;split;exact z2W _ _ _;exact Nat.le_refl _
structure CkStep (cb:Nat) (w w':World) (lv lv':Value):Prop where
 os:w'.os= w.os
 tape:w'.tape= w.tape
 output:w'.output= w.output
 size:w.heap.size<=w'.heap.size
 block:∀ b,b < w.heap.size->b≠cb->some b≠lv.ownBlock->w'.heap[b]?= w.heap[b]?
 next:lv'.ownBlock= lv.ownBlock\/∃ g,lv'.ownBlock= some g/\w.heap.size<=g
section
variable {cb:Nat} {w w1 w':World} {lv lv1 lv':Value}
theorem CkStep.refl (cb:Nat) (w:World) (lv:Value):CkStep cb w w lv lv:=⟨rfl,rfl,rfl,Nat.le_refl _,fun _ _ _ _=>rfl,.inl rfl⟩
theorem CkStep.trans (h:CkStep cb w w1 lv lv1) (k:CkStep cb w1 w' lv1 lv'):CkStep cb w w' lv lv':=by
 refine⟨k.os.trans h.os,k.tape.trans h.tape,k.output.trans h.output,Nat.le_trans h.size k.size,fun b h1 h2 h3=>(k.block b (Nat.lt_of_lt_of_le h1 h.size) h2 ?_).trans (h.block b h1 h2 h3),?_⟩
 ·rcases h.next with e|⟨g,e,A⟩
  ·rw[e];exact h3
  ·rw[e];intro e2;injection e2 with e2;omega
 ·rcases k.next with e|⟨g,e,A⟩
  ·rcases h.next with e2|⟨g,e2,A⟩
   ·exact .inl (e.trans e2)
   ·exact .inr ⟨g,e.trans e2,A⟩
  ·exact .inr ⟨g,e,Nat.le_trans h.size A⟩
theorem CkStep.of (hb:Below w.heap.size w w') (cb:Nat) (lv:Value):CkStep cb w w' lv lv:=⟨hb.os,hb.tape,hb.output,hb.size,fun b h _ _=>hb.block b h,.inl rfl⟩
theorem CkStep.below (h:CkStep cb w w' lv lv') (hlv:lv.ownBlock= none) {B:Nat} (hB:B<=cb) (hw:B<=w.heap.size):Below B w w':=
 ⟨h.os,h.tape,h.output,h.size,fun b hb=>h.block b (by omega) (by omega) (by rw[hlv];intro e;cases e)⟩
end
structure Ck (TC TF:TypeId) (W u:World) (cb:Nat) (mp lp lv:Value) (L:List z03):Prop where
 box:u.heap[cb]?= some (.cells ⟨[mp,lp,lv]⟩ TC (0,0))
 own:OwnSl TF 2 encF u W.heap.size lv L
 step:CkStep cb W u (.slice none 0 0) lv
 lt:cb < W.heap.size
section
variable {TC TF:TypeId} {W u u':World} {cb:Nat} {mp lp lv:Value} {L:List z03}
theorem Ck.on (h:Ck TC TF W u cb mp lp lv L) (hb:Below u.heap.size u u'):Ck TC TF W u' cb mp lp lv L:=
 ⟨(hb.block _ (Nat.lt_of_lt_of_le h.lt h.step.size)).trans h.box,h.own.below hb,h.step.trans (CkStep.of hb cb lv),h.lt⟩
theorem Ck.below (h:Ck TC TF W u cb mp lp lv L) {B:Nat} (hB:B<=cb):Below B W u:=h.step.below rfl hB (Nat.le_trans hB (Nat.le_of_lt h.lt))
end
end
section
open Go Go.RowKit P
theorem z2X {ok:Bool} {r a:Int} (h:putF ok r a=[]):ok= true:=by
 unfold putF at h;split at h
 ·assumption
 ·cases h
theorem z30 {g:Nat->List z03} {j:Nat} (h:upto g j=[]):∀ i,i < j->g i=[]:=fun i hi=>by
 unfold upto at h
 rw[List.flatMap_eq_nil_iff] at h
 exact h i (List.mem_range.2 hi)
structure WellOk (m:ModelT) (tb:NodeT->Bool):Prop where
 make:makeE m.labels m.order= 0
 size:sizeB m= true
 vars:∀ (i:Nat) v,m.vars[i]?= some v->varB m.labels.toNat (ordOf m.labels.toNat m.order) m i v= true
 msgs:∀ (i:Nat) v,m.msgs[i]?= some v->msgB m.labels.toNat (ordOf m.labels.toNat m.order) m i v= true
 grants:∀ (i:Nat) g,m.grants[i]?= some g->lqI m.labels.toNat (ordOf m.labels.toNat m.order) g.1 g.1= true/\lqI m.labels.toNat (ordOf m.labels.toNat m.order) g.2 g.2= true
 shape:∀ (i:Nat) x,m.nodes[i]?= some x->z0K m.labels.toNat (ordOf m.labels.toNat m.order) m x= true
 typed:∀ (i:Nat) x,m.nodes[i]?= some x->tb x= true
 start:z1C m= true
theorem zfD {m:ModelT} {tb:NodeT->Bool} (h:wellM m tb=[]):WellOk m tb:=by
 unfold wellM at h;split at h
 ·rename_i h0
  unfold z0n at h;split at h
  ·rename_i hs
   rw[List.append_eq_nil_iff,List.append_eq_nil_iff,List.append_eq_nil_iff,List.append_eq_nil_iff] at h;obtain⟨h1,h2,h3,h4,h5⟩:=h;refine⟨h0,hs,fun i v hv=> ?_,fun i v hv=> ?_,fun i g hg=> ?_,fun i x hx=> ?_,fun i x hx=> ?_,z2X h5⟩
   ·have:=z30 h1 i (List.getElem?_eq_some_iff.1 hv).1
    unfold varF at this;rw[hv] at this;exact z2X this
   ·have:=z30 h2 i (List.getElem?_eq_some_iff.1 hv).1
    unfold msgF at this;rw[hv] at this;exact z2X this
   ·have:=z30 h3 i (List.getElem?_eq_some_iff.1 hg).1
    unfold z1W at this;rw[hg] at this;have:=z2X this;rwa [Bool.and_eq_true] at this
   ·have:=z30 h4 i (List.getElem?_eq_some_iff.1 hx).1
    unfold nodeF at this;rw[hx] at this;simp only at this;split at this
    ·assumption
    ·cases this
   ·have:=z30 h4 i (List.getElem?_eq_some_iff.1 hx).1
    unfold nodeF at this;rw[hx] at this;simp only at this;split at this
    ·exact z2X this
    ·cases this
  ·cases h
 ·cases h
end
end Go.Proofs.YtpmjcbjdcjjplaaGreatDoor
