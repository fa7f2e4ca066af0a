/- Parts of a proof: WellP. -/
import Derived.Test.YtdjfpcmlffekkaaGreatDoorPackG4
import Derived.Test.YtdjfpcmlffekkaaGreatDoorPackG10
import Derived.Test.YtdjfpcmlffekkaaGreatDoorPackG12
import Derived.Test.YtdjfpcmlffekkaaGreatDoorPackG17
import Derived.Test.YtdjfpcmlffekkaaGreatDoorPackG24
set_option maxHeartbeats 8000000
set_option maxRecDepth 100000
set_option linter.unusedVariables false
set_option linter.unusedSimpArgs false
namespace Go.Proofs.YtdjfpcmlffekkaaGreatDoor
open Go Go.RowKit P
abbrev z00:=Int × Int
def encF (f:z00):List Value:=[.int .i64 f.1,.int .i64 f.2]
theorem z78 (f:z00):(encF f).length= 2:=rfl
theorem zcB (f:z00):∀ v∈encF f,v.oneCell'= true:=by
 intro v hv;simp only[encF,List.mem_cons,List.not_mem_nil,or_false] at hv;rcases hv with rfl|rfl<;>rfl
def putF (ok:Bool) (r a:Int):List z00:=if ok then[] else[(r,a)]
def upto (f:Nat->List z00) (j:Nat):List z00:=(List.range j).flatMap f
theorem z2F (f:Nat->List z00):upto f 0=[]:=rfl
theorem z21 (f:Nat->List z00) (j:Nat):upto f (j+1)= upto f j ++ f j:=by
 unfold upto;rw[List.range_succ,List.flatMap_append];simp
theorem z1j {f:Nat->List z00} (h:∀ i,(f i).length<=1):∀ j,(upto f j).length<=j
 |0=>Nat.le_refl _
 |j+1=>by
  rw[z21,List.length_append]
  have:=z1j h j
  have:=h j
  omega
theorem z38 (ok:Bool) (r a:Int):(putF ok r a).length<=1:=by unfold putF;split<;>simp
mutual
def zZ:TT->Bool
 | .mk k _ its=> !(k ==7) && z07 its
def z07:List TT->Bool
 |[]=>true
 |a::l=>zZ a && z07 l
end
theorem z7g {l:List TT} {j:Nat} {x:TT} (h:l[j]?= some x):z07 (l.drop j)=(zZ x && z07 (l.drop (j+1))):=by
 obtain⟨h1,h2⟩:=List.getElem?_eq_some_iff.1 h;rw[List.drop_eq_getElem_cons h1,h2,z07]
theorem z8i {l:List TT}:z07 (l.drop l.length)= true:=by rw[List.drop_length,z07]
def z08 (t:TT):Bool:=typeT t && zZ t
def nameW (s:ByteArray):Bool:=nameB s && !wordB s
def cntN (l:List (List UInt8)) (s:List UInt8):Nat:=l.countP (· ==s)
theorem z1l (l:List (List UInt8)) (a s:List UInt8):cntN (l ++ [a]) s= cntN l s+if a= s then 1 else 0:=by
 unfold cntN;rw[List.countP_append];simp[List.countP_cons]
theorem z8E (l:List (List UInt8)) (s:List UInt8):cntN l s<=l.length:=List.countP_le_length
section
variable (n:Nat) (R:Rel) (m:ModelT)
def varB (i:Nat) (v:VarT):Bool:=decide (cntN ((m.vars.take (i+1)).map (·.name.data.toList)) v.name.data.toList= 1) && (nameW v.name && (lqI n R v.label v.label && (z08 v.type && fitT v.init v.type)))
def msgB (i:Nat) (v:MsgT):Bool:=decide (cntN ((m.msgs.take (i+1)).map (·.name.data.toList)) v.name.data.toList= 1) && (nameW v.name && (lqI n R v.label v.label && (z08 v.key && z08 v.body)))
def varF (i:Nat):List z00:=match m.vars[i]? with|none=>[]|some v=>putF (varB n R m i v) 2 i
def msgF (i:Nat):List z00:=match m.msgs[i]? with|none=>[]|some v=>putF (msgB n R m i v) 3 i
def z1R (i:Nat):List z00:=match m.grants[i]? with|none=>[]|some g=>putF (lqI n R g.1 g.1 && lqI n R g.2 g.2) 4 i
end
structure Need where
 least:Int
 most:Int
 conds:Bool
 expr:Bool
 body:Bool
 v:Bool
 msg:Bool
 catch_:Bool
 wait:Int
def z1e (k:Int):Option Need:=
 if k= 2\/k= 13 then some ⟨0,0,false,false,false,false,false,false,0⟩
 else if k= 11 then some ⟨2,2,false,true,false,true,true,true,2⟩
 else if k= 9 then some ⟨1,1,false,true,false,true,true,true,0⟩
 else if k= 3 then some ⟨1,1,false,true,false,true,false,true,0⟩
 else if k= 4\/k= 5 then some ⟨2,6,true,false,false,false,false,true,0⟩
 else if k= 6 then some ⟨1,6,false,false,false,false,false,false,0⟩
 else if k= 7 then some ⟨1,1,false,false,false,true,false,true,1⟩
 else if k= 8 then some ⟨1,1,false,false,false,false,false,false,2⟩
 else if k= 10 then some ⟨1,1,false,true,true,false,true,true,0⟩
 else if k= 12 then some ⟨1,1,false,true,true,true,false,false,0⟩
 else if k= 1 then some ⟨1,1,false,false,false,false,false,false,0⟩
 else none
def encNd (d:Need):List Value:=[.int .i64 d.least,.int .i64 d.most,.bool d.conds,.bool d.expr,.bool d.body,.bool d.v,.bool d.msg,.bool d.catch_,.int .i64 d.wait]
def vz:VT:= .mk 0 0 0 ⟨#[]⟩ [] []
def ez:ET:= .mk 0 ⟨#[]⟩ vz [] []
def kE:ET->Int| .mk k _ _ _ _=>k
def valE:ET->VT| .mk _ _ v _ _=>v
def z0P (x:ET) (must:Bool):Bool:=if must then !(kE x ==0) else sameE x ez && z0n (.mk 2 ⟨#[120]⟩ (valE x) [] [])
def numB (n:Int) (must:Bool) (most:Int):Bool:=if must then decide (0<=n) && decide (n < most) else n == -1
def wayB (nodes:List NodeT) (z:Int):Bool:=decide (0<=z) && (decide (z < nodes.length) && match nodes[z.toNat]? with|some y=> !(y.kind ==1)|none=>false)
def waysB (nodes:List NodeT) (x:NodeT) (d:Need):Bool:=
 (decide (d.least<=x.next.length) && decide ((x.next.length:Int)<=d.most)) &&
 ((if d.conds then decide ((x.conds.length:Int)<=5) && ((x.next.length:Int) ==x.conds.length+1) else(x.conds.length:Int) ==0) &&
 (x.next.all (wayB nodes) && (x.catch_ == -1 ||(d.catch_ && wayB nodes x.catch_))))
def z2O (x:NodeT) (d:Need):Bool:=
 decide (0<=x.wait) && (decide (x.wait<=1000) && (if x.kind= 7 then(decide (0 < x.wait) ==decide (0<=x.catch_)) else(decide (0 < x.wait) ==(d.wait ==2))))
section
variable (n:Nat) (R:Rel) (m:ModelT)
def fromB (x:NodeT):Bool:=if x.kind= 12 then lqI n R x.from_ x.from_ else x.from_ ==0
def z0O (x:NodeT):Bool:=match z1e x.kind with
 |none=>false
 |some d=>lqI n R x.label x.label && (waysB m.nodes x d && (z2O x d && (fromB n R x && (z0P x.expr d.expr && (z0P x.body d.body && (numB x.var d.v m.vars.length && numB x.msg d.msg m.msgs.length))))))
variable (tb:NodeT->Bool)
def nodeF (i:Nat):List z00:=match m.nodes[i]? with|none=>[]|some x=>if z0O n R m x then putF (tb x) 6 i else[(5,i)]
def sizeB:Bool:=decide (m.vars.length<=16) && (decide (m.msgs.length<=8) && (decide (m.grants.length<=64) && (decide (1<=m.nodes.length) && decide (m.nodes.length<=40))))
def z1X:Bool:=m.nodes.any fun x=>x.kind ==1
def z0w:List z00:=if sizeB m then upto (varF n R m) m.vars.length ++ (upto (msgF n R m) m.msgs.length ++ (upto (z1R n R m) m.grants.length ++ (upto (nodeF n R m tb) m.nodes.length ++ putF (z1X m) 7 (-1)))) else[(7, -1)]
end
def wellM (m:ModelT) (tb:NodeT->Bool):List z00:=if makeE m.labels m.order= 0 then z0w m.labels.toNat (ordOf m.labels.toNat m.order) m tb else[(1, -1)]
theorem z7Y (n:Nat) (R:Rel) (m:ModelT) (i:Nat):(varF n R m i).length<=1:=by unfold varF;split;exact Nat.zero_le _;exact z38 _ _ _
theorem z7w (n:Nat) (R:Rel) (m:ModelT) (i:Nat):(msgF n R m i).length<=1:=by unfold msgF;split;exact Nat.zero_le _;exact z38 _ _ _
theorem z9m (n:Nat) (R:Rel) (m:ModelT) (i:Nat):(z1R n R m i).length<=1:=by unfold z1R;split;exact Nat.zero_le _;exact z38 _ _ _
theorem zb1 (n:Nat) (R:Rel) (m:ModelT) (tb:NodeT->Bool) (i:Nat):(nodeF n R m tb i).length<=1:=by unfold nodeF;split;exact Nat.zero_le _;split;exact z38 _ _ _;exact Nat.le_refl _
structure CkStep (cb:Nat) (w w':World) (lv lv':Value):Prop where
 os:w'.os= w.os
 tape:w'.tape= w.tape
 output:w'.output= w.output
 size:w.heap.size<=w'.heap.size
 block:∀ b,b < w.heap.size->b≠cb->some b≠lv.ownBlock->w'.heap[b]?= w.heap[b]?
 next:lv'.ownBlock= lv.ownBlock\/∃ g,lv'.ownBlock= some g/\w.heap.size<=g
section
variable {cb:Nat} {w w1 w':World} {lv lv1 lv':Value}
theorem CkStep.refl (cb:Nat) (w:World) (lv:Value):CkStep cb w w lv lv:=⟨rfl,rfl,rfl,Nat.le_refl _,fun _ _ _ _=>rfl,.inl rfl⟩
theorem CkStep.trans (h:CkStep cb w w1 lv lv1) (k:CkStep cb w1 w' lv1 lv'):CkStep cb w w' lv lv':=by
 refine⟨k.os.trans h.os,k.tape.trans h.tape,k.output.trans h.output,Nat.le_trans h.size k.size,fun b h1 h2 h3=>(k.block b (Nat.lt_of_lt_of_le h1 h.size) h2 ?_).trans (h.block b h1 h2 h3),?_⟩
 ·rcases h.next with e|⟨g,e,A⟩
  ·rw[e];exact h3
  ·rw[e];intro e2;injection e2 with e2;omega
 ·rcases k.next with e|⟨g,e,A⟩
  ·rcases h.next with e2|⟨g,e2,A⟩
   ·exact .inl (e.trans e2)
   ·exact .inr ⟨g,e.trans e2,A⟩
  ·exact .inr ⟨g,e,Nat.le_trans h.size A⟩
theorem CkStep.of (hb:Below w.heap.size w w') (cb:Nat) (lv:Value):CkStep cb w w' lv lv:=⟨hb.os,hb.tape,hb.output,hb.size,fun b h _ _=>hb.block b h,.inl rfl⟩
theorem CkStep.below (h:CkStep cb w w' lv lv') (hlv:lv.ownBlock= none) {B:Nat} (hB:B<=cb) (hw:B<=w.heap.size):Below B w w':=
 ⟨h.os,h.tape,h.output,h.size,fun b hb=>h.block b (by omega) (by omega) (by rw[hlv];intro e;cases e)⟩
end
structure Ck (TC TF:TypeId) (W u:World) (cb:Nat) (mp lp lv:Value) (L:List z00):Prop where
 box:u.heap[cb]?= some (.cells ⟨[mp,lp,lv]⟩ TC (0,0))
 own:OwnSl TF 2 encF u W.heap.size lv L
 step:CkStep cb W u (.slice none 0 0) lv
 lt:cb < W.heap.size
section
variable {TC TF:TypeId} {W u u':World} {cb:Nat} {mp lp lv:Value} {L:List z00}
theorem Ck.on (h:Ck TC TF W u cb mp lp lv L) (hb:Below u.heap.size u u'):Ck TC TF W u' cb mp lp lv L:=
 ⟨(hb.block _ (Nat.lt_of_lt_of_le h.lt h.step.size)).trans h.box,h.own.below hb,h.step.trans (CkStep.of hb cb lv),h.lt⟩
theorem Ck.below (h:Ck TC TF W u cb mp lp lv L) {B:Nat} (hB:B<=cb):Below B W u:=h.step.below rfl hB (Nat.le_trans hB (Nat.le_of_lt h.lt))
end
end Go.Proofs.YtdjfpcmlffekkaaGreatDoor
