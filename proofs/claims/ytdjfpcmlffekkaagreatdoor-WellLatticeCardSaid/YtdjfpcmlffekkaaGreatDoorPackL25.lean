/- Parts of a proof: WellP, WellLatP. -/
import Derived.Test.YtdjfpcmlffekkaaGreatDoorPackL4
import Derived.Test.YtdjfpcmlffekkaaGreatDoorPackL10
import Derived.Test.YtdjfpcmlffekkaaGreatDoorPackL12
import Derived.Test.YtdjfpcmlffekkaaGreatDoorPackL17
import Derived.Test.YtdjfpcmlffekkaaGreatDoorPackL24
set_option maxHeartbeats 8000000
set_option maxRecDepth 100000
set_option linter.unusedVariables false
set_option linter.unusedSimpArgs false
namespace Go.Proofs.YtdjfpcmlffekkaaGreatDoor
section
open Go Go.RowKit P
abbrev zT:=Int × Int
def encF (f:zT):List Value:=[.int .i64 f.1,.int .i64 f.2]
theorem z3m (f:zT):(encF f).length= 2:=rfl
theorem zd1 (f:zT):∀ v∈encF f,v.oneCell'= true:=by
 intro v hv
 simp only[encF,List.mem_cons,List.not_mem_nil,or_false] at hv
 rcases hv with rfl|rfl<;>rfl
def putF (ok:Bool) (r a:Int):List zT:=if ok then[] else[(r,a)]
def upto (f:Nat->List zT) (j:Nat):List zT:=(List.range j).flatMap f
theorem z2K (f:Nat->List zT):upto f 0=[]:=rfl
theorem z21 (f:Nat->List zT) (j:Nat):upto f (j+1)= upto f j ++ f j:=by
 unfold upto
 rw[List.range_succ,List.flatMap_append]
 simp
theorem z0A {f:Nat->List zT} (h:∀ i,(f i).length<=1):∀ j,(upto f j).length<=j
 |0=>Nat.le_refl _
 |j+1=>by
  rw[z21,List.length_append]
  have:=z0A h j
  have:=h j
  omega
theorem z2w (ok:Bool) (r a:Int):(putF ok r a).length<=1:=by unfold putF;split<;>simp
mutual
def z0E:TT->Bool
 | .mk k _ its=> !(k ==7) && z0g its
def z0g:List TT->Bool
 |[]=>true
 |a::l=>z0E a && z0g l
end
theorem z7s {l:List TT} {j:Nat} {x:TT} (h:l[j]?= some x):z0g (l.drop j)=(z0E x && z0g (l.drop (j+1))):=by
 obtain⟨h1,h2⟩:=List.getElem?_eq_some_iff.1 h
 rw[List.drop_eq_getElem_cons h1,h2,z0g]
theorem z8M {l:List TT}:z0g (l.drop l.length)= true:=by rw[List.drop_length,z0g]
def z0j (t:TT):Bool:=typeT t && z0E t
def nameW (s:ByteArray):Bool:=nameB s && !wordB s
def cntN (l:List (List UInt8)) (s:List UInt8):Nat:=l.countP (· ==s)
theorem z1A (l:List (List UInt8)) (a s:List UInt8):cntN (l ++ [a]) s= cntN l s+if a= s then 1 else 0:=by
 unfold cntN
 rw[List.countP_append]
 simp[List.countP_cons]
theorem z8Z (l:List (List UInt8)) (s:List UInt8):cntN l s<=l.length:=List.countP_le_length
section
variable (n:Nat) (R:Rel) (m:ModelT)
def varB (i:Nat) (v:VarT):Bool:=decide (cntN ((m.vars.take (i+1)).map (·.name.data.toList)) v.name.data.toList= 1) && (nameW v.name && (lqI n R v.label v.label && (z0j v.type && fitT v.init v.type)))
def msgB (i:Nat) (v:MsgT):Bool:=decide (cntN ((m.msgs.take (i+1)).map (·.name.data.toList)) v.name.data.toList= 1) && (nameW v.name && (lqI n R v.label v.label && (z0j v.key && z0j v.body)))
def varF (i:Nat):List zT:=match m.vars[i]? with|none=>[]|some v=>putF (varB n R m i v) 2 i
def msgF (i:Nat):List zT:=match m.msgs[i]? with|none=>[]|some v=>putF (msgB n R m i v) 3 i
def z0J (i:Nat):List zT:=match m.grants[i]? with|none=>[]|some g=>putF (lqI n R g.1 g.1 && lqI n R g.2 g.2) 4 i
end
structure Need where
 least:Int
 most:Int
 conds:Bool
 expr:Bool
 body:Bool
 v:Bool
 msg:Bool
 catch_:Bool
 wait:Int
def z1j (k:Int):Option Need:=
 if k= 2\/k= 13 then some ⟨0,0,false,false,false,false,false,false,0⟩
 else if k= 11 then some ⟨2,2,false,true,false,true,true,true,2⟩
 else if k= 9 then some ⟨1,1,false,true,false,true,true,true,0⟩
 else if k= 3 then some ⟨1,1,false,true,false,true,false,true,0⟩
 else if k= 4\/k= 5 then some ⟨2,6,true,false,false,false,false,true,0⟩
 else if k= 6 then some ⟨1,6,false,false,false,false,false,false,0⟩
 else if k= 7 then some ⟨1,1,false,false,false,true,false,true,1⟩
 else if k= 8 then some ⟨1,1,false,false,false,false,false,false,2⟩
 else if k= 10 then some ⟨1,1,false,true,true,false,true,true,0⟩
 else if k= 12 then some ⟨1,1,false,true,true,true,false,false,0⟩
 else if k= 1 then some ⟨1,1,false,false,false,false,false,false,0⟩
 else none
def encNd (d:Need):List Value:=[.int .i64 d.least,.int .i64 d.most,.bool d.conds,.bool d.expr,.bool d.body,.bool d.v,.bool d.msg,.bool d.catch_,.int .i64 d.wait]
def vz:VT:= .mk 0 0 0 ⟨#[]⟩ [] []
def ez:ET:= .mk 0 ⟨#[]⟩ vz [] []
def kE:ET->Int| .mk k _ _ _ _=>k
def valE:ET->VT| .mk _ _ v _ _=>v
def z0Q (x:ET) (must:Bool):Bool:=if must then !(kE x ==0) else sameE x ez && z0i (.mk 2 ⟨#[120]⟩ (valE x) [] [])
def numB (n:Int) (must:Bool) (most:Int):Bool:=if must then decide (0<=n) && decide (n < most) else n == -1
def wayB (nodes:List NodeT) (z:Int):Bool:=decide (0<=z) && (decide (z < nodes.length) && match nodes[z.toNat]? with|some y=> !(y.kind ==1)|none=>false)
def waysB (nodes:List NodeT) (x:NodeT) (d:Need):Bool:=
 (decide (d.least<=x.next.length) && decide ((x.next.length:Int)<=d.most)) &&
 ((if d.conds then decide ((x.conds.length:Int)<=5) && ((x.next.length:Int) ==x.conds.length+1) else(x.conds.length:Int) ==0) &&
 (x.next.all (wayB nodes) && (x.catch_ == -1 ||(d.catch_ && wayB nodes x.catch_))))
def z2T (x:NodeT) (d:Need):Bool:=
 decide (0<=x.wait) && (decide (x.wait<=1000) && (if x.kind= 7 then(decide (0 < x.wait) ==decide (0<=x.catch_)) else(decide (0 < x.wait) ==(d.wait ==2))))
section
variable (n:Nat) (R:Rel) (m:ModelT)
def fromB (x:NodeT):Bool:=if x.kind= 12 then lqI n R x.from_ x.from_ else x.from_ ==0
def z0S (x:NodeT):Bool:=match z1j x.kind with
 |none=>false
 |some d=>lqI n R x.label x.label && (waysB m.nodes x d && (z2T x d && (fromB n R x && (z0Q x.expr d.expr && (z0Q x.body d.body && (numB x.var d.v m.vars.length && numB x.msg d.msg m.msgs.length))))))
variable (tb:NodeT->Bool)
def nodeF (i:Nat):List zT:=match m.nodes[i]? with|none=>[]|some x=>if z0S n R m x then putF (tb x) 6 i else[(5,i)]
def sizeB:Bool:=decide (m.vars.length<=16) && (decide (m.msgs.length<=8) && (decide (m.grants.length<=64) && (decide (1<=m.nodes.length) && decide (m.nodes.length<=40))))
def z10:Bool:=m.nodes.any fun x=>x.kind ==1
def z0f:List zT:=if sizeB m then upto (varF n R m) m.vars.length ++ (upto (msgF n R m) m.msgs.length ++ (upto (z0J n R m) m.grants.length ++ (upto (nodeF n R m tb) m.nodes.length ++ putF (z10 m) 7 (-1)))) else[(7, -1)]
end
def wellM (m:ModelT) (tb:NodeT->Bool):List zT:=if makeE m.labels m.order= 0 then z0f m.labels.toNat (ordOf m.labels.toNat m.order) m tb else[(1, -1)]
theorem z56 (n:Nat) (R:Rel) (m:ModelT) (i:Nat):(varF n R m i).length<=1:=by unfold varF;split;exact Nat.zero_le _;exact z2w _ _ _
theorem z4O (n:Nat) (R:Rel) (m:ModelT) (i:Nat):(msgF n R m i).length<=1:=by unfold msgF;split;exact Nat.zero_le _;exact z2w _ _ _
theorem z5k (n:Nat) (R:Rel) (m:ModelT) (i:Nat):(z0J n R m i).length<=1:=by unfold z0J;split;exact Nat.zero_le _;exact z2w _ _ _
theorem z6N (n:Nat) (R:Rel) (m:ModelT) (tb:NodeT->Bool) (i:Nat):(nodeF n R m tb i).length<=1:=by unfold nodeF;split;exact Nat.zero_le _;split;exact z2w _ _ _;exact Nat.le_refl _
structure CkStep (cb:Nat) (w w':World) (lv lv':Value):Prop where
 os:w'.os= w.os
 tape:w'.tape= w.tape
 output:w'.output= w.output
 size:w.heap.size<=w'.heap.size
 block:∀ b,b < w.heap.size->b≠cb->some b≠lv.ownBlock->w'.heap[b]?= w.heap[b]?
 next:lv'.ownBlock= lv.ownBlock\/∃ g,lv'.ownBlock= some g/\w.heap.size<=g
section
variable {cb:Nat} {w w1 w':World} {lv lv1 lv':Value}
theorem CkStep.refl (cb:Nat) (w:World) (lv:Value):CkStep cb w w lv lv:=⟨rfl,rfl,rfl,Nat.le_refl _,fun _ _ _ _=>rfl,.inl rfl⟩
theorem CkStep.trans (h:CkStep cb w w1 lv lv1) (k:CkStep cb w1 w' lv1 lv'):CkStep cb w w' lv lv':=by
 refine⟨k.os.trans h.os,k.tape.trans h.tape,k.output.trans h.output,Nat.le_trans h.size k.size,fun b h1 h2 h3=>(k.block b (Nat.lt_of_lt_of_le h1 h.size) h2 ?_).trans (h.block b h1 h2 h3),?_⟩
 ·rcases h.next with e|⟨g,e,hg⟩
  ·rw[e];exact h3
  ·rw[e];intro e2;injection e2 with e2;omega
 ·rcases k.next with e|⟨g,e,hg⟩
  ·rcases h.next with e2|⟨g,e2,hg⟩
   ·exact .inl (e.trans e2)
   ·exact .inr ⟨g,e.trans e2,hg⟩
  ·exact .inr ⟨g,e,Nat.le_trans h.size hg⟩
theorem CkStep.of (hb:Below w.heap.size w w') (cb:Nat) (lv:Value):CkStep cb w w' lv lv:=⟨hb.os,hb.tape,hb.output,hb.size,fun b h _ _=>hb.block b h,.inl rfl⟩
theorem CkStep.below (h:CkStep cb w w' lv lv') (hlv:lv.ownBlock= none) {B:Nat} (hB:B<=cb) (hw:B<=w.heap.size):Below B w w':=
 ⟨h.os,h.tape,h.output,h.size,fun b hb=>h.block b (by omega) (by omega) (by rw[hlv];intro e;cases e)⟩
end
structure Ck (TC TF:TypeId) (W u:World) (cb:Nat) (mp lp lv:Value) (L:List zT):Prop where
 box:u.heap[cb]?= some (.cells ⟨[mp,lp,lv]⟩ TC (0,0))
 own:OwnSl TF 2 encF u W.heap.size lv L
 step:CkStep cb W u (.slice none 0 0) lv
 lt:cb < W.heap.size
section
variable {TC TF:TypeId} {W u u':World} {cb:Nat} {mp lp lv:Value} {L:List zT}
theorem Ck.on (h:Ck TC TF W u cb mp lp lv L) (hb:Below u.heap.size u u'):Ck TC TF W u' cb mp lp lv L:=
 ⟨(hb.block _ (Nat.lt_of_lt_of_le h.lt h.step.size)).trans h.box,h.own.below hb,h.step.trans (CkStep.of hb cb lv),h.lt⟩
theorem Ck.below (h:Ck TC TF W u cb mp lp lv L) {B:Nat} (hB:B<=cb):Below B W u:=h.step.below rfl hB (Nat.le_trans hB (Nat.le_of_lt h.lt))
end
end
section
open Go Go.RowKit P
theorem z2s {ok:Bool} {r a:Int} {f:zT} (h:f∈putF ok r a):f=(r,a)/\ok= false:=by
 unfold putF at h
 split at h
 ·cases h
 ·rename_i h2
  exact⟨by simpa using h,by simpa using h2⟩
theorem z3j {g:Nat->List zT} {P:zT->Prop} (h:∀ i,∀ f∈g i,P f) (j:Nat):∀ f∈upto g j,P f:=by
 intro f hf
 obtain⟨i,_,hi⟩:=List.mem_flatMap.1 hf
 exact h i f hi
section
variable (n:Nat) (R:Rel) (m:ModelT) (tb:NodeT->Bool)
theorem zc1 (i:Nat):∀ f∈varF n R m i,2<=f.1/\f.1<=6:=by
 intro f hf
 unfold varF at hf
 split at hf
 ·cases hf
 ·rw[(z2s hf).1];constructor<;>dsimp only<;>omega
theorem zck (i:Nat):∀ f∈msgF n R m i,2<=f.1/\f.1<=6:=by
 intro f hf
 unfold msgF at hf
 split at hf
 ·cases hf
 ·rw[(z2s hf).1];constructor<;>dsimp only<;>omega
theorem z8U (i:Nat):∀ f∈z0J n R m i,2<=f.1/\f.1<=6:=by
 intro f hf
 unfold z0J at hf
 split at hf
 ·cases hf
 ·rw[(z2s hf).1];constructor<;>dsimp only<;>omega
theorem z9L (i:Nat):∀ f∈nodeF n R m tb i,2<=f.1/\f.1<=6:=by
 intro f hf
 unfold nodeF at hf
 split at hf
 ·cases hf
 ·split at hf
  ·rw[(z2s hf).1];constructor<;>dsimp only<;>omega
  ·rw[List.mem_singleton.1 hf];constructor<;>dsimp only<;>omega
end
theorem zay {m:ModelT} {tb:NodeT->Bool} (h:makeE m.labels m.order= 0):∀ (i:Nat) f,(wellM m tb)[i]?= some f->2<=f.1/\f.1<=7/\(0 < i->f.1= 7->i+1=(wellM m tb).length):=by
 intro i f hf
 unfold wellM at hf ⊢
 rw[if_pos h] at hf ⊢
 generalize m.labels.toNat= k at*
 generalize ordOf k m.order= R at*
 unfold z0f at hf ⊢
 split at hf
 ·rw[if_pos (by assumption)]
  have hA:∀ f∈upto (varF k R m) m.vars.length ++ (upto (msgF k R m) m.msgs.length ++ (upto (z0J k R m) m.grants.length ++ upto (nodeF k R m tb) m.nodes.length)),2<=f.1/\f.1<=6:=by
   intro f hf
   rcases List.mem_append.1 hf with hf|hf
   ·exact z3j (zc1 k R m) _ f hf
   rcases List.mem_append.1 hf with hf|hf
   ·exact z3j (zck k R m) _ f hf
   rcases List.mem_append.1 hf with hf|hf
   ·exact z3j (z8U k R m) _ f hf
   ·exact z3j (z9L k R m tb) _ f hf
  have he:upto (varF k R m) m.vars.length ++ (upto (msgF k R m) m.msgs.length ++ (upto (z0J k R m) m.grants.length ++ (upto (nodeF k R m tb) m.nodes.length ++ putF (z10 m) 7 (-1)))) =
    (upto (varF k R m) m.vars.length ++ (upto (msgF k R m) m.msgs.length ++ (upto (z0J k R m) m.grants.length ++ upto (nodeF k R m tb) m.nodes.length))) ++ putF (z10 m) 7 (-1):=by simp only[List.append_assoc]
  rw[he] at hf ⊢
  generalize upto (varF k R m) m.vars.length ++ (upto (msgF k R m) m.msgs.length ++ (upto (z0J k R m) m.grants.length ++ upto (nodeF k R m tb) m.nodes.length))= A at*
  rcases Nat.lt_or_ge i A.length with hi|hi
  ·rw[List.getElem?_append_left hi] at hf
   have:=hA f (List.mem_of_getElem? hf)
   exact⟨this.1,by omega,fun _ h7=>by omega⟩
  ·rw[List.getElem?_append_right hi] at hf
   have hm:=z2s (List.mem_of_getElem? hf)
   have hp:putF (z10 m) 7 (-1)=[(7, -1)]:=by unfold putF;rw[hm.2];rfl
   rw[hp] at hf ⊢
   have:=(List.getElem?_eq_some_iff.1 hf).1
   rw[hm.1]
   exact⟨by dsimp only;omega,by dsimp only;omega,fun _ _=>by rw[List.length_append];simp at this ⊢;omega⟩
 ·rw[if_neg (by assumption)]
  have:=(List.getElem?_eq_some_iff.1 hf).1
  obtain rfl:i= 0:=by simpa using this
  simp at hf
  subst hf
  exact⟨by dsimp only;omega,by dsimp only;omega,fun h=>absurd h (by omega)⟩
theorem z9W {m:ModelT} {tb:NodeT->Bool} (h:makeE m.labels m.order≠0):wellM m tb=[(1, -1)]:=by unfold wellM;rw[if_neg h]
end
end Go.Proofs.YtdjfpcmlffekkaaGreatDoor
