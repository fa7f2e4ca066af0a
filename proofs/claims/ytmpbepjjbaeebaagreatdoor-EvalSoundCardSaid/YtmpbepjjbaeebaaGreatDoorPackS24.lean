/- Parts of a proof: Keep, RowG, BoxG. -/
import Derived.Test.YtmpbepjjbaeebaaGreatDoorPackS3
import Derived.Test.YtmpbepjjbaeebaaGreatDoorPackS7
import Derived.Test.YtmpbepjjbaeebaaGreatDoorPackS10
import Derived.Test.YtmpbepjjbaeebaaGreatDoorPackS23
set_option maxHeartbeats 8000000
set_option maxRecDepth 100000
set_option linter.unusedVariables false
set_option linter.unusedSimpArgs false
namespace Go.Proofs.YtmpbepjjbaeebaaGreatDoor
section
open Go Go.RowKit
def Kept (p:Nat->Prop) (w:World) (cs:List Value) (t:VT):Prop:=ValAt (only w p) w.heap.size cs t
theorem Kept.val {p:Nat->Prop} {w:World} {cs:List Value} {t:VT} (h:Kept p w cs t):ValAt w w.heap.size cs t:=ValAt.cells h fun a v hv=>(zu.1 hv).2
theorem Kept.to {p q:Nat->Prop} {w w':World} {cs:List Value} {t:VT} (h:Kept p w cs t) (hb:∀ b,p b->b < w.heap.size->q b/\w'.heap[b]?= w.heap[b]?) (hs:w.heap.size<=w'.heap.size):Kept q w' cs t:=
 (ValAt.cells h (z4k hb)).more hs
abbrev zL:= {ks:List Value // ks.length= 6}
def enc6 (k:zL):List Value:=k.1
theorem z0z (k:zL):(enc6 k).length= 6:=k.2
structure CanInv (TV:TypeId) (W u:World) (v:Value) (l:List VT) (i:Nat) (KL:List zL):Prop where
 own:OwnSl TV 6 enc6 u W.heap.size v KL
 len:KL.length= i
 bel:Below W.heap.size W u
 els:∀ (j:Nat) k x,KL[j]?= some k->l[j]?= some x->Kept (fun b=>W.heap.size<=b/\some b≠v.ownBlock) u k.1 (z00 x)
theorem CanInv.start (TV:TypeId) (W:World) (l:List VT):CanInv TV W W (.slice none 0 0) l 0 []:=⟨OwnSl.nil _ _,rfl,Below.refl _ _,fun j k x hk _=>by cases hk⟩
theorem CanInv.next {TV:TypeId} {W u u5 u6 u7 u8:World} {v v':Value} {l:List VT} {i:Nat} {KL:List zL} (h:CanInv TV W u v l i KL) (h5:Below u.heap.size u u5) (h6:Below u5.heap.size u5 u6) (h7:Below u6.heap.size u6 u7) {k:zL} {x:VT} (hx:l[i]?= some x)
  (hk:Kept (fun b=>u5.heap.size<=b) u6 k.1 (z00 x)) (hown:OwnSl TV 6 enc6 u8 W.heap.size v' (KL ++ [k])) (hg:u7.grownBy u8 v.ownBlock) (hb:v'.ownBlock= v.ownBlock\/v'.ownBlock= some u7.heap.size):
  CanInv TV W u8 v' l (i+1) (KL ++ [k]):=by
 have h57:=h5.trans ((h6.trans (h7.mono h6.size)).mono h5.size)
 have hblk:∀ b,b < u.heap.size->some b≠v.ownBlock->some b≠v'.ownBlock/\u8.heap[b]?= u.heap[b]?:=fun b hlt hne=>by
  have e1:=h57.block b hlt
  have e2:=hg.block b (Nat.lt_of_lt_of_le hlt h57.size) hne
  refine⟨?_,e2.trans e1⟩
  rcases hb with hb|hb
  ·rw[hb];exact hne
  ·rw[hb]
   intro e
   injection e with e
   have:=h57.size
   omega
 have hnew:∀ b,u5.heap.size<=b->b < u6.heap.size->some b≠v'.ownBlock/\u8.heap[b]?= u6.heap[b]?:=fun b hge hlt=>by
  have hne:some b≠v.ownBlock:=fun e=>by
   have:=z0B h.own e.symm
   have:=h5.size
   omega
  have e1:=h7.block b hlt
  have e2:=hg.block b (Nat.lt_of_lt_of_le hlt h7.size) hne
  refine⟨?_,e2.trans e1⟩
  rcases hb with hb|hb
  ·rw[hb];exact hne
  ·rw[hb]
   intro e
   injection e with e
   have:=h7.size
   omega
 have hbase:=h.bel.size
 refine⟨hown,by rw[List.length_append,h.len];rfl,?_,fun j k' y hk' hy=> ?_⟩
 ·refine⟨hg.os.trans (h57.os.trans h.bel.os),hg.tape.trans (h57.tape.trans h.bel.tape),hg.output.trans (h57.output.trans h.bel.output),?_,fun b hlt=> ?_⟩
  ·have:=hg.size
   have:=h57.size
   omega
  ·have hne:some b≠v.ownBlock:=fun e=>by
    have:=h.own.block e.symm
    omega
   exact(hblk b (by omega) hne).2.trans (h.bel.block b hlt)
 ·rcases Nat.lt_or_ge j KL.length with hj|hj
  ·rw[List.getElem?_append_left hj] at hk'
   refine(h.els j k' y hk' hy).to (fun b hp hlt=>⟨⟨hp.1,(hblk b hlt hp.2).1⟩,(hblk b hlt hp.2).2⟩) ?_
   have:=hg.size
   have:=h57.size
   omega
  ·rw[List.getElem?_append_right hj] at hk'
   have hj2:j= KL.length:=by
    have:=(List.getElem?_eq_some_iff.1 hk').1
    simp only[List.length_singleton] at this
    omega
   rw[hj2,Nat.sub_self] at hk'
   injection hk' with hk'
   subst hk'
   have e:y= x:=by
    rw[hj2,h.len,hx] at hy
    injection hy with hy
    exact hy.symm
   subst e
   refine hk.to (fun b hp hlt=>⟨⟨?_,(hnew b hp hlt).1⟩,(hnew b hp hlt).2⟩) ?_
   ·have:=h5.size
    omega
   ·have:=hg.size
    have:=h7.size
    omega
theorem CanInv.row {TV:TypeId} {W u u':World} {v:Value} {l:List VT} {KL:List zL} {B:Nat} (h:CanInv TV W u v l l.length KL) (hl:l.length<=maxLen) (hB:B<=W.heap.size) (hk:∀ b,W.heap.size<=b->b < u.heap.size->u'.heap[b]?= u.heap[b]?) (hs:u.heap.size<=u'.heap.size):
  SlAt (only u' (fun b=>B<=b)) u'.heap.size 6 (ValAt (only u' (fun b=>B<=b)) u'.heap.size) v (z0D l):=by
 have hlen:(z0D l).length= l.length:=z3c l
 refine⟨by rw[hlen];exact Nat.le_trans hl z0X,?_⟩
 rcases h.own.2 with ⟨rfl,h0⟩|⟨g,cap,cur,hv,hg,_,_⟩
 ·rw[h.len] at h0
  exact⟨none,0,by rw[hlen,h0],fun h1=>by omega⟩
 ·refine⟨some ⟨g,0,none⟩,cap,by rw[hv,hlen,h.len],fun _=> ?_⟩
  have hown:v.ownBlock= some g:=by rw[hv];rfl
  have hlt:=z0B h.own hown
  refine⟨g,0,rfl,by omega,fun i x hx=> ?_⟩
  rw[z1o,List.getElem?_map,Option.map_eq_some_iff] at hx
  obtain⟨y,hy,rfl⟩:=hx
  have hi:=(List.getElem?_eq_some_iff.1 hy).1
  have hki:KL[i]?= some (KL[i]'(by rw[h.len];exact hi)):=List.getElem?_eq_getElem _
  refine⟨_,(KL[i]'(by rw[h.len];exact hi)).2,fun j c hc=> ?_,?_⟩
  ·refine zu.2 ⟨?_,?_⟩
   ·show B<=g
    omega
   ·refine(World.cell?_of_block (a:=⟨g,_,none⟩) (hk g hg hlt)).trans ?_
    have:=World.ownsRow.cells h.own hown (i*6+j) c (z0K z0z KL i _ hki j c hc)
    rw[Addr.add_mid] at this
    rw[show 0+i*6+j= 0+ (i*6+j) by omega];exact this
  ·exact(h.els i _ y hki hy).to (fun b hp hb=>⟨Nat.le_trans hB hp.1,hk b hp.1 hb⟩) hs
end
section
open Go Go.RowKit
structure RowInv (TV:TypeId) (W u:World) (v:Value) (vs:List VT) (KL:List zL):Prop where
 own:OwnSl TV 6 enc6 u W.heap.size v KL
 len:KL.length= vs.length
 bel:Below W.heap.size W u
 els:∀ (j:Nat) k x,KL[j]?= some k->vs[j]?= some x->Kept (fun b=>W.heap.size<=b/\some b≠v.ownBlock) u k.1 x
theorem RowInv.start (TV:TypeId) (W:World):RowInv TV W W (.slice none 0 0) [] []:=⟨OwnSl.nil _ _,rfl,Below.refl _ _,fun j k x hk _=>by cases hk⟩
theorem RowInv.next {TV:TypeId} {W u u5 u6 u7 u8:World} {v v':Value} {vs:List VT} {KL:List zL} (h:RowInv TV W u v vs KL) (h5:Below u.heap.size u u5) (h6:Below u5.heap.size u5 u6) (h7:Below u6.heap.size u6 u7) {k:zL} {x:VT}
  (hk:Kept (fun b=>u5.heap.size<=b) u6 k.1 x) (hown:OwnSl TV 6 enc6 u8 W.heap.size v' (KL ++ [k])) (hg:u7.grownBy u8 v.ownBlock) (hb:v'.ownBlock= v.ownBlock\/v'.ownBlock= some u7.heap.size):
  RowInv TV W u8 v' (vs ++ [x]) (KL ++ [k]):=by
 have h57:=h5.trans ((h6.trans (h7.mono h6.size)).mono h5.size)
 have hblk:∀ b,b < u.heap.size->some b≠v.ownBlock->some b≠v'.ownBlock/\u8.heap[b]?= u.heap[b]?:=fun b hlt hne=>by
  have e1:=h57.block b hlt
  have e2:=hg.block b (Nat.lt_of_lt_of_le hlt h57.size) hne
  refine⟨?_,e2.trans e1⟩
  rcases hb with hb|hb
  ·rw[hb];exact hne
  ·rw[hb]
   intro e
   injection e with e
   have:=h57.size
   omega
 have hnew:∀ b,u5.heap.size<=b->b < u6.heap.size->some b≠v'.ownBlock/\u8.heap[b]?= u6.heap[b]?:=fun b hge hlt=>by
  have hne:some b≠v.ownBlock:=fun e=>by
   have:=z0B h.own e.symm
   have:=h5.size
   omega
  have e1:=h7.block b hlt
  have e2:=hg.block b (Nat.lt_of_lt_of_le hlt h7.size) hne
  refine⟨?_,e2.trans e1⟩
  rcases hb with hb|hb
  ·rw[hb];exact hne
  ·rw[hb]
   intro e
   injection e with e
   have:=h7.size
   omega
 have hbase:=h.bel.size
 refine⟨hown,by rw[List.length_append,List.length_append,h.len];rfl,?_,fun j k' y hk' hy=> ?_⟩
 ·refine⟨hg.os.trans (h57.os.trans h.bel.os),hg.tape.trans (h57.tape.trans h.bel.tape),hg.output.trans (h57.output.trans h.bel.output),?_,fun b hlt=> ?_⟩
  ·have:=hg.size
   have:=h57.size
   omega
  ·have hne:some b≠v.ownBlock:=fun e=>by
    have:=h.own.block e.symm
    omega
   exact(hblk b (by omega) hne).2.trans (h.bel.block b hlt)
 ·rcases Nat.lt_or_ge j KL.length with hj|hj
  ·rw[List.getElem?_append_left hj] at hk'
   rw[List.getElem?_append_left (by rw[← h.len];exact hj)] at hy
   refine(h.els j k' y hk' hy).to (fun b hp hlt=>⟨⟨hp.1,(hblk b hlt hp.2).1⟩,(hblk b hlt hp.2).2⟩) ?_
   have:=hg.size
   have:=h57.size
   omega
  ·rw[List.getElem?_append_right hj] at hk'
   have hj2:j= KL.length:=by
    have:=(List.getElem?_eq_some_iff.1 hk').1
    simp only[List.length_singleton] at this
    omega
   rw[hj2,Nat.sub_self] at hk'
   injection hk' with hk'
   subst hk'
   have e:y= x:=by
    rw[hj2,h.len,List.getElem?_append_right (Nat.le_refl _),Nat.sub_self] at hy
    injection hy with hy
    exact hy.symm
   subst e
   refine hk.to (fun b hp hlt=>⟨⟨?_,(hnew b hp hlt).1⟩,(hnew b hp hlt).2⟩) ?_
   ·have:=h5.size
    omega
   ·have:=hg.size
    have:=h7.size
    omega
theorem RowInv.row {TV:TypeId} {W u u':World} {v:Value} {vs:List VT} {KL:List zL} {B:Nat} (h:RowInv TV W u v vs KL) (hl:vs.length<=maxLen) (hB:B<=W.heap.size) (hk:∀ b,W.heap.size<=b->b < u.heap.size->u'.heap[b]?= u.heap[b]?) (hs:u.heap.size<=u'.heap.size):
  SlAt (only u' (fun b=>B<=b)) u'.heap.size 6 (ValAt (only u' (fun b=>B<=b)) u'.heap.size) v vs:=by
 refine⟨Nat.le_trans hl z0X,?_⟩
 rcases h.own.2 with ⟨rfl,h0⟩|⟨g,cap,cur,hv,hg,_,_⟩
 ·rw[h.len] at h0
  exact⟨none,0,by rw[← h0],fun h1=>by omega⟩
 ·refine⟨some ⟨g,0,none⟩,cap,by rw[hv,h.len],fun _=> ?_⟩
  have hown:v.ownBlock= some g:=by rw[hv];rfl
  have hlt:=z0B h.own hown
  refine⟨g,0,rfl,by omega,fun i x hx=> ?_⟩
  have hi:=(List.getElem?_eq_some_iff.1 hx).1
  have hki:KL[i]?= some (KL[i]'(by rw[h.len];exact hi)):=List.getElem?_eq_getElem _
  refine⟨_,(KL[i]'(by rw[h.len];exact hi)).2,fun j c hc=> ?_,?_⟩
  ·refine zu.2 ⟨?_,?_⟩
   ·show B<=g
    omega
   ·refine(World.cell?_of_block (a:=⟨g,_,none⟩) (hk g hg hlt)).trans ?_
    have:=World.ownsRow.cells h.own hown (i*6+j) c (z0K z0z KL i _ hki j c hc)
    rw[Addr.add_mid] at this
    rw[show 0+i*6+j= 0+ (i*6+j) by omega];exact this
  ·exact(h.els i _ x hki hx).to (fun b hp hb=>⟨Nat.le_trans hB hp.1,hk b hp.1 hb⟩) hs
end
section
open Go Go.RowKit
structure RowC (TV:TypeId) (B:Nat) (u:World) (v:Value) (vs:List VT) (KL:List zL):Prop where
 own:OwnSl TV 6 enc6 u B v KL
 len:KL.length= vs.length
 sz:B<=u.heap.size
 els:∀ (j:Nat) k x,KL[j]?= some k->vs[j]?= some x->Kept (fun b=>B<=b/\some b≠v.ownBlock) u k.1 x
theorem RowC.start (TV:TypeId) {B:Nat} {u:World} (h:B<=u.heap.size):RowC TV B u (.slice none 0 0) [] []:=⟨OwnSl.nil _ _,rfl,h,fun j k x hk _=>by cases hk⟩
theorem RowC.next {TV:TypeId} {B:Nat} {u u6 u7 u8:World} {v v':Value} {vs:List VT} {KL:List zL} (h:RowC TV B u v vs KL) (h6:Below u.heap.size u u6) (h7:Below u6.heap.size u6 u7) {k:zL} {x:VT}
  (hk:Kept (fun b=>u.heap.size<=b) u6 k.1 x) (hown:OwnSl TV 6 enc6 u8 B v' (KL ++ [k])) (hg:u7.grownBy u8 v.ownBlock) (hb:v'.ownBlock= v.ownBlock\/v'.ownBlock= some u7.heap.size):
  RowC TV B u8 v' (vs ++ [x]) (KL ++ [k]):=by
 have h57:=h6.trans (h7.mono h6.size)
 have hsz:=h.sz
 have hblk:∀ b,b < u.heap.size->some b≠v.ownBlock->some b≠v'.ownBlock/\u8.heap[b]?= u.heap[b]?:=fun b hlt hne=>by
  have e1:=h57.block b hlt
  have e2:=hg.block b (Nat.lt_of_lt_of_le hlt h57.size) hne
  refine⟨?_,e2.trans e1⟩
  rcases hb with hb|hb
  ·rw[hb];exact hne
  ·rw[hb]
   intro e
   injection e with e
   have:=h57.size
   omega
 have hnew:∀ b,u.heap.size<=b->b < u6.heap.size->some b≠v'.ownBlock/\u8.heap[b]?= u6.heap[b]?:=fun b hge hlt=>by
  have hne:some b≠v.ownBlock:=fun e=>by
   have:=z0B h.own e.symm
   omega
  have e1:=h7.block b hlt
  have e2:=hg.block b (Nat.lt_of_lt_of_le hlt h7.size) hne
  refine⟨?_,e2.trans e1⟩
  rcases hb with hb|hb
  ·rw[hb];exact hne
  ·rw[hb]
   intro e
   injection e with e
   have:=h7.size
   omega
 refine⟨hown,by rw[List.length_append,List.length_append,h.len];rfl,?_,fun j k' y hk' hy=> ?_⟩
 ·have:=hg.size
  have:=h57.size
  omega
 ·rcases Nat.lt_or_ge j KL.length with hj|hj
  ·rw[List.getElem?_append_left hj] at hk'
   rw[List.getElem?_append_left (by rw[← h.len];exact hj)] at hy
   refine(h.els j k' y hk' hy).to (fun b hp hlt=>⟨⟨hp.1,(hblk b hlt hp.2).1⟩,(hblk b hlt hp.2).2⟩) ?_
   have:=hg.size
   have:=h57.size
   omega
  ·rw[List.getElem?_append_right hj] at hk'
   have hj2:j= KL.length:=by
    have:=(List.getElem?_eq_some_iff.1 hk').1
    simp only[List.length_singleton] at this
    omega
   rw[hj2,Nat.sub_self] at hk'
   injection hk' with hk'
   subst hk'
   have e:y= x:=by
    rw[hj2,h.len,List.getElem?_append_right (Nat.le_refl _),Nat.sub_self] at hy
    injection hy with hy
    exact hy.symm
   subst e
   refine hk.to (fun b hp hlt=>⟨⟨by omega,(hnew b hp hlt).1⟩,(hnew b hp hlt).2⟩) ?_
   have:=hg.size
   have:=h7.size
   omega
theorem RowC.store {TV:TypeId} {B p:Nat} {u u':World} {v:Value} {vs:List VT} {KL:List zL} (h:RowC TV B u v vs KL) (hb:But u u' p p) (hp:p < B):RowC TV B u' v vs KL:=by
 refine⟨World.ownsRow.kept h.own (row:=some p) ⟨hb.os,hb.tape,hb.output,hb.size,fun i hi hne=>hb.block i hi (fun e=>hne (by rw[e])) (fun e=>hne (by rw[e]))⟩ ?_,h.len,Nat.le_trans h.sz hb.size,fun j k x hk hx=> ?_⟩
 ·exact .inr fun e=>by have:=h.own.block e;omega
 ·exact(h.els j k x hk hx).to (fun b hq _=>⟨hq,hb.block b ‹_› (by omega) (by omega)⟩) hb.size
theorem RowC.row {TV:TypeId} {B C:Nat} {u u':World} {v:Value} {vs:List VT} {KL:List zL} (h:RowC TV B u v vs KL) (hl:vs.length<=maxLen) (hB:C<=B) (hk:∀ b,B<=b->b < u.heap.size->u'.heap[b]?= u.heap[b]?) (hs:u.heap.size<=u'.heap.size):
  SlAt (only u' (fun b=>C<=b)) u'.heap.size 6 (ValAt (only u' (fun b=>C<=b)) u'.heap.size) v vs:=by
 refine⟨Nat.le_trans hl z0X,?_⟩
 rcases h.own.2 with ⟨rfl,h0⟩|⟨g,cap,cur,hv,hg,_,_⟩
 ·rw[h.len] at h0
  exact⟨none,0,by rw[← h0],fun h1=>by omega⟩
 ·refine⟨some ⟨g,0,none⟩,cap,by rw[hv,h.len],fun _=> ?_⟩
  have hown:v.ownBlock= some g:=by rw[hv];rfl
  have hlt:=z0B h.own hown
  refine⟨g,0,rfl,by omega,fun i x hx=> ?_⟩
  have hi:=(List.getElem?_eq_some_iff.1 hx).1
  have hki:KL[i]?= some (KL[i]'(by rw[h.len];exact hi)):=List.getElem?_eq_getElem _
  refine⟨_,(KL[i]'(by rw[h.len];exact hi)).2,fun j c hc=> ?_,?_⟩
  ·refine zu.2 ⟨?_,?_⟩
   ·show C<=g
    omega
   ·refine(World.cell?_of_block (a:=⟨g,_,none⟩) (hk g hg hlt)).trans ?_
    have:=World.ownsRow.cells h.own hown (i*6+j) c (z0K z0z KL i _ hki j c hc)
    rw[Addr.add_mid] at this
    rw[show 0+i*6+j= 0+ (i*6+j) by omega];exact this
  ·exact(h.els i _ x hki hx).to (fun b hp hb=>⟨Nat.le_trans hB hp.1,hk b hp.1 hb⟩) hs
theorem Whole.frozV {T:TypeId} {w:World} {b j:Nat} {cs:List Value} (h:Whole T w b cs) (hj:j < cs.length):w.frozen? ⟨b,j,none⟩= false:=by
 have:=(h.there j hj).2
 rwa [Nat.zero_add] at this
section
variable {P:Program} {ops:Array Oper} {S:World->Prop} {Q:Exit->Act->World->Prop} {i:Nat} {r:List (Nat × Bool)} {a:Act} {w:World} {o:Oper}
theorem zbF {α:Type} (d:Option Tmp) (o:Oper) (s x:Operand) (t:TypeId) (hi0:ops[i]?= some o) (ho:o.op= .call { callee:= .builtin .append,args:= #[s,x],argTypes:= #[t,t] }) (hd:o.dst= d) (hw:Region.wanted o (yielded ops a.tmps)= true)
  (base:Nat) (e:TypeId) (i':TypeInfo) (z:Value) (k bytes:Nat) (enc:α->List Value) (ht:P.underlying t= some (.slice e)) (hi:P.info? e= some i') (hz:i'.zero= some z)
  (hsize:i'.size= k) (hby:i'.bytes= bytes) (hzs:z.cells.size= k) (hsz:0 < k) (hk:∀ x,(enc x).length= k)
  (v:Value) (l:List α) (hs:a.eval s= v) (hown:OwnSl e k enc w base v l) (nb c:Nat) (y:α) (h1:∀ u∈enc y,u.oneCell'= true) (hx:a.eval x= .slice (some ⟨nb,0,none⟩) 1 c)
  (hc:∀ j u,(enc y)[j]?= some u->w.cell? ⟨nb,j,none⟩= some u) (h63:l.length+1<=maxLen) (hbytes:(l.length+1) *bytes<=140737488355328) (hbase:base<=w.heap.size)
  (h:∀ v' w',OwnSl e k enc w' base v' (l ++ [y])->w.grownBy w' v.ownBlock->(v'.ownBlock= v.ownBlock\/v'.ownBlock= some w.heap.size)->S w'/\wpOrd P ops S Q r (a.put d v') w'):wpOrd P ops S Q ((i,false)::r) a w:=by
 obtain⟨v',w',hrun,k2,k3,_,k5⟩:=run_append_own_at (P:=P) w base t o.type e i' z k bytes ht hi hz hsize hby hzs hsz v l.length (flat enc l) hown ⟨nb,0,none⟩ 1 c (enc y) (by rw[hk];omega)
  (fun j u hu=>by rw[Addr.add_mid,Nat.zero_add];exact hc j u hu) h1 h63 hbytes hbase
 have H:=h v' w' (by unfold OwnSl;rw[z3Z,List.length_append];exact k2) k3 k5
 refine z0I d v' w' o hi0 hd hw ?_ H.1 H.2
 unfold execOp
 simp only[ho,resolve,invoke,builtin,Sem.run_bind,Sem.run_pure,Result.andThen_ok,List.map_toArray,List.map_cons,List.map_nil,hs,hx,hrun]
end
end
end Go.Proofs.YtmpbepjjbaeebaaGreatDoor
