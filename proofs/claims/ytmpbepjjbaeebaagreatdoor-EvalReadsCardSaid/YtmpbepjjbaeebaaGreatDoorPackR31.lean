/- Parts of a proof: Keep, RowG. -/
import Derived.Test.YtmpbepjjbaeebaaGreatDoorPackR14
import Derived.Test.YtmpbepjjbaeebaaGreatDoorPackR30
set_option maxHeartbeats 8000000
set_option maxRecDepth 100000
set_option linter.unusedVariables false
set_option linter.unusedSimpArgs false
section
namespace Go.Proofs.YtmpbepjjbaeebaaGreatDoor
open Go Go.RowKit
def Kept (p:Nat→Prop) (w:World) (cs:List Value) (t:VT):Prop:=ValAt (only w p) w.heap.size cs t
theorem Kept.val {p:Nat→Prop} {w:World} {cs:List Value} {t:VT} (h:Kept p w cs t):ValAt w w.heap.size cs t:=ValAt.cells h fun a v hv=>(zN.1 hv).2
theorem Kept.to {p q:Nat→Prop} {w w':World} {cs:List Value} {t:VT} (h:Kept p w cs t) (hb:∀ b,p b→b < w.heap.size→q b∧w'.heap[b]?= w.heap[b]?) (hs:w.heap.size≤w'.heap.size):Kept q w' cs t:=
 (ValAt.cells h (z3H hb)).more hs
abbrev zM:= {ks:List Value // ks.length= 6}
def enc6 (k:zM):List Value:=k.1
theorem z0h (k:zM):(enc6 k).length= 6:=k.2
structure CanInv (TV:TypeId) (W u:World) (v:Value) (l:List VT) (i:Nat) (KL:List zM):Prop where
 own:OwnSl TV 6 enc6 u W.heap.size v KL
 len:KL.length= i
 bel:Below W.heap.size W u
 els:∀ (j:Nat) k x,KL[j]?= some k→l[j]?= some x→Kept (fun b=>W.heap.size≤b∧some b≠v.ownBlock) u k.1 (z04 x)
theorem CanInv.start (TV:TypeId) (W:World) (l:List VT):CanInv TV W W (.slice none 0 0) l 0 []:=⟨OwnSl.nil _ _,rfl,Below.refl _ _,fun j k x hk _=>by cases hk⟩
theorem CanInv.next {TV:TypeId} {W u u5 u6 u7 u8:World} {v v':Value} {l:List VT} {i:Nat} {KL:List zM} (h:CanInv TV W u v l i KL) (h5:Below u.heap.size u u5) (h6:Below u5.heap.size u5 u6) (h7:Below u6.heap.size u6 u7) {k:zM} {x:VT} (hx:l[i]?= some x)
  (hk:Kept (fun b=>u5.heap.size≤b) u6 k.1 (z04 x)) (hown:OwnSl TV 6 enc6 u8 W.heap.size v' (KL ++ [k])) (hg:u7.grownBy u8 v.ownBlock) (hb:v'.ownBlock= v.ownBlock∨v'.ownBlock= some u7.heap.size):
  CanInv TV W u8 v' l (i+1) (KL ++ [k]):=by
 have h57:=h5.trans ((h6.trans (h7.mono h6.size)).mono h5.size)
 have hblk:∀ b,b < u.heap.size→some b≠v.ownBlock→some b≠v'.ownBlock∧u8.heap[b]?= u.heap[b]?:=fun b hlt hne=>by
  have e1:=h57.block b hlt
  have e2:=hg.block b (Nat.lt_of_lt_of_le hlt h57.size) hne
  refine⟨?_,e2.trans e1⟩
  rcases hb with hb|hb
  ·rw[hb];exact hne
  ·rw[hb]
   intro e
   injection e with e
   have:=h57.size
   omega
 have hnew:∀ b,u5.heap.size≤b→b < u6.heap.size→some b≠v'.ownBlock∧u8.heap[b]?= u6.heap[b]?:=fun b hge hlt=>by
  have hne:some b≠v.ownBlock:=fun e=>by
   have:=z1J h.own e.symm
   have:=h5.size
   omega
  have e1:=h7.block b hlt
  have e2:=hg.block b (Nat.lt_of_lt_of_le hlt h7.size) hne
  refine⟨?_,e2.trans e1⟩
  rcases hb with hb|hb
  ·rw[hb];exact hne
  ·rw[hb]
   intro e
   injection e with e
   have:=h7.size
   omega
 have hbase:=h.bel.size
 refine⟨hown,by rw[List.length_append,h.len];rfl,?_,fun j k' y hk' hy=> ?_⟩
 ·refine⟨hg.os.trans (h57.os.trans h.bel.os),hg.tape.trans (h57.tape.trans h.bel.tape),hg.output.trans (h57.output.trans h.bel.output),?_,fun b hlt=> ?_⟩
  ·have:=hg.size
   have:=h57.size
   omega
  ·have hne:some b≠v.ownBlock:=fun e=>by
    have:=h.own.block e.symm
    omega
   exact(hblk b (by omega) hne).2.trans (h.bel.block b hlt)
 ·rcases Nat.lt_or_ge j KL.length with hj|hj
  ·rw[List.getElem?_append_left hj] at hk'
   refine(h.els j k' y hk' hy).to (fun b hp hlt=>⟨⟨hp.1,(hblk b hlt hp.2).1⟩,(hblk b hlt hp.2).2⟩) ?_
   have:=hg.size
   have:=h57.size
   omega
  ·rw[List.getElem?_append_right hj] at hk'
   have hj2:j= KL.length:=by
    have:=(List.getElem?_eq_some_iff.1 hk').1
    simp only[List.length_singleton] at this
    omega
   rw[hj2,Nat.sub_self] at hk'
   injection hk' with hk'
   subst hk'
   have e:y= x:=by
    rw[hj2,h.len,hx] at hy
    injection hy with hy
    exact hy.symm
   subst e
   refine hk.to (fun b hp hlt=>⟨⟨?_,(hnew b hp hlt).1⟩,(hnew b hp hlt).2⟩) ?_
   ·have:=h5.size
    omega
   ·have:=hg.size
    have:=h7.size
    omega
theorem CanInv.row {TV:TypeId} {W u u':World} {v:Value} {l:List VT} {KL:List zM} {B:Nat} (h:CanInv TV W u v l l.length KL) (hl:l.length≤maxLen) (hB:B≤W.heap.size) (hk:∀ b,W.heap.size≤b→b < u.heap.size→u'.heap[b]?= u.heap[b]?) (hs:u.heap.size≤u'.heap.size):
  SlAt (only u' (fun b=>B≤b)) u'.heap.size 6 (ValAt (only u' (fun b=>B≤b)) u'.heap.size) v (z0y l):=by
 have hlen:(z0y l).length= l.length:=z2J l
 refine⟨by rw[hlen];exact Nat.le_trans hl z1l,?_⟩
 rcases h.own.2 with ⟨rfl,h0⟩|⟨g,cap,cur,hv,hg,_,_⟩
 ·rw[h.len] at h0
  exact⟨none,0,by rw[hlen,h0],fun h1=>by omega⟩
 ·refine⟨some ⟨g,0,none⟩,cap,by rw[hv,hlen,h.len],fun _=> ?_⟩
  have hown:v.ownBlock= some g:=by rw[hv];rfl
  have hlt:=z1J h.own hown
  refine⟨g,0,rfl,by omega,fun i x hx=> ?_⟩
  rw[z2N,List.getElem?_map,Option.map_eq_some_iff] at hx
  obtain⟨y,hy,rfl⟩:=hx
  have hi:=(List.getElem?_eq_some_iff.1 hy).1
  have hki:KL[i]?= some (KL[i]'(by rw[h.len];exact hi)):=List.getElem?_eq_getElem _
  refine⟨_,(KL[i]'(by rw[h.len];exact hi)).2,fun j c hc=> ?_,?_⟩
  ·refine zN.2 ⟨?_,?_⟩
   ·show B≤g
    omega
   ·refine(World.cell?_of_block (a:=⟨g,_,none⟩) (hk g hg hlt)).trans ?_
    have:=World.ownsRow.cells h.own hown (i*6+j) c (z1d z0h KL i _ hki j c hc)
    rw[Addr.add_mid] at this
    rw[show 0+i*6+j= 0+ (i*6+j) by omega];exact this
  ·exact(h.els i _ y hki hy).to (fun b hp hb=>⟨Nat.le_trans hB hp.1,hk b hp.1 hb⟩) hs
end Go.Proofs.YtmpbepjjbaeebaaGreatDoor
end
section
namespace Go.Proofs.YtmpbepjjbaeebaaGreatDoor
open Go Go.RowKit
structure RowInv (TV:TypeId) (W u:World) (v:Value) (vs:List VT) (KL:List zM):Prop where
 own:OwnSl TV 6 enc6 u W.heap.size v KL
 len:KL.length= vs.length
 bel:Below W.heap.size W u
 els:∀ (j:Nat) k x,KL[j]?= some k→vs[j]?= some x→Kept (fun b=>W.heap.size≤b∧some b≠v.ownBlock) u k.1 x
theorem RowInv.start (TV:TypeId) (W:World):RowInv TV W W (.slice none 0 0) [] []:=⟨OwnSl.nil _ _,rfl,Below.refl _ _,fun j k x hk _=>by cases hk⟩
theorem RowInv.next {TV:TypeId} {W u u5 u6 u7 u8:World} {v v':Value} {vs:List VT} {KL:List zM} (h:RowInv TV W u v vs KL) (h5:Below u.heap.size u u5) (h6:Below u5.heap.size u5 u6) (h7:Below u6.heap.size u6 u7) {k:zM} {x:VT}
  (hk:Kept (fun b=>u5.heap.size≤b) u6 k.1 x) (hown:OwnSl TV 6 enc6 u8 W.heap.size v' (KL ++ [k])) (hg:u7.grownBy u8 v.ownBlock) (hb:v'.ownBlock= v.ownBlock∨v'.ownBlock= some u7.heap.size):
  RowInv TV W u8 v' (vs ++ [x]) (KL ++ [k]):=by
 have h57:=h5.trans ((h6.trans (h7.mono h6.size)).mono h5.size)
 have hblk:∀ b,b < u.heap.size→some b≠v.ownBlock→some b≠v'.ownBlock∧u8.heap[b]?= u.heap[b]?:=fun b hlt hne=>by
  have e1:=h57.block b hlt
  have e2:=hg.block b (Nat.lt_of_lt_of_le hlt h57.size) hne
  refine⟨?_,e2.trans e1⟩
  rcases hb with hb|hb
  ·rw[hb];exact hne
  ·rw[hb]
   intro e
   injection e with e
   have:=h57.size
   omega
 have hnew:∀ b,u5.heap.size≤b→b < u6.heap.size→some b≠v'.ownBlock∧u8.heap[b]?= u6.heap[b]?:=fun b hge hlt=>by
  have hne:some b≠v.ownBlock:=fun e=>by
   have:=z1J h.own e.symm
   have:=h5.size
   omega
  have e1:=h7.block b hlt
  have e2:=hg.block b (Nat.lt_of_lt_of_le hlt h7.size) hne
  refine⟨?_,e2.trans e1⟩
  rcases hb with hb|hb
  ·rw[hb];exact hne
  ·rw[hb]
   intro e
   injection e with e
   have:=h7.size
   omega
 have hbase:=h.bel.size
 refine⟨hown,by rw[List.length_append,List.length_append,h.len];rfl,?_,fun j k' y hk' hy=> ?_⟩
 ·refine⟨hg.os.trans (h57.os.trans h.bel.os),hg.tape.trans (h57.tape.trans h.bel.tape),hg.output.trans (h57.output.trans h.bel.output),?_,fun b hlt=> ?_⟩
  ·have:=hg.size
   have:=h57.size
   omega
  ·have hne:some b≠v.ownBlock:=fun e=>by
    have:=h.own.block e.symm
    omega
   exact(hblk b (by omega) hne).2.trans (h.bel.block b hlt)
 ·rcases Nat.lt_or_ge j KL.length with hj|hj
  ·rw[List.getElem?_append_left hj] at hk'
   rw[List.getElem?_append_left (by rw[← h.len];exact hj)] at hy
   refine(h.els j k' y hk' hy).to (fun b hp hlt=>⟨⟨hp.1,(hblk b hlt hp.2).1⟩,(hblk b hlt hp.2).2⟩) ?_
   have:=hg.size
   have:=h57.size
   omega
  ·rw[List.getElem?_append_right hj] at hk'
   have hj2:j= KL.length:=by
    have:=(List.getElem?_eq_some_iff.1 hk').1
    simp only[List.length_singleton] at this
    omega
   rw[hj2,Nat.sub_self] at hk'
   injection hk' with hk'
   subst hk'
   have e:y= x:=by
    rw[hj2,h.len,List.getElem?_append_right (Nat.le_refl _),Nat.sub_self] at hy
    injection hy with hy
    exact hy.symm
   subst e
   refine hk.to (fun b hp hlt=>⟨⟨?_,(hnew b hp hlt).1⟩,(hnew b hp hlt).2⟩) ?_
   ·have:=h5.size
    omega
   ·have:=hg.size
    have:=h7.size
    omega
theorem RowInv.row {TV:TypeId} {W u u':World} {v:Value} {vs:List VT} {KL:List zM} {B:Nat} (h:RowInv TV W u v vs KL) (hl:vs.length≤maxLen) (hB:B≤W.heap.size) (hk:∀ b,W.heap.size≤b→b < u.heap.size→u'.heap[b]?= u.heap[b]?) (hs:u.heap.size≤u'.heap.size):
  SlAt (only u' (fun b=>B≤b)) u'.heap.size 6 (ValAt (only u' (fun b=>B≤b)) u'.heap.size) v vs:=by
 refine⟨Nat.le_trans hl z1l,?_⟩
 rcases h.own.2 with ⟨rfl,h0⟩|⟨g,cap,cur,hv,hg,_,_⟩
 ·rw[h.len] at h0
  exact⟨none,0,by rw[← h0],fun h1=>by omega⟩
 ·refine⟨some ⟨g,0,none⟩,cap,by rw[hv,h.len],fun _=> ?_⟩
  have hown:v.ownBlock= some g:=by rw[hv];rfl
  have hlt:=z1J h.own hown
  refine⟨g,0,rfl,by omega,fun i x hx=> ?_⟩
  have hi:=(List.getElem?_eq_some_iff.1 hx).1
  have hki:KL[i]?= some (KL[i]'(by rw[h.len];exact hi)):=List.getElem?_eq_getElem _
  refine⟨_,(KL[i]'(by rw[h.len];exact hi)).2,fun j c hc=> ?_,?_⟩
  ·refine zN.2 ⟨?_,?_⟩
   ·show B≤g
    omega
   ·refine(World.cell?_of_block (a:=⟨g,_,none⟩) (hk g hg hlt)).trans ?_
    have:=World.ownsRow.cells h.own hown (i*6+j) c (z1d z0h KL i _ hki j c hc)
    rw[Addr.add_mid] at this
    rw[show 0+i*6+j= 0+ (i*6+j) by omega];exact this
  ·exact(h.els i _ x hki hx).to (fun b hp hb=>⟨Nat.le_trans hB hp.1,hk b hp.1 hb⟩) hs
end Go.Proofs.YtmpbepjjbaeebaaGreatDoor
end
