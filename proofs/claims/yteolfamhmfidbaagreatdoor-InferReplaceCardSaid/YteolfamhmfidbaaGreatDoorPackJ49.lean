/- Parts of a proof: OwnPut. -/
import Derived.Laws.OwnMore
import Derived.Laws.IdiomCopy
import Derived.Test.YteolfamhmfidbaaGreatDoorPackJ3
import Derived.Test.YteolfamhmfidbaaGreatDoorPackJ11
import Derived.Test.YteolfamhmfidbaaGreatDoorPackJ22
set_option maxHeartbeats 8000000
set_option maxRecDepth 100000
set_option linter.unusedVariables false
set_option linter.unusedSimpArgs false
namespace Go.Proofs.YteolfamhmfidbaaGreatDoor
open Go Go.RowKit
def setAt (xs:List Value):Nat->List Value->List Value
 |_,[]=>xs
 |o,v::r=>setAt (xs.set o v) (o+1) r
theorem z6W:∀ (C B A:List Value),B.length= C.length->setAt (A ++ B) A.length C= A ++ C
 |[],B,A,h=>by
  have hb:B=[]:=List.eq_nil_of_length_eq_zero (by simpa using h)
  rw[setAt,hb]
 |c::C,[],A,h=>by simp at h
 |c::C,b::B,A,h=>by
  rw[setAt]
  have e:(A ++ b::B).set A.length c=(A ++ [c]) ++ B:=by
   rw[List.set_append_right _ _ (Nat.le_refl _),Nat.sub_self]
   simp
  rw[e]
  have:=z6W C B (A ++ [c]) (by simpa using h)
  rw[List.length_append] at this
  rw[show A.length+1= A.length+ [c].length from rfl,this,List.append_assoc]
  rfl
theorem z3Z {base size n cap g:Nat} {e:TypeId}:∀ (vs:List Value) (o:Nat) (xs:List Value) (w:World),w.ownsRow base e size (.slice (some ⟨g,0,none⟩) n cap) n xs->
  (w.setCells g o vs).ownsRow base e size (.slice (some ⟨g,0,none⟩) n cap) n (setAt xs o vs)/\w.grownBy (w.setCells g o vs) (some g)
 |[],o,xs,w,h=>⟨h,⟨rfl,rfl,rfl,Nat.le_refl _,fun _ _ _=>rfl⟩⟩
 |v::r,o,xs,w,h=>by
  obtain⟨h1,h2⟩:=World.ownsRow.stored h o v
  obtain⟨h3,h4⟩:=z3Z r (o+1) _ _ h1
  exact⟨h3,⟨h4.os.trans h2.os,h4.tape.trans h2.tape,h4.output.trans h2.output,Nat.le_trans h2.size h4.size,fun b hb hne=>(h4.block b (Nat.lt_of_lt_of_le hb h2.size) hne).trans (h2.block b hb hne)⟩⟩
theorem zdJ {T:TypeId} {base g cap:Nat} {w:World} {KL:List zq} {k k':zq} (h:OwnSl T 6 enc6 w base (.slice (some ⟨g,0,none⟩) (KL ++ [k]).length cap) (KL ++ [k])):
  OwnSl T 6 enc6 (w.setCells g (KL.length*6) k'.1) base (.slice (some ⟨g,0,none⟩) (KL ++ [k]).length cap) (KL ++ [k'])/\w.grownBy (w.setCells g (KL.length*6) k'.1) (some g):=by
 obtain⟨h1,h2⟩:=z3Z k'.1 (KL.length*6) _ w h
 refine⟨?_,h2⟩
 rw[z1k] at h1
 have:=z6W k'.1 (enc6 k) (flat enc6 KL) (by rw[k'.2];exact zX k)
 rw[z4X zX] at this
 rw[this] at h1
 unfold OwnSl
 rw[z1k]
 have e:(KL ++ [k']).length=(KL ++ [k]).length:=by simp
 rw[e]
 exact h1
structure SetInv (TV:TypeId) (W u:World) (v:Value) (E:List VarT) (F:List VT) (ok:VarT->Bool) (j:Nat) (KL:List zq):Prop where
 own:OwnSl TV 6 enc6 u W.heap.size v KL
 len:KL.length= j
 flen:F.length= j
 bel:Below W.heap.size W u
 els:∀ (i:Nat) k x,KL[i]?= some k->F[i]?= some x->ValAt W W.heap.size k.1 x
 rel:∀ (i:Nat) x y,F[i]?= some x->E[i]?= some y->x= y.init\/(ok y= true/\zl y.init= true/\zl x= true)
theorem SetInv.start (TV:TypeId) (W:World) (E:List VarT) (ok:VarT->Bool):SetInv TV W W (.slice none 0 0) E [] ok 0 []:=⟨OwnSl.nil _ _,rfl,rfl,Below.refl _ _,fun i k x hk _=>(by cases hk),fun i x y h _=>(by cases h)⟩
theorem SetInv.snoc {TV:TypeId} {W u u7 u8:World} {v v':Value} {E:List VarT} {F:List VT} {ok:VarT->Bool} {j:Nat} {KL:List zq} (h:SetInv TV W u v E F ok j KL) (hb:Below u.heap.size u u7) {k:zq} {x:VT} {y:VarT} (hy:E[j]?= some y)
  (hk:ValAt W W.heap.size k.1 x) (hr:x= y.init\/(ok y= true/\zl y.init= true/\zl x= true)) (hown:OwnSl TV 6 enc6 u8 W.heap.size v' (KL ++ [k])) (hg:u7.grownBy u8 v.ownBlock) (ho:∀ b,v.ownBlock= some b->W.heap.size<=b):SetInv TV W u8 v' E (F ++ [x]) ok (j+1) (KL ++ [k]):=by
 refine⟨hown,by rw[List.length_append,h.len];rfl,by rw[List.length_append,h.flen];rfl,?_,fun i k' z hk' hz=> ?_,fun i z t hz ht=> ?_⟩
 ·exact(h.bel.trans (hb.mono h.bel.size)).grown hg (Nat.le_trans h.bel.size hb.size) ho
 ·rcases Nat.lt_or_ge i j with hi|hi
  ·rw[List.getElem?_append_left (by rw[h.len];exact hi)] at hk'
   rw[List.getElem?_append_left (by rw[h.flen];exact hi)] at hz
   exact h.els i k' z hk' hz
  ·have hi2:i= j:=by
    have:=(List.getElem?_eq_some_iff.1 hk').1
    rw[List.length_append,h.len] at this
    simp at this
    omega
   subst hi2
   rw[List.getElem?_append_right (by rw[h.len];exact Nat.le_refl _),h.len,Nat.sub_self] at hk'
   rw[List.getElem?_append_right (by rw[h.flen];exact Nat.le_refl _),h.flen,Nat.sub_self] at hz
   injection hk' with hk'
   injection hz with hz
   subst hk' hz
   exact hk
 ·rcases Nat.lt_or_ge i j with hi|hi
  ·rw[List.getElem?_append_left (by rw[h.flen];exact hi)] at hz
   exact h.rel i z t hz ht
  ·have hi2:i= j:=by
    have:=(List.getElem?_eq_some_iff.1 hz).1
    rw[List.length_append,h.flen] at this
    simp at this
    omega
   subst hi2
   rw[List.getElem?_append_right (by rw[h.flen];exact Nat.le_refl _),h.flen,Nat.sub_self] at hz
   injection hz with hz
   subst hz
   rw[hy] at ht
   injection ht with ht
   subst ht
   exact hr
theorem SetInv.lt {TV:TypeId} {W u:World} {v:Value} {E:List VarT} {F:List VT} {ok:VarT->Bool} {j:Nat} {KL:List zq} (h:SetInv TV W u v E F ok j KL):∀ b,v.ownBlock= some b->b < u.heap.size:=fun b hb=>z0I h.own hb
theorem SetInv.ge {TV:TypeId} {W u:World} {v:Value} {E:List VarT} {F:List VT} {ok:VarT->Bool} {j:Nat} {KL:List zq} (h:SetInv TV W u v E F ok j KL):∀ b,v.ownBlock= some b->W.heap.size<=b:=fun b hb=>h.own.block hb
theorem SetInv.row {TV:TypeId} {W u z:World} {v:Value} {E:List VarT} {F:List VT} {ok:VarT->Bool} {j:Nat} {KL:List zq} (h:SetInv TV W u v E F ok j KL) (hl:j<=9223372036854775807) (hz:Below u.heap.size u z):SlAt z z.heap.size 6 (ValAt z z.heap.size) v F:=by
 have hWz:=h.bel.trans (hz.mono h.bel.size)
 refine⟨by rw[h.flen];exact hl,?_⟩
 rcases h.own.2 with ⟨rfl,h0⟩|⟨g,cap,cur,hv,hg,_,_⟩
 ·rw[h.len] at h0
  exact⟨none,0,by rw[h.flen,← h0],fun h1=>by rw[h.flen] at h1;omega⟩
 ·refine⟨some ⟨g,0,none⟩,cap,by rw[hv,h.len,h.flen],fun _=> ?_⟩
  have hown:v.ownBlock= some g:=by rw[hv];rfl
  have hlt:=z0I h.own hown
  refine⟨g,0,rfl,Nat.lt_of_lt_of_le hlt hz.size,fun i x hx=> ?_⟩
  have hi:=(List.getElem?_eq_some_iff.1 hx).1
  have hki:KL[i]?= some (KL[i]'(by rw[h.len,← h.flen];exact hi)):=List.getElem?_eq_getElem _
  refine⟨_,(KL[i]'(by rw[h.len,← h.flen];exact hi)).2,fun j c hc=> ?_,((h.els i _ x hki hx).under hWz).more hWz.size⟩
  refine(hz.cell (p:=⟨g,_,none⟩) hlt).trans ?_
  have:=World.ownsRow.cells h.own hown (i*6+j) c (z0y zX KL i _ hki j c hc)
  rw[Addr.add_mid] at this
  rw[show 0+i*6+j= 0+ (i*6+j) by omega];exact this
theorem SetInv.put {TV:TypeId} {W u:World} {g cap:Nat} {E:List VarT} {F:List VT} {ok:VarT->Bool} {j:Nat} {KL:List zq} {k k':zq} {x z:VT} {y:VarT} (hl:KL.length= j) (hf:F.length= j)
  (h:SetInv TV W u (.slice (some ⟨g,0,none⟩) (KL ++ [k]).length cap) E (F ++ [x]) ok (j+1) (KL ++ [k])) (hy:E[j]?= some y) (hk:ValAt W W.heap.size k'.1 z) (hr:ok y= true/\zl y.init= true/\zl z= true):
  SetInv TV W (u.setCells g (j*6) k'.1) (.slice (some ⟨g,0,none⟩) (KL ++ [k]).length cap) E (F ++ [z]) ok (j+1) (KL ++ [k'])/\u.grownBy (u.setCells g (j*6) k'.1) (some g):=by
 have hp:=zdJ (k':=k') h.own
 rw[hl] at hp
 obtain⟨h1,h2⟩:=hp
 refine⟨⟨h1,by rw[List.length_append,hl];rfl,by rw[List.length_append,hf];rfl,h.bel.grown h2 h.bel.size fun b hb=>by injection hb with hb;subst hb;exact h.own.block rfl,fun i q t hq ht=> ?_,fun i t s ht hs=> ?_⟩,h2⟩
 ·rcases Nat.lt_or_ge i j with hi|hi
  ·rw[List.getElem?_append_left (by omega)] at hq ht
   exact h.els i q t (by rw[List.getElem?_append_left (by omega)];exact hq) (by rw[List.getElem?_append_left (by omega)];exact ht)
  ·have hi2:i= j:=by
    have:=(List.getElem?_eq_some_iff.1 hq).1
    rw[List.length_append,hl] at this
    simp at this
    omega
   rw[List.getElem?_append_right (by omega),hl,hi2,Nat.sub_self] at hq
   rw[List.getElem?_append_right (by omega),hf,hi2,Nat.sub_self] at ht
   injection hq with hq
   injection ht with ht
   subst hq ht
   exact hk
 ·rcases Nat.lt_or_ge i j with hi|hi
  ·rw[List.getElem?_append_left (by omega)] at ht
   exact h.rel i t s (by rw[List.getElem?_append_left (by omega)];exact ht) hs
  ·have hi2:i= j:=by
    have:=(List.getElem?_eq_some_iff.1 ht).1
    rw[List.length_append,hf] at this
    simp at this
    omega
   rw[List.getElem?_append_right (by omega),hf,hi2,Nat.sub_self] at ht
   injection ht with ht
   subst ht
   rw[hi2,hy] at hs
   injection hs with hs
   subst hs
   exact .inr hr
theorem z7f:∀ (C B A D:List Value),B.length= C.length->setAt (A ++ (B ++ D)) A.length C= A ++ (C ++ D)
 |[],B,A,D,h=>by
  have hb:B=[]:=List.eq_nil_of_length_eq_zero (by simpa using h)
  rw[setAt,hb]
 |c::C,[],A,D,h=>by simp at h
 |c::C,b::B,A,D,h=>by
  rw[setAt]
  have e:(A ++ ((b::B) ++ D)).set A.length c=(A ++ [c]) ++ (B ++ D):=by
   rw[List.set_append_right _ _ (Nat.le_refl _),Nat.sub_self]
   simp
  rw[e]
  have:=z7f C B (A ++ [c]) D (by simpa using h)
  rw[List.length_append] at this
  rw[show A.length+1= A.length+ [c].length from rfl,this,List.append_assoc]
  rfl
theorem zdz {KL:List zq} {i:Nat} (hi:i < KL.length) (k':zq):setAt (flat enc6 KL) (i*6) k'.1= flat enc6 (KL.set i k'):=by
 have h1:KL= KL.take i ++ (KL[i]::KL.drop (i+1)):=by rw[← List.drop_eq_getElem_cons hi,List.take_append_drop]
 have h2:KL.set i k'= KL.take i ++ (k'::KL.drop (i+1)):=by
  rw[List.set_eq_take_append_cons_drop,if_pos hi]
 have hf:∀ (A:List zq) (x:zq) (D:List zq),flat enc6 (A ++ (x::D))= flat enc6 A ++ (enc6 x ++ flat enc6 D):=fun A x D=>by simp[flat]
 rw[h2,hf]
 conv=>lhs;rw[h1,hf]
 have hl:(flat enc6 (KL.take i)).length= i*6:=by rw[z4X zX,List.length_take,Nat.min_eq_left (by omega)]
 rw[← hl]
 exact z7f k'.1 (enc6 KL[i]) (flat enc6 (KL.take i)) _ (by rw[zX,k'.2])
theorem z9b {T:TypeId} {base g n cap i:Nat} {w:World} {KL:List zq} (h:OwnSl T 6 enc6 w base (.slice (some ⟨g,0,none⟩) n cap) KL) (hi:i < KL.length):w.there g (i*6) 6:=by
 intro j hj
 have hc:=World.ownsRow.cells h (g:=g) rfl (i*6+j) ((KL[i]).1[j]'(by rw[(KL[i]).2];exact hj)) (z0y zX KL i _ (List.getElem?_eq_getElem hi) j _ (List.getElem?_eq_getElem (by rw[zX];exact hj)))
 rw[Addr.add_mid,Nat.zero_add] at hc
 refine⟨by rw[hc];rfl,?_⟩
 rcases h.2 with ⟨h0,_⟩|⟨g',cap',cur,h0,_,hg,_⟩
 ·cases h0
 ·injection h0 with h0 _ _
  injection h0 with h0
  injection h0 with h0
  subst h0
  unfold World.frozen?
  simp[hg]
theorem SetInv.forget {TV:TypeId} {W u:World} {v:Value} {E:List VarT} {F:List VT} {ok:VarT->Bool} {j:Nat} {KL:List zq} (h:SetInv TV W u v E F ok j KL):SetInv TV W u v [] F ok j KL:=
 ⟨h.own,h.len,h.flen,h.bel,h.els,fun i x y _ hy=>by cases hy⟩
theorem SetInv.putAt {TV:TypeId} {W u:World} {g cap n i:Nat} {F:List VT} {ok:VarT->Bool} {j:Nat} {KL:List zq} {k':zq} {z:VT} (h:SetInv TV W u (.slice (some ⟨g,0,none⟩) n cap) [] F ok j KL) (hi:i < j) (hk:ValAt W W.heap.size k'.1 z):
  SetInv TV W (u.setCells g (i*6) k'.1) (.slice (some ⟨g,0,none⟩) n cap) [] (F.set i z) ok j (KL.set i k'):=by
 have hn:n= KL.length:=by
  rcases h.own.2 with ⟨h0,_⟩|⟨g',cap',cur,h0,_⟩
  ·cases h0
  ·injection h0 with h0 h1 _
 obtain⟨h1,h2⟩:=z3Z k'.1 (i*6) (flat enc6 KL) u (hn▸h.own)
 rw[zdz (by rw[h.len];exact hi)] at h1
 refine⟨?_,by rw[List.length_set,h.len],by rw[List.length_set,h.flen],h.bel.grown h2 h.bel.size fun b hb=>by injection hb with hb;subst hb;exact h.own.block rfl,fun a q t hq ht=> ?_,fun _ _ _ _ hy=>by cases hy⟩
 ·unfold OwnSl
  rw[List.length_set,hn]
  exact h1
 ·rw[List.getElem?_set] at hq ht
  by_cases e:i= a
  ·rw[if_pos e,if_pos (by rw[h.len];exact hi)] at hq
   rw[if_pos e,if_pos (by rw[h.flen];exact hi)] at ht
   injection hq with hq
   injection ht with ht
   subst hq ht
   exact hk
  ·rw[if_neg e] at hq ht
   exact h.els a q t hq ht
end Go.Proofs.YteolfamhmfidbaaGreatDoor
