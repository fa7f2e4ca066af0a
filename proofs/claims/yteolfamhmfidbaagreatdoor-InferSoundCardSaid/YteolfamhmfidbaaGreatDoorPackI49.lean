/- Parts of a proof: InfSndP. -/
import Derived.Test.YteolfamhmfidbaaGreatDoorPackI30
import Derived.Test.YteolfamhmfidbaaGreatDoorPackI46
set_option maxHeartbeats 8000000
set_option maxRecDepth 100000
set_option linter.unusedVariables false
set_option linter.unusedSimpArgs false
namespace Go.Proofs.YteolfamhmfidbaaGreatDoor
open Go Go.RowKit P
theorem z9h {n:Nat} {L:Rel} (h:Lat n L) {d:Nat}:∀ (l:List Int) (x:Nat),x < n->allL n l= true->L (foldJ n L x l) d=(L x d && l.all fun a=>L a.toNat d)
 |[],x,_,_=>by simp[foldJ]
 |a::l,x,hx,ha=>by
  simp only[allL,List.all_cons,Bool.and_eq_true] at ha
  obtain⟨y,rfl,hy⟩:=z0u ha.1
  have ih:=z9h h (d:=d) l (jj n L x y) (h.jj_lt hx hy) ha.2
  show L (foldJ n L (jj n L x ((y:Int)).toNat) l) d= _
  have hj:L (jj n L x y) d=(L x d && L y d):=by
   have sp:=h.jj_spec hx hy
   rw[Bool.eq_iff_iff,Bool.and_eq_true]
   exact⟨fun k=>⟨h.trans _ _ _ sp.2.2.1 k,h.trans _ _ _ sp.2.2.2.1 k⟩,fun k=>sp.2.2.2.2 _ k.1 k.2⟩
  rw[Int.toNat_natCast,ih,hj,List.all_cons,Int.toNat_natCast,Bool.and_assoc]
theorem zh3 (t:ET):∀ n,n < 500->n<=cntE t n:=by
 induction t using ET.ind with
 |h k s v ns its ih=>
  intro n hn
  rw[cntE]
  have key:∀ (l:List ET) (m:Nat),(∀ x∈l,∀ n,n < 500->n<=cntE x n)->m<=cntEL l m:=by
   intro l
   induction l with
   |nil=>intro m _;rw[cntEL];exact Nat.le_refl _
   |cons a l ihl=>
    intro m hx
    rw[cntEL]
    split
    ·exact Nat.le_refl _
    ·exact Nat.le_trans (hx a (by simp) m (by omega)) (ihl _ fun x hxx=>hx x (List.mem_cons_of_mem _ hxx))
  have:=key its (n+1) ih
  omega
theorem z9Z:∀ (l:List ET) (m:Nat),m<=cntEL l m
 |[],m=>by rw[cntEL];exact Nat.le_refl _
 |a::l,m=>by
  rw[cntEL]
  split
  ·exact Nat.le_refl _
  ·exact Nat.le_trans (zh3 a m (by omega)) (z9Z l _)
theorem zcn {nm:ByteArray} (t:ET):∀ n,cntE t n < 500->z1b nm t= true->∃ s∈visE t n,s.toList= nm.toList:=by
 induction t using ET.ind with
 |h k s v ns its ih=>
  intro n hc hr
  rw[cntE] at hc
  rw[z1b,Bool.or_eq_true] at hr
  rw[visE]
  rcases hr with hr|hr
  ·simp only[Bool.and_eq_true,decide_eq_true_eq,beq_iff_eq] at hr
   rw[if_pos hr.1]
   exact⟨s,by simp,hr.2⟩
  ·have key:∀ (l:List ET) (m:Nat),(∀ x∈l,∀ n,cntE x n < 500->z1b nm x= true->∃ s∈visE x n,s.toList= nm.toList)->cntEL l m < 500->z1G nm l= true->∃ s∈visEL l m,s.toList= nm.toList:=by
    intro l
    induction l with
    |nil=>intro m _ _ h;rw[z1G] at h;cases h
    |cons a l ihl=>
     intro m hx hc h
     have h5: ¬ 500<=m:=by
      intro h5
      rw[cntEL,if_pos h5] at hc
      omega
     rw[cntEL,if_neg h5] at hc
     rw[z1G,Bool.or_eq_true] at h
     rw[visEL,if_neg h5]
     rcases h with h|h
     ·obtain⟨s,hs,e⟩:=hx a (by simp) m (Nat.lt_of_le_of_lt (z9Z l _) hc) h
      exact⟨s,List.mem_append_left _ hs,e⟩
     ·obtain⟨s,hs,e⟩:=ihl _ (fun x hxx=>hx x (List.mem_cons_of_mem _ hxx)) hc h
      exact⟨s,List.mem_append_right _ hs,e⟩
   obtain⟨s',hs,e⟩:=key its (n+1) ih hc hr
   exact⟨s',List.mem_append_right _ hs,e⟩
theorem zcr {nm:ByteArray} {t:ET} (hc:cntE t 0<=200) (hr:z1b nm t= true):nm.toList∈readL t:=by
 obtain⟨s,hs,e⟩:=zcn t 0 (by omega) hr
 unfold readL
 rw[z55]
 left
 rw[← e,toList_eq]
 exact List.mem_map.2 ⟨s,hs,rfl⟩
theorem z8o {E:List VarT} {ok:Int->Bool} {a:Int} {s:List UInt8}:∀ (l:List (List UInt8)),(labsV E ok l).2= 0->s∈l->labOf E s= some a->a∈(labsV E ok l).1
 |[],_,h,_=>by cases h
 |b::r,h0,h,ha=>by
  unfold labsV at h0 ⊢
  cases hb:labOf E b with
  |none=>rw[hb] at h0;simp at h0
  |some c=>
   rw[hb] at h0
   simp only at h0 ⊢
   by_cases hk:ok c= true
   ·rw[if_pos hk] at h0 ⊢
    rcases List.mem_cons.1 h with rfl|h
    ·rw[hb] at ha
     injection ha with ha
     subst ha
     exact List.mem_cons_self
    ·exact List.mem_cons_of_mem _ (z8o r h0 h ha)
   ·rw[if_neg hk] at h0;simp at h0
theorem zdL {n:Nat} {L:Rel} (hL:Lat n L) {E:List VarT} {t:ET} {a lv:Int} (h:labE n L E t=(a,0)) (hs:lqI n L a lv= true) {s:ByteArray} (hr:z1b s t= true) {i:Nat} {x:VarT} (hf:findV E s=(i:Int)) (hx:E[i]?= some x):
  lqI n L x.label lv= true:=by
 unfold labE at h
 by_cases hrt:zJ t= true
 ·rw[if_pos hrt] at h
  unfold labX at h
  by_cases h0:(labsV E (isL n) (readL t)).2= 0
  ·rw[if_pos h0] at h
   injection h with h1 h2
   have hc:cntE t 0<=200:=by
    unfold zJ at hrt
    rw[Bool.and_eq_true,decide_eq_true_eq] at hrt
    exact hrt.1
   have hm:=zcr hc hr
   have ha:labOf E s.toList= some x.label:=by
    rcases z6n (E:=E) (s:=s) with ⟨h,_⟩|⟨j,y,h,hy,he⟩
    ·omega
    ·obtain rfl:i= j:=by omega
     rw[hx] at hy
     injection hy with hy
     subst hy
     exact he
   have hin:=z8o _ h0 hm ha
   have hok:=z5r (n:=n) (E:=E) (readL t)
   have hxl:isL n x.label= true:=by
    unfold allL at hok
    exact List.all_eq_true.1 hok _ hin
   obtain⟨b,hb,hbn⟩:=z0u hxl
   rw[← h1] at hs
   unfold lqI at hs ⊢
   simp only[Bool.and_eq_true] at hs ⊢
   refine⟨⟨hxl,hs.1.2⟩,?_⟩
   have hbot:=hL.bot_lt
   have hfl:=z9h hL (d:=lv.toNat) (labsV E (isL n) (readL t)).1 (bot n L) hbot hok
   rw[Int.toNat_natCast] at hs
   rw[hs.2] at hfl
   have:=hfl.symm
   rw[Bool.and_eq_true,List.all_eq_true] at this
   exact this.2 _ hin
  ·rw[if_neg h0] at h
   injection h with h1 h2
   exact absurd h2 h0
 ·rw[if_neg hrt] at h
  injection h with h1 h2
  cases h2
theorem z9H {E:List VarT} {V V':List VT} (x:ET):(∀ s,z1b s x= true->∀ i:Nat,findV E s=(i:Int)->V[i]?= V'[i]?)->evalE E V x= evalE E V' x:=by
 induction x using ET.ind with
 |h k s v ns its ih=>
  intro h
  have hmem:∀ (l:List ET) (nm:ByteArray) (x:ET),x∈l->z1b nm x= true->z1G nm l= true:=by
   intro l nm
   induction l with
   |nil=>intro x hx;cases hx
   |cons a l ihl=>
    intro x hx hr
    rw[z1G,Bool.or_eq_true]
    rcases List.mem_cons.1 hx with rfl|hx
    ·exact .inl hr
    ·exact .inr (ihl x hx hr)
  have hL:zK E V its= zK E V' its:=by
   rw[z3Q,z3Q]
   exact List.map_congr_left fun x hx=>ih x hx fun nm hnm i hi=>h nm (by rw[z1b,hmem its nm x hx hnm,Bool.or_true]) i hi
  rw[evalE,evalE,hL]
  by_cases h2:k= 2
  ·have hN:nameR E V s= nameR E V' s:=by
    unfold nameR
    split
    ·rfl
    ·rename_i hf
     have h0:0<=findV E s:=by
      rcases z8O E s with h|h
      ·exact absurd h hf
      ·exact h.1
     rw[h s (by rw[z1b,decide_eq_true h2];simp) (findV E s).toNat (by omega)]
   rw[hN]
  ·rw[if_neg h2,if_neg h2]
theorem z9n {n:Nat} {L:Rel} (hL:Lat n L) {E:List VarT} {t:ET} {a lv:Int} {U W:List VT} (h:labE n L E t=(a,0)) (hs:lqI n L a lv= true) (hl:U.length= W.length)
  (hd:∀ (i:Nat) x,E[i]?= some x->U[i]?= W[i]?\/(lqI n L x.label lv= false/\∃ p q,U[i]?= some p/\W[i]?= some q/\zh p= true/\zh q= true)) (hE:U.length= E.length):evalT t E U= evalT t E W:=by
 have hall:U.all zh= W.all zh:=by
  rw[Bool.eq_iff_iff,List.all_eq_true,List.all_eq_true]
  have side:∀ (U W:List VT),U.length= W.length->U.length= E.length->(∀ (i:Nat) x,E[i]?= some x->U[i]?= W[i]?\/∃ q,W[i]?= some q/\zh q= true)->(∀ v∈U,zh v= true)->∀ v∈W,zh v= true:=by
   intro U W hl hE hd hU v hv
   obtain⟨i,hi⟩:=List.mem_iff_getElem?.1 hv
   have hlt:=(List.getElem?_eq_some_iff.1 hi).1
   obtain⟨x,hx⟩:∃ x,E[i]?= some x:=⟨_,List.getElem?_eq_getElem (by omega)⟩
   rcases hd i x hx with h|⟨q,hq,hr⟩
   ·rw[← h] at hi
    exact hU v (List.mem_of_getElem? hi)
   ·rw[hi] at hq
    injection hq with hq
    rw[hq];exact hr
  constructor
  ·exact side U W hl hE fun i x hx=>(hd i x hx).imp id fun⟨_,_,q,_,hq,_,hr⟩=>⟨q,hq,hr⟩
  ·exact side W U hl.symm (by omega) fun i x hx=>(hd i x hx).imp Eq.symm fun⟨_,p,_,hp,_,hr,_⟩=>⟨p,hp,hr⟩
 have hev:evalE E U t= evalE E W t:=z9H t fun s hr i hi=>by
  obtain⟨x,hx,_⟩:=zdV hi
  rcases hd i x hx with h2|⟨h2,_⟩
  ·exact h2
  ·rw[zdL hL h hs hr hi hx] at h2
   cases h2
 unfold evalT
 rw[hall,hev]
end Go.Proofs.YteolfamhmfidbaaGreatDoor
