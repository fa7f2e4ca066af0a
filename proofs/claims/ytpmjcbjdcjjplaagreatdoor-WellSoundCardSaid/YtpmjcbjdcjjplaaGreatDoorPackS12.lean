/- Parts of a proof: Typ, RTyp, Rows4, Fits, RFits, CntT, SamT, SamX, ESmallQ, MSmall. -/
import Derived.Test.YtpmjcbjdcjjplaaGreatDoorPackS11
set_option maxHeartbeats 8000000
set_option maxRecDepth 100000
set_option linter.unusedVariables false
set_option linter.unusedSimpArgs false
namespace Go.Proofs.YtpmjcbjdcjjplaaGreatDoor
section
open Go Go.RowKit
theorem TypAt.next {w w':World} {cs:List Value} {t:TT} (h:TypAt w w.heap.size cs t) (hb:Below w.heap.size w w'):TypAt w' w'.heap.size cs t:=(h.under hb).more hb.size
theorem z1u {w:World} {v:Value} {l:List TT} (h:SlAt w w.heap.size 3 (TypAt w w.heap.size) v l):∃ A c,v= .slice A l.length c/\l.length<=9223372036854775807/\
  (0 < l.length->∃ b o,A= some ⟨b,o,none⟩/\b < w.heap.size/\∀ (i:Nat) x,l[i]?= some x->∃ cs:List Value,w.rangeAt b (o+i*3) cs/\TypAt w w.heap.size cs x):=by
 obtain⟨h0,A,c,h1,h2⟩:=h;refine⟨A,c,h1,h0,fun hp=> ?_⟩;obtain⟨b,o,h3,h4,h5⟩:=h2 hp;refine⟨b,o,h3,h4,fun i x hx=> ?_⟩;obtain⟨cs,_,h7,h8⟩:=h5 i x hx;exact⟨cs,h7,h8⟩
theorem zl {w:World} {B:Nat} {cs:List Value} {t:TT} (h:TypAt w B cs t):cs.length= 3/\∀ u∈cs,u.oneCell'= true:=by
 cases t with
 |mk k ns its=>
  have h9:=h.one;obtain⟨vn,vi,rfl,_,h1,_,h2⟩:=h.inv;exact⟨rfl,h9⟩
mutual
def cntT:TT->Nat->Nat
 | .mk _ _ its,n=>cntTL its (n+1)
def cntTL:List TT->Nat->Nat
 |[],n=>n
 |a::l,n=>if 500<=n then n else cntTL l (cntT a n)
end
theorem z8g:∀ (l:List TT) (n:Nat),(∀ x∈l,∀ m,m < 500->cntT x m<=500)->n<=500->cntTL l n<=500
 |[],n,_,h=>by rw[cntTL];exact h
 |a::l,n,h,hn=>by
  rw[cntTL]
  split
  ·exact hn
  ·exact z8g l _ (fun x hx=>h x (List.mem_cons_of_mem _ hx)) (h a (List.mem_cons_self ..) n (by omega))
theorem zaa (t:TT):∀ m,m < 500->cntT t m<=500:=by
 induction t using TT.ind with
 |h k ns its ih=>exact fun m hm=>by rw[cntT];exact z8g its _ ih (by omega)
theorem z5N {l:List TT} {k m:Nat} {x:TT} (h:l[k]?= some x):cntTL (l.drop k) m= if 500<=m then m else cntTL (l.drop (k+1)) (cntT x m):=by
 rw[z0d h,cntTL]
theorem z7c {l:List TT} {m:Nat}:cntTL (l.drop l.length) m= m:=by
 rw[List.drop_eq_nil_of_le (Nat.le_refl _),cntTL]
mutual
def zG:TT->Nat->Bool
 | .mk k ns its,d=>
  if 12 < d then false
  else if k= 5 then(its.length ==1) && ((ns.length ==0) && z0b its (d+1))
  else if k= 6 then(ns.length ==its.length) && (riseB none ns && z0b its (d+1))
  else if k= 1\/k= 2\/k= 3\/k= 4\/k= 7 then(ns.length ==0) && (its.length ==0)
  else false
def z0b:List TT->Nat->Bool
 |[],_=>true
 |a::l,d=>zG a d && z0b l d
end
theorem z3n {l:List TT} {k d:Nat} {x:TT} (h:l[k]?= some x):z0b (l.drop k) d=(zG x d && z0b (l.drop (k+1)) d):=by
 rw[z0d h,z0b]
theorem z45 {l:List TT} {d:Nat}:z0b (l.drop l.length) d= true:=by
 rw[List.drop_eq_nil_of_le (Nat.le_refl _),z0b]
theorem zbv {l : List TT} {d : Nat} {x : TT} (hl : l.length = 1) (h : l[0]? = some x) : z0b l d = zG x d := by
  match l, hl with
  | [y], _ => obtain rfl : y = x := by simpa using h
              simp [z0b]
theorem z80:∀ (t:TT) (m:Nat) (cs:List Value) (p o:Nat) (w:World),m < 500->w.rangeAt p o cs->TypAt w w.heap.size cs t->
  Calls Tryz.prog 82 #[.pointer (some ⟨p,o,none⟩),.int .i64 m] w fun e w'=>e= .returned (.int .i64 (cntT t m:Nat))/\w'= w:=by
 intro t
 induction t using TT.ind with
 |h k ns its ih=>
  intro m cs p o w hm hr hv;have IH:=I ih;obtain⟨vn,vi,rfl,_,_,_,hi⟩:=hv.inv;obtain⟨A,c,rfl,b5,hA⟩:=z1u hi;have HA:=I hA;have d2:=hr 2 _ rfl;have HS:=I (fun k m x=>z5N (l:=its) (k:=k) (m:=m) (x:=x));have HE:=I (fun m=>z7c (l:=its) (m:=m));have X:=I (fun x m hm=>zaa x m hm);have H0:Hid (cntTL (its.drop 0) (m+1)= cntT (.mk k ns its) m):=I (by rw[cntT];rfl);have b7:(m:Int) < 500:=by omega
  clear ih hi hA hr hv;generalize cntT (.mk k ns its) m= res at*;go_enter Tryz.func82,Tryz.ntmps82;go_wp2;go_loopg [1,13] its.length (fun q n x u=>∃ (j m:Nat),j+q= its.length/\x= .int .i64 j/\n= .int .i64 m/\m<=500/\u= w/\cntTL (its.drop j) m= res);case atStart=>exact⟨0,m+1,by omega,rfl,by go_num,by omega,rfl,H0.o⟩
  case round=>
   obtain⟨j,m,hj,rfl,rfl,b8,rfl,g⟩:=hrel;have HR:=I g;clear g;cases gk with
   |zero=>
    obtain rfl:j= its.length:=by omega
    have b4: ¬ ((its.length:Int) <(its.length:Int)):=by omega
    have N:=I (HR.o.symm.trans (HE.o m));go_wp2;go_ret;exact⟨by rw[N.o];rfl,rfl⟩
   |succ q=>
    have b6:(j:Int) <(its.length:Int):=by omega
    obtain⟨x,O⟩:∃ x,its[j]?= some x:=⟨_,List.getElem?_eq_getElem (by omega)⟩;obtain⟨b,o',rfl,b3,Y⟩:=HA.o (by omega);obtain⟨ks,G,K⟩:=Y j x O;have N:=I (HR.o.symm.trans (HS.o j m x O));by_cases h5:500<=m
    ·have C:=I (N.o.trans (if_pos h5))
     have t1:(500:Int)<=(m:Int):=by omega
     clear Y G K O N;go_wp2;go_ret;exact⟨by rw[C.o];rfl,rfl⟩
    ·have C:=I (N.o.trans (if_neg h5))
     have t1: ¬ ((500:Int)<=(m:Int)):=by omega
     have HC:=I (IH.o x (List.mem_of_getElem? O) m ks b (o'+j*3) wr (by omega) G K);have a0:=X.o x m (by omega);clear Y G K O N h5;go_wp2_with (go_at_call 82;refine HC.o.mono ?_;rintro e z ⟨rfl,rfl⟩);go_roundg q;case measure=>omega
     case rel=>exact⟨j+1,_,by omega,by go_num,rfl,a0,rfl,C.o.symm⟩
theorem zdV:∀ (t:TT) (d:Nat) (cs:List Value) (p o:Nat) (w:World),d<=13->p < w.heap.size->w.rangeAt p o cs->TypAt w w.heap.size cs t->
  Calls Tryz.prog 83 #[.pointer (some ⟨p,o,none⟩),.int .i64 d] w fun e w'=>e= .returned (.bool (zG t d))/\Below w.heap.size w w':=by
 intro t
 induction t using TT.ind with
 |h k ns its ih=>
  intro d cs p o w hd hp hr hv;have IH:=I ih;obtain⟨vn,vi,rfl,_,hn,_,hi⟩:=hv.inv;obtain⟨_,NA,nc,rfl,_⟩:=id hn;obtain⟨A,c,rfl,e8,hA⟩:=z1u hi;have f0:=hn.1;have HN:=I hn;have HA:=I hA;have a0:=I hr;have HP:=I hp;have d0:w.cell? ⟨p,o,none⟩= some (.int .i64 k):=hr 0 _ rfl;have d1:=hr 1 _ rfl;have d2:=hr 2 _ rfl;have HO:Hid (zG (.mk k ns its) d= if 12 < d then false
   else if k= 5 then(its.length ==1) && ((ns.length ==0) && z0b its (d+1))
   else if k= 6 then(ns.length ==its.length) && (riseB none ns && z0b its (d+1))
   else if k= 1\/k= 2\/k= 3\/k= 4\/k= 7 then(ns.length ==0) && (its.length ==0)
   else false):=I (by rw[zG])
  generalize a2:zG (.mk k ns its) d= res at*;clear ih hr hv hn hi hA hp a2;by_cases hdeep:12 < d
  ·have N:=I (HO.o.trans (if_pos hdeep))
   have t1:(12:Int) <(d:Int):=by omega
   clear HO hdeep;go_enter Tryz.func83,Tryz.ntmps83;go_wp2;go_ret;exact⟨z8 N.o.symm,Below.refl _ w⟩
  have t1: ¬ ((12:Int) <(d:Int)):=by omega
  have a9:=I (HO.o.trans (if_neg hdeep));clear HO;by_cases k5:k= 5
  ·subst k5
   have N:=I (a9.o.trans (if_pos rfl));clear a9;by_cases hm0:ns.length= 0
   ·have m1:((ns.length:Int) ==0)= true:=by rw[hm0];rfl
    have g:(ns.length ==0)= true:=by rw[hm0];rfl
    by_cases hi1:its.length= 1
    ·have j1:((its.length:Int) ==1)= true:=by rw[hi1];rfl
     have b6:(its.length ==1)= true:=by rw[hi1];rfl
     obtain⟨x,hx⟩:∃ x,its[0]?= some x:=⟨_,List.getElem?_eq_getElem (by omega)⟩;obtain⟨b,o',rfl,b2,hc⟩:=HA.o (by omega);obtain⟨ks,a6,a7⟩:=hc 0 x hx;have b5:w.rangeAt b o' ks:=by simpa using a6
     have HC:=I (IH.o x (List.mem_of_getElem? hx) (d+1) ks b o' w (by omega) b2 b5 a7);have a5:((d+1:Nat):Int)=(d:Int)+1:=by omega
     rw[a5] at HC;have C:Hid (res= zG x (d+1)):=I (by rw[N.o,zbv hi1 hx];simp[g,b6]);have e1:(0:Int) <(its.length:Int):=by omega
     clear hc a6 b5 a7 hx a5 hi1 hm0;generalize zG x (d+1)= rx at*;go_enter Tryz.func83,Tryz.ntmps83;go_wp2_with (go_at_call 83;refine zg HC.o ?_;intro z a3);go_ret;exact⟨z8 C.o.symm,a3.o⟩
    ·have j1:((its.length:Int) ==1)= false:=by rw[beq_eq_false_iff_ne];omega
     have b6:(its.length ==1)= false:=by simpa using hi1
     clear hi1 hm0;have C:Hid (res= false):=I (by rw[N.o];simp[g,b6]);go_enter Tryz.func83,Tryz.ntmps83;go_wp2;go_ret;exact⟨z8 C.o.symm,Below.refl _ w⟩
   ·have m1:((ns.length:Int) ==0)= false:=by rw[beq_eq_false_iff_ne];omega
    have g:(ns.length ==0)= false:=by simpa using hm0
    clear hm0;have C:Hid (res= false):=I (by rw[N.o];simp[g]);go_enter Tryz.func83,Tryz.ntmps83;go_wp2;go_ret;exact⟨z8 C.o.symm,Below.refl _ w⟩
  have b0:=I (a9.o.trans (if_neg k5));clear a9;by_cases k6:k= 6
  ·subst k6
   have N:=I (b0.o.trans (if_pos rfl));clear b0;have b8:=I (fun z (hz:Below w.heap.size w z)=>z6k (.slice NA ns.length nc) ns z ((HN.o.below hz fun _ _ _ h=>h).more hz.size));by_cases hlen:ns.length= its.length
   ·have Y:=I (N.o.trans (by rw[show(ns.length ==its.length)= true from by rw[hlen];exact beq_self_eq_true _,Bool.true_and]))
    have t2:((ns.length:Int) !=(its.length:Int))= false:=by rw[hlen];exact bne_self_eq_false _
    clear N hlen;generalize riseB none ns= rb at*;cases rb with
    |false=>
     have d3:Hid (res= false):=I (Y.o.trans (Bool.false_and _));clear Y;go_enter Tryz.func83,Tryz.ntmps83;go_upto_region 13 with (fail);clear d0 d1 d2;refine zo [(0,true),(1,true),(2,true),(3,true),(4,true),(5,true),(6,true),(7,true),(8,true),(9,true),(10,true),(11,true),(12,true),(13,true),(14,true),(15,true),(16,false),(17,true),(18,true)] (fun z=>Below w.heap.size w z) (by kernel_rfl) (by intro c a d v w h;cases d<;>exact h) ?_;have G:Below w.heap.size w w.drew:=(Below.refl _ w).drew;refine zf 60 (.pointer (some ⟨p,o,none⟩)) rfl rfl rfl rfl G rfl ?_;go_frame;refine z7 61 (.pointer (some ⟨p,o,none⟩)) rfl rfl rfl G (fun z hz=>by go_simp) ?_;go_frame;refine z7 62 (.pointer (some ⟨p,o+1,none⟩)) rfl rfl rfl G (fun z hz=>by go_simp) ?_;go_frame;refine z7 63 (.slice NA ns.length nc) rfl rfl rfl G (fun z hz=>by have dd:=(hz.cell (p:=⟨p,o+1,none⟩) HP.o).trans (a0.o 1 _ rfl);go_simp) ?_;go_frame;refine z7 64 (.int .i64 ns.length) rfl rfl rfl G (fun z hz=>by go_simp) ?_;go_frame;refine zf 65 (.pointer (some ⟨p,o,none⟩)) rfl rfl rfl rfl G rfl ?_;go_frame;refine z7 66 (.pointer (some ⟨p,o,none⟩)) rfl rfl rfl G (fun z hz=>by go_simp) ?_;go_frame;refine z7 67 (.pointer (some ⟨p,o+2,none⟩)) rfl rfl rfl G (fun z hz=>by go_simp) ?_;go_frame;refine z7 68 (.slice A its.length c) rfl rfl rfl G (fun z hz=>by have dd:=(hz.cell (p:=⟨p,o+2,none⟩) HP.o).trans (a0.o 2 _ rfl);go_simp) ?_;go_frame;refine z7 69 (.int .i64 its.length) rfl rfl rfl G (fun z hz=>by go_simp) ?_;go_frame;refine z7 70 (.bool false) rfl rfl rfl G (fun z hz=>by go_simp) ?_;go_frame;refine zf 71 (.bool false) rfl rfl rfl rfl G rfl ?_;go_frame;refine zf 72 (.pointer (some ⟨p,o,none⟩)) rfl rfl rfl rfl G rfl ?_;go_frame;refine z7 73 (.pointer (some ⟨p,o,none⟩)) rfl rfl rfl G (fun z hz=>by go_simp) ?_;go_frame;refine z7 74 (.pointer (some ⟨p,o+1,none⟩)) rfl rfl rfl G (fun z hz=>by go_simp) ?_;go_frame;refine z7 75 (.slice NA ns.length nc) rfl rfl rfl G (fun z hz=>by have dd:=(hz.cell (p:=⟨p,o+1,none⟩) HP.o).trans (a0.o 1 _ rfl);go_simp) ?_;go_frame;refine zA 76 108 Tryz.func108 (by kernel_rfl) [.slice NA ns.length nc] rfl rfl rfl rfl rfl ?_;refine(b8.o _ G).mono ?_;rintro e z1 ⟨rfl,a4⟩;have X:Below w.heap.size w z1:=(beT G a4);refine⟨.bool false,rfl,X,?_⟩;clear a4;go_frame;refine z7 77 (.bool true) rfl rfl rfl X (fun z hz=>by go_simp) ?_;go_frame;refine zE (some 78) (.bool true) _ _ _ _ false rfl rfl rfl rfl (by exact wA rfl) X rfl ?_;go_frame;refine zD ?_;have a8:=I X;clear G X;go_wp2;go_ret;exact⟨z8 d3.o.symm,a8.o⟩
    |true=>
     have d4:Hid (res= z0b its (d+1)):=I (Y.o.trans (Bool.true_and _));clear Y;go_enter Tryz.func83,Tryz.ntmps83;go_upto_region 13 with (fail);clear d0 d1 d2;refine zo [(0,true),(1,true),(2,true),(3,true),(4,true),(5,true),(6,true),(7,true),(8,true),(9,true),(10,true),(11,true),(12,true),(13,true),(14,true),(15,true),(16,false),(17,true),(18,true)] (fun z=>Below w.heap.size w z) (by kernel_rfl) (by intro c a d v w h;cases d<;>exact h) ?_;have G:Below w.heap.size w w.drew:=(Below.refl _ w).drew;refine zf 60 (.pointer (some ⟨p,o,none⟩)) rfl rfl rfl rfl G rfl ?_;go_frame;refine z7 61 (.pointer (some ⟨p,o,none⟩)) rfl rfl rfl G (fun z hz=>by go_simp) ?_;go_frame;refine z7 62 (.pointer (some ⟨p,o+1,none⟩)) rfl rfl rfl G (fun z hz=>by go_simp) ?_;go_frame;refine z7 63 (.slice NA ns.length nc) rfl rfl rfl G (fun z hz=>by have dd:=(hz.cell (p:=⟨p,o+1,none⟩) HP.o).trans (a0.o 1 _ rfl);go_simp) ?_;go_frame;refine z7 64 (.int .i64 ns.length) rfl rfl rfl G (fun z hz=>by go_simp) ?_;go_frame;refine zf 65 (.pointer (some ⟨p,o,none⟩)) rfl rfl rfl rfl G rfl ?_;go_frame;refine z7 66 (.pointer (some ⟨p,o,none⟩)) rfl rfl rfl G (fun z hz=>by go_simp) ?_;go_frame;refine z7 67 (.pointer (some ⟨p,o+2,none⟩)) rfl rfl rfl G (fun z hz=>by go_simp) ?_;go_frame;refine z7 68 (.slice A its.length c) rfl rfl rfl G (fun z hz=>by have dd:=(hz.cell (p:=⟨p,o+2,none⟩) HP.o).trans (a0.o 2 _ rfl);go_simp) ?_;go_frame;refine z7 69 (.int .i64 its.length) rfl rfl rfl G (fun z hz=>by go_simp) ?_;go_frame;refine z7 70 (.bool false) rfl rfl rfl G (fun z hz=>by go_simp) ?_;go_frame;refine zf 71 (.bool false) rfl rfl rfl rfl G rfl ?_;go_frame;refine zf 72 (.pointer (some ⟨p,o,none⟩)) rfl rfl rfl rfl G rfl ?_;go_frame;refine z7 73 (.pointer (some ⟨p,o,none⟩)) rfl rfl rfl G (fun z hz=>by go_simp) ?_;go_frame;refine z7 74 (.pointer (some ⟨p,o+1,none⟩)) rfl rfl rfl G (fun z hz=>by go_simp) ?_;go_frame;refine z7 75 (.slice NA ns.length nc) rfl rfl rfl G (fun z hz=>by have dd:=(hz.cell (p:=⟨p,o+1,none⟩) HP.o).trans (a0.o 1 _ rfl);go_simp) ?_;go_frame;refine zA 76 108 Tryz.func108 (by kernel_rfl) [.slice NA ns.length nc] rfl rfl rfl rfl rfl ?_;refine(b8.o _ G).mono ?_;rintro e z1 ⟨rfl,a4⟩;have X:Below w.heap.size w z1:=(beT G a4);refine⟨.bool true,rfl,X,?_⟩;clear a4;go_frame;refine z7 77 (.bool false) rfl rfl rfl X (fun z hz=>by go_simp) ?_;go_frame;refine zE (some 78) (.bool false) _ _ _ _ false rfl rfl rfl rfl (by exact wA rfl) X rfl ?_;go_frame;refine zD ?_;have a8:=I X;clear G X;have e2:=(a8.o.cell (p:=⟨p,o+2,none⟩) HP.o).trans (a0.o 2 _ rfl);go_wp2;clear e2;go_loopg [84] its.length (fun q x u=>∃ j:Nat,j+q= its.length/\x= .int .i64 j/\Below w.heap.size w u/\z0b (its.drop j) (d+1)= res);case atStart=>exact⟨0,by omega,rfl,a8.o,d4.o.symm⟩
     case round=>
      obtain⟨j,hj,rfl,hb,a2⟩:=hrel;have C:=I a2;have a1:=I hb;clear a2 hb;cases gk with
      |zero=>
       obtain rfl:j= its.length:=by omega
       have e7: ¬ ((its.length:Int) <(its.length:Int)):=by omega
       have d5:=I (C.o.symm.trans z45);go_wp2;go_ret;exact⟨z8 d5.o.symm,a1.o⟩
      |succ q=>
       have e9:(j:Int) <(its.length:Int):=by omega
       obtain⟨x,hx⟩:∃ x,its[j]?= some x:=⟨_,List.getElem?_eq_getElem (by omega)⟩;obtain⟨b,o',rfl,b2,hc⟩:=HA.o (by omega);obtain⟨ks,a6,a7⟩:=hc j x hx;have b1:=I (C.o.symm.trans (z3n hx));have e6:=(a1.o.cell (p:=⟨p,o+2,none⟩) HP.o).trans (a0.o 2 _ rfl);have HC:=I (IH.o x (List.mem_of_getElem? hx) (d+1) ks b (o'+j*3) wr (by omega) (Nat.lt_of_lt_of_le b2 a1.o.size) (zb a6 a1.o b2) (a7.next a1.o));have a5:((d+1:Nat):Int)=(d:Int)+1:=by omega
       rw[a5] at HC;clear hc a6 a7 hx a5;generalize zG x (d+1)= rx at*;cases rx with
       |true=>
        have Y:=I (b1.o.trans (Bool.true_and _));clear b1;go_wp2_with (go_at_call 83;refine zg HC.o ?_;intro z a3);go_roundg q;case measure=>omega
        case rel=>exact⟨j+1,by omega,by go_num,(beT a1.o a3.o),Y.o.symm⟩
       |false=>
        have Y:Hid (res= false):=I (b1.o.trans (Bool.false_and _));clear b1;go_wp2_with (go_at_call 83;refine zg HC.o ?_;intro z a3);go_ret;exact⟨z8 Y.o.symm,(beT a1.o a3.o)⟩
   ·have Y:Hid (res= false):=I (N.o.trans (by rw[beq_eq_false_iff_ne.2 hlen];exact Bool.false_and _))
    have t2:((ns.length:Int) !=(its.length:Int))= true:=by rw[bne_iff_ne];omega
    clear N hlen;go_enter Tryz.func83,Tryz.ntmps83;go_wp2;go_quiet (fail);go_wp2;go_ret;exact⟨z8 Y.o.symm,zj (Below.refl _ w) _⟩
  have O:=I (b0.o.trans (if_neg k6));clear b0;by_cases k1:k= 1
  ·subst k1
   have N:=I (O.o.trans (if_pos (by decide)));clear O;by_cases hm0:ns.length= 0
   ·have m1:((ns.length:Int) ==0)= true:=by rw[hm0];rfl
    have g:(ns.length ==0)= true:=by rw[hm0];rfl
    clear hm0;by_cases hi0:its.length= 0
    ·have i1:((its.length:Int) ==0)= true:=by rw[hi0];rfl
     have K:(its.length ==0)= true:=by rw[hi0];rfl
     clear hi0;have C:Hid (res= true):=I (by rw[N.o];simp[g,K]);go_enter Tryz.func83,Tryz.ntmps83;go_wp2;go_ret;exact⟨z8 C.o.symm,Below.refl _ w⟩
    ·have i1:((its.length:Int) ==0)= false:=by rw[beq_eq_false_iff_ne];omega
     have K:(its.length ==0)= false:=by simpa using hi0
     clear hi0;have C:Hid (res= false):=I (by rw[N.o];simp[g,K]);go_enter Tryz.func83,Tryz.ntmps83;go_wp2;go_ret;exact⟨z8 C.o.symm,Below.refl _ w⟩
   ·have m1:((ns.length:Int) ==0)= false:=by rw[beq_eq_false_iff_ne];omega
    have g:(ns.length ==0)= false:=by simpa using hm0
    clear hm0;have C:Hid (res= false):=I (by rw[N.o];simp[g]);go_enter Tryz.func83,Tryz.ntmps83;go_wp2;go_ret;exact⟨z8 C.o.symm,Below.refl _ w⟩
  by_cases k2:k= 2
  ·subst k2
   have N:=I (O.o.trans (if_pos (by decide)));clear O;by_cases hm0:ns.length= 0
   ·have m1:((ns.length:Int) ==0)= true:=by rw[hm0];rfl
    have g:(ns.length ==0)= true:=by rw[hm0];rfl
    clear hm0;by_cases hi0:its.length= 0
    ·have i1:((its.length:Int) ==0)= true:=by rw[hi0];rfl
     have K:(its.length ==0)= true:=by rw[hi0];rfl
     clear hi0;have C:Hid (res= true):=I (by rw[N.o];simp[g,K]);go_enter Tryz.func83,Tryz.ntmps83;go_wp2;go_ret;exact⟨z8 C.o.symm,Below.refl _ w⟩
    ·have i1:((its.length:Int) ==0)= false:=by rw[beq_eq_false_iff_ne];omega
     have K:(its.length ==0)= false:=by simpa using hi0
     clear hi0;have C:Hid (res= false):=I (by rw[N.o];simp[g,K]);go_enter Tryz.func83,Tryz.ntmps83;go_wp2;go_ret;exact⟨z8 C.o.symm,Below.refl _ w⟩
   ·have m1:((ns.length:Int) ==0)= false:=by rw[beq_eq_false_iff_ne];omega
    have g:(ns.length ==0)= false:=by simpa using hm0
    clear hm0;have C:Hid (res= false):=I (by rw[N.o];simp[g]);go_enter Tryz.func83,Tryz.ntmps83;go_wp2;go_ret;exact⟨z8 C.o.symm,Below.refl _ w⟩
  by_cases k3:k= 3
  ·subst k3
   have N:=I (O.o.trans (if_pos (by decide)));clear O;by_cases hm0:ns.length= 0
   ·have m1:((ns.length:Int) ==0)= true:=by rw[hm0];rfl
    have g:(ns.length ==0)= true:=by rw[hm0];rfl
    clear hm0;by_cases hi0:its.length= 0
    ·have i1:((its.length:Int) ==0)= true:=by rw[hi0];rfl
     have K:(its.length ==0)= true:=by rw[hi0];rfl
     clear hi0;have C:Hid (res= true):=I (by rw[N.o];simp[g,K]);go_enter Tryz.func83,Tryz.ntmps83;go_wp2;go_ret;exact⟨z8 C.o.symm,Below.refl _ w⟩
    ·have i1:((its.length:Int) ==0)= false:=by rw[beq_eq_false_iff_ne];omega
     have K:(its.length ==0)= false:=by simpa using hi0
     clear hi0;have C:Hid (res= false):=I (by rw[N.o];simp[g,K]);go_enter Tryz.func83,Tryz.ntmps83;go_wp2;go_ret;exact⟨z8 C.o.symm,Below.refl _ w⟩
   ·have m1:((ns.length:Int) ==0)= false:=by rw[beq_eq_false_iff_ne];omega
    have g:(ns.length ==0)= false:=by simpa using hm0
    clear hm0;have C:Hid (res= false):=I (by rw[N.o];simp[g]);go_enter Tryz.func83,Tryz.ntmps83;go_wp2;go_ret;exact⟨z8 C.o.symm,Below.refl _ w⟩
  by_cases k4:k= 4
  ·subst k4
   have N:=I (O.o.trans (if_pos (by decide)));clear O;by_cases hm0:ns.length= 0
   ·have m1:((ns.length:Int) ==0)= true:=by rw[hm0];rfl
    have g:(ns.length ==0)= true:=by rw[hm0];rfl
    clear hm0;by_cases hi0:its.length= 0
    ·have i1:((its.length:Int) ==0)= true:=by rw[hi0];rfl
     have K:(its.length ==0)= true:=by rw[hi0];rfl
     clear hi0;have C:Hid (res= true):=I (by rw[N.o];simp[g,K]);go_enter Tryz.func83,Tryz.ntmps83;go_wp2;go_ret;exact⟨z8 C.o.symm,Below.refl _ w⟩
    ·have i1:((its.length:Int) ==0)= false:=by rw[beq_eq_false_iff_ne];omega
     have K:(its.length ==0)= false:=by simpa using hi0
     clear hi0;have C:Hid (res= false):=I (by rw[N.o];simp[g,K]);go_enter Tryz.func83,Tryz.ntmps83;go_wp2;go_ret;exact⟨z8 C.o.symm,Below.refl _ w⟩
   ·have m1:((ns.length:Int) ==0)= false:=by rw[beq_eq_false_iff_ne];omega
    have g:(ns.length ==0)= false:=by simpa using hm0
    clear hm0;have C:Hid (res= false):=I (by rw[N.o];simp[g]);go_enter Tryz.func83,Tryz.ntmps83;go_wp2;go_ret;exact⟨z8 C.o.symm,Below.refl _ w⟩
  by_cases k7:k= 7
  ·subst k7
   have N:=I (O.o.trans (if_pos (by decide)));clear O;by_cases hm0:ns.length= 0
   ·have m1:((ns.length:Int) ==0)= true:=by rw[hm0];rfl
    have g:(ns.length ==0)= true:=by rw[hm0];rfl
    clear hm0;by_cases hi0:its.length= 0
    ·have i1:((its.length:Int) ==0)= true:=by rw[hi0];rfl
     have K:(its.length ==0)= true:=by rw[hi0];rfl
     clear hi0;have C:Hid (res= true):=I (by rw[N.o];simp[g,K]);go_enter Tryz.func83,Tryz.ntmps83;go_wp2;go_ret;exact⟨z8 C.o.symm,Below.refl _ w⟩
    ·have i1:((its.length:Int) ==0)= false:=by rw[beq_eq_false_iff_ne];omega
     have K:(its.length ==0)= false:=by simpa using hi0
     clear hi0;have C:Hid (res= false):=I (by rw[N.o];simp[g,K]);go_enter Tryz.func83,Tryz.ntmps83;go_wp2;go_ret;exact⟨z8 C.o.symm,Below.refl _ w⟩
   ·have m1:((ns.length:Int) ==0)= false:=by rw[beq_eq_false_iff_ne];omega
    have g:(ns.length ==0)= false:=by simpa using hm0
    clear hm0;have C:Hid (res= false):=I (by rw[N.o];simp[g]);go_enter Tryz.func83,Tryz.ntmps83;go_wp2;go_ret;exact⟨z8 C.o.symm,Below.refl _ w⟩
  have C:=I (O.o.trans (if_neg (by omega)));have s1:(k ==1)= false:=by simpa using k1
  have s2:(k ==2)= false:=by simpa using k2
  have s3:(k ==3)= false:=by simpa using k3
  have s4:(k ==4)= false:=by simpa using k4
  have s5:(k ==5)= false:=by simpa using k5
  have s6:(k ==6)= false:=by simpa using k6
  have s7:(k ==7)= false:=by simpa using k7
  clear O k1 k2 k3 k4 k5 k6 k7;go_enter Tryz.func83,Tryz.ntmps83;go_wp2;go_ret;exact⟨z8 C.o.symm,Below.refl _ w⟩
theorem z0R (t:TT) (cs:List Value) (w:World) (hv:TypAt w w.heap.size cs t):Calls Tryz.prog 51 #[.agg ⟨cs⟩] w fun e w'=>e= .returned (.bool (decide (cntT t 0<=200) && zG t 1))/\Below w.heap.size w w':=by
 have g:=I (zc w (.cells ⟨cs⟩ 36));have N:=I (zy w (.cells ⟨cs⟩ 36));have C:=I (zv w cs 36);have X:=I (hv.next g.o);clear hv;go_enter Tryz.func51,Tryz.ntmps51;go_upto_region 1 with (fail);generalize w.alloc (.cells ⟨cs⟩ 36)= W at*;have O:=I (z80 t 0 cs w.heap.size 0 W (by decide) C.o X.o);have Y:=I (zdV t 1 cs w.heap.size 0 W (by decide) N.o C.o X.o);by_cases hc:cntT t 0<=200
 ·have t1:((cntT t 0:Nat):Int)<=200:=by omega
  have K:Hid ((decide (cntT t 0<=200) && zG t 1)= zG t 1):=I (by rw[decide_eq_true hc];exact Bool.true_and _);go_wp2_with (first|(go_at_call 82;refine O.o.mono ?_;rintro e z ⟨rfl,A⟩;obtain rfl:=A)|(go_at_call 83;refine zg Y.o ?_;intro z2 G));go_ret;exact⟨z8 K.o.symm,(beT g.o G.o)⟩
 ·have t1: ¬ (((cntT t 0:Nat):Int)<=200):=by omega
  have K:Hid ((decide (cntT t 0<=200) && zG t 1)= false):=I (by rw[decide_eq_false hc];exact Bool.false_and _);go_wp2_with (go_at_call 82;refine O.o.mono ?_;rintro e z ⟨rfl,A⟩;obtain rfl:=A);go_ret;first|exact⟨z8 K.o.symm,g.o⟩|exact⟨rfl,g.o⟩
end
section
open Go Go.RowKit
theorem zhc:∀ (x:TT) (far:Nat) (cs:List Value) (w:World),far<=40->TypAt w w.heap.size cs x->Calls Tryz.prog 53 #[.agg ⟨cs⟩,.int .i64 far] w (z6D w):=by
 intro x
 induction x using TT.ind with
 |h k ns its ih=>
  intro far cs w b0 hv;obtain⟨Y,vi,rfl,_,_,_,hi⟩:=hv.inv;obtain⟨A,c,rfl,c4,hA⟩:=z1u hi;have HA:=I hA;have IH:=I ih;clear hA hv ih hi;go_enter Tryz.func53,Tryz.ntmps53;go_upto_region 1 with (fail);have N:=zc w (.cells ⟨[.int .i64 k,Y,.slice A its.length c]⟩ 36);have X:=zy w (.cells ⟨[.int .i64 k,Y,.slice A its.length c]⟩ 36);have c5:=zI w ⟨[.int .i64 k,Y,.slice A its.length c]⟩ 36 2;generalize w.alloc (.cells ⟨[.int .i64 k,Y,.slice A its.length c]⟩ 36)= W at*;have HB:=I N;have C5:=I c5;have a3:=I X;clear N c5 X;go_wp2;go_loopg [5,6] its.length (fun g m i wr=>∃ (j:Nat) (x:Int),j+g= its.length/\i= .int .i64 j/\m= .int .i64 x/\Below W.heap.size W wr);case atStart=>exact⟨0,0,by omega,rfl,rfl,Below.refl _ _⟩
  case round=>
   obtain⟨j,x,hj,rfl,rfl,K⟩:=hrel;have C:=I K;have d5:=(K.cell (p:=⟨w.heap.size,2,none⟩) a3.o).trans C5.o;clear K;simp only[List.getElem?_toArray,List.getElem?_cons_succ,List.getElem?_cons_zero] at d5;cases gk with
   |zero=>
    have b9: ¬ ((j:Int) <(its.length:Int)):=by omega
    go_wp2;go_ret;exact⟨_,rfl,(beT HB.o C.o)⟩
   |succ g=>
    have c6:(j:Int) <(its.length:Int):=by omega
    by_cases h0:far= 0
    ·subst h0
     go_wp2;go_ret;exact⟨_,rfl,(beT HB.o C.o)⟩
    ·have b2:(0:Int) <(far:Int):=by omega
     obtain⟨y,hy⟩:∃ y,its[j]?= some y:=⟨_,List.getElem?_eq_getElem (by omega)⟩;obtain⟨b,o,rfl,a5,hc⟩:=HA.o (by omega);obtain⟨cs,hr,hR⟩:=hc j y hy;have G:=(beT HB.o C.o);have HR:=I (zb hr G a5);have HC:=I (IH.o y (List.mem_of_getElem? hy) (far - 1) cs wr (by omega) (hR.next G));have a2:=I (zl hR);have O:((far - 1:Nat):Int)=(far:Int) - 1:=by omega
     clear hc hr hR G hy h0;rw[O] at HC;clear O;go_wp2_with (first|((with_reducible refine za tyK36 _ rfl ?_ HR.o rfl a2.o.1 ?_);exact wA rfl)|(go_at_call 53;refine HC.o.mono ?_;rintro e w' ⟨z,rfl,K⟩;have a1:=I K;clear K));all_goals
      go_roundg g;case measure=>omega
      case rel=>exact⟨j+1,_,by omega,by go_num,rfl,(beT C.o a1.o)⟩
theorem zbo:∀ (t:TT) (m:Nat) (cs:List Value) (w:World),m < 500->TypAt w w.heap.size cs t->
  Calls Tryz.prog 86 #[.agg ⟨cs⟩,.int .i64 m] w fun e w'=>e= .returned (.int .i64 (cntT t m:Nat))/\Below w.heap.size w w':=by
 intro t
 induction t using TT.ind with
 |h k ns its ih=>
  intro m cs w hm hv;have IH:=I ih;obtain⟨vn,vi,rfl,_,_,_,hi⟩:=hv.inv;obtain⟨A,c,rfl,d7,hA⟩:=z1u hi;have HA:=I hA;have HS:=I (fun k m x=>z5N (l:=its) (k:=k) (m:=m) (x:=x));have HE:=I (fun m=>z7c (l:=its) (m:=m));have a6:=I (fun x m hm=>zaa x m hm);have a4:Hid (∀ k m,500<=m->cntTL (its.drop k) m= m):=I (fun k m h=>by
   cases its.drop k with
   |nil=>rw[cntTL]
   |cons a l=>rw[cntTL,if_pos h])
  have H0:Hid (cntTL (its.drop 0) (m+1)= cntT (.mk k ns its) m):=I (by rw[cntT];rfl);clear ih hi hA hv;generalize cntT (.mk k ns its) m= res at*;go_enter Tryz.func86,Tryz.ntmps86;go_upto_region 1 with (fail);have X:=zc w (.cells ⟨[.int .i64 k,vn,.slice A its.length c]⟩ 36);have Y:=zy w (.cells ⟨[.int .i64 k,vn,.slice A its.length c]⟩ 36);have c5:=zI w ⟨[.int .i64 k,vn,.slice A its.length c]⟩ 36 2;generalize w.alloc (.cells ⟨[.int .i64 k,vn,.slice A its.length c]⟩ 36)= W at*;have HB:=I X;have C5:=I c5;have a9:=I Y;clear X c5 Y;have d9:(m:Int) < 500:=by omega
  go_wp2;go_loopg [1,5] its.length (fun g u i wr=>∃ (j m:Nat),j+g= its.length/\i= .int .i64 j/\u= .int .i64 m/\m<=500/\Below W.heap.size W wr/\cntTL (its.drop j) m= res);case atStart=>exact⟨0,m+1,by omega,rfl,by go_num,by omega,Below.refl _ _,H0.o⟩
  case round=>
   obtain⟨j,m,hj,rfl,rfl,e0,hb,G⟩:=hrel;have C:=I hb;have HR:=I G;have d5:=(hb.cell (p:=⟨w.heap.size,2,none⟩) a9.o).trans C5.o;clear hb G;simp only[List.getElem?_toArray,List.getElem?_cons_succ,List.getElem?_cons_zero] at d5;have c4:(m:Int)<=500:=by omega
   cases gk with
   |zero=>
    obtain rfl:j= its.length:=by omega
    have d6: ¬ ((its.length:Int) <(its.length:Int)):=by omega
    have O:=I (HR.o.symm.trans (HE.o m));go_wp2;go_ret;exact⟨by rw[O.o];go_num,(beT HB.o C.o)⟩
   |succ g=>
    have d8:(j:Int) <(its.length:Int):=by omega
    by_cases h0:m < 500
    ·obtain⟨y,hy⟩:∃ y,its[j]?= some y:=⟨_,List.getElem?_eq_getElem (by omega)⟩
     obtain⟨b,o,rfl,b4,hc⟩:=HA.o (by omega);obtain⟨cs,hr,hR⟩:=hc j y hy;have K:=(beT HB.o C.o);have O:=I (HR.o.symm.trans (HS.o j m y hy));have b0:=I (O.o.trans (if_neg (by omega)));have a8:=I (zb hr K b4);have HC:=I (IH.o y (List.mem_of_getElem? hy) m cs wr h0 (hR.next K));have a5:=I (zl hR);have b5:=a6.o y m h0;have b1:(m:Int) < 500:=by omega
     clear hc hr hR K hy O h0;go_wp2_with (first|((with_reducible refine za tyK36 _ rfl ?_ a8.o rfl a5.o.1 ?_);exact wA rfl)|(go_at_call 86;refine zg HC.o ?_;intro w' a3));go_roundg g;case measure=>omega
     case rel=>exact⟨j+1,_,by omega,by go_num,rfl,b5,(beT C.o a3.o),b0.o.symm⟩
    ·have O:=I (HR.o.symm.trans (a4.o j m (by omega)))
     have b1: ¬ ((m:Int) < 500):=by omega
     have N:m= 500:=by omega
     go_wp2;all_goals
      go_ret;exact⟨by rw[O.o,N];rfl,(beT HB.o C.o)⟩
theorem z6w (t:TT) (cs:List Value) (w:World) (hv:TypAt w w.heap.size cs t):Calls Tryz.prog 54 #[.agg ⟨cs⟩] w fun e w'=>e= .returned (.int .i64 (cntT t 0:Nat))/\Below w.heap.size w w':=by
 have A:=I (zl hv);have N:=I hv;clear hv;go_enter Tryz.func54,Tryz.ntmps54;go_upto_region 1 with (fail);have C:=I (zc w (.cells ⟨cs⟩ 36));have K:=I (zv w cs 36);generalize w.alloc (.cells ⟨cs⟩ 36)= W at*;have G:=I (zbo t 0 cs W (by omega) (N.o.next C.o));go_wp2_with (first|((with_reducible refine za tyK36 _ rfl ?_ K.o rfl A.o.1 ?_);exact wA rfl)|(go_at_call 86;refine zg G.o ?_;intro w' g));go_ret;exact⟨rfl,(beT C.o g.o)⟩
theorem z9d (x:TT) (cs:List Value) (w:World) (hv:TypAt w w.heap.size cs x):Calls Tryz.prog 20 #[.agg ⟨cs⟩] w (z5n w):=by
 have A:=I (zl hv);have HV:=I hv;clear hv;go_enter Tryz.func20,Tryz.ntmps20;go_upto_region 1 with (fail);have X:=I (zc w (.cells ⟨cs⟩ 36));have HR:=I (zv w cs 36);have N:=I (zy w (.cells ⟨cs⟩ 36));generalize w.alloc (.cells ⟨cs⟩ 36)= W at*;have Y:=I (zhc x 40 cs W (by omega) (HV.o.next X.o));go_wp2_with (first|((with_reducible refine za tyK36 _ rfl ?_ HR.o rfl A.o.1 ?_);exact wA rfl)|(go_at_call 53;fail));refine Y.o.mono ?_;rintro e w2 ⟨z,rfl,O⟩;have g:=I (beT X.o O);have K:=I (zb HR.o O N.o);have G:=I (z6w x cs w2 (HV.o.next g.o));clear O Y;by_cases hz:z<=30
 ·go_wp2_with (first|((with_reducible refine za tyK36 _ rfl ?_ K.o rfl A.o.1 ?_);exact wA rfl)|(go_at_call 54;refine zg G.o ?_;intro w' C))
  all_goals
   go_ret;exact⟨_,rfl,(beT g.o C.o)⟩
 ·go_wp2
  all_goals
   go_ret;exact⟨_,rfl,g.o⟩
theorem zbs:∀ (t:TT) (far d:Nat) (cs:List Value) (w:World),far+d= 13->TypAt w w.heap.size cs t->
  Calls Tryz.prog 65 #[.agg ⟨cs⟩,.int .i64 far] w fun e w'=>e= .returned (.bool (zG t d))/\Below w.heap.size w w':=by
 intro t
 induction t using TT.ind with
 |h k ns its ih=>
  intro far d cs w f0 hv;have IH:=I ih;obtain⟨vn,vi,rfl,_,hn,_,hi⟩:=hv.inv;obtain⟨_,NA,nc,rfl,_⟩:=id hn;obtain⟨A,c,rfl,f1,hA⟩:=z1u hi;have f3:=hn.1;have HN:=I hn;have HA:=I hA;have e4:far<=13:=by omega
  have e5:d= 13 - far:=by omega
  have HO:Hid (zG (.mk k ns its) d= if 12 < d then false
   else if k= 5 then(its.length ==1) && ((ns.length ==0) && z0b its (d+1))
   else if k= 6 then(ns.length ==its.length) && (riseB none ns && z0b its (d+1))
   else if k= 1\/k= 2\/k= 3\/k= 4\/k= 7 then(ns.length ==0) && (its.length ==0)
   else false):=I (by rw[zG])
  generalize a1:zG (.mk k ns its) d= res at*;have X:=I (zc w (.cells ⟨[.int .i64 k,.slice NA ns.length nc,.slice A its.length c]⟩ 36));have c7:=I (zy w (.cells ⟨[.int .i64 k,.slice NA ns.length nc,.slice A its.length c]⟩ 36));have g:=I (zv w [.int .i64 k,.slice NA ns.length nc,.slice A its.length c] 36);clear ih hv hn hi hA a1;by_cases hdeep:far= 0
  ·subst hdeep
   have O:Hid (res= false):=I (HO.o.trans (if_pos (by omega)));have t1:((0:Nat):Int) < 1:=by omega
   clear HO
   (try clear hi0);(try clear C);(try clear G)
   go_enter Tryz.func65,Tryz.ntmps65;go_upto_region 1 with (fail);generalize w.alloc (.cells ⟨[.int .i64 k,.slice NA ns.length nc,.slice A its.length c]⟩ 36)= W at*;have d0:W.cell? ⟨w.heap.size,0,none⟩= some (.int .i64 k):=by have:=g.o 0 _ rfl;simpa using this
   have d1:W.cell? ⟨w.heap.size,1,none⟩= some (.slice NA ns.length nc):=by have:=g.o 1 _ rfl;simpa using this
   have d2:W.cell? ⟨w.heap.size,2,none⟩= some (.slice A its.length c):=by have:=g.o 2 _ rfl;simpa using this
   go_wp2;go_ret;exact⟨z8 O.o.symm,X.o⟩
  have t1: ¬ ((far:Int) < 1):=by omega
  have b5:=I (HO.o.trans (if_neg (by omega)));clear HO;by_cases k5:k= 5
  ·subst k5
   have Y:=I (b5.o.trans (if_pos rfl));clear b5;by_cases G:its.length= 1
   ·have j1:((its.length:Int) ==1)= true:=by rw[G];rfl
    have b3:(its.length ==1)= true:=by rw[G];rfl
    have j2:((its.length:Int) !=1)= false:=by rw[G];rfl
    by_cases C:ns.length= 0
    ·have m1:((ns.length:Int) ==0)= true:=by rw[C];rfl
     have N:(ns.length ==0)= true:=by rw[C];rfl
     have m2:((ns.length:Int) !=0)= false:=by rw[C];rfl
     have d6:=I C;have d5:=I G;have O:Hid (res= z0b its (d+1)):=I (by rw[Y.o];simp[N,b3]);clear m1 N m2 j1 b3 j2
     (try clear hi0);(try clear C);(try clear G)
     go_enter Tryz.func65,Tryz.ntmps65;go_upto_region 1 with (fail);generalize w.alloc (.cells ⟨[.int .i64 5,.slice NA ns.length nc,.slice A its.length c]⟩ 36)= W at*;have d0:W.cell? ⟨w.heap.size,0,none⟩= some (.int .i64 5):=by have:=g.o 0 _ rfl;simpa using this
     have d1:W.cell? ⟨w.heap.size,1,none⟩= some (.slice NA ns.length nc):=by have:=g.o 1 _ rfl;simpa using this
     have d2:W.cell? ⟨w.heap.size,2,none⟩= some (.slice A its.length c):=by have:=g.o 2 _ rfl;simpa using this
     have D5:=I d2;have C:=d6.o;rw[C] at d1;have G:=d5.o;rw[G] at d2;clear C G;go_wp2;clear d2;go_loopg [5] its.length (fun q x u=>∃ j:Nat,j+q= its.length/\x= .int .i64 j/\Below W.heap.size W u/\z0b (its.drop j) (d+1)= res);case atStart=>exact⟨0,by omega,rfl,Below.refl _ _,O.o.symm⟩
     case round=>
      obtain⟨j,hj,rfl,hb,a1⟩:=hrel;have b0:=I a1;have a4:=I hb;have d7:=(hb.cell (p:=⟨w.heap.size,2,none⟩) c7.o).trans D5.o;clear a1 hb;cases gk with
      |zero=>
       obtain rfl:j= its.length:=by omega
       have d8: ¬ ((its.length:Int) <(its.length:Int)):=by omega
       have c4:=I (b0.o.symm.trans z45);go_wp2;go_ret;exact⟨z8 c4.o.symm,(beT X.o a4.o)⟩
      |succ q=>
       have d9:(j:Int) <(its.length:Int):=by omega
       obtain⟨x,hx⟩:∃ x,its[j]?= some x:=⟨_,List.getElem?_eq_getElem (by omega)⟩;obtain⟨b,o',rfl,c6,hc⟩:=HA.o (by omega);obtain⟨ks,b2,a7⟩:=hc j x hx;have a2:=I (b0.o.symm.trans (z3n hx));have a5:=I (beT X.o a4.o);have a9:=I (zb b2 a5.o c6);have a8:=I (zl a7);have HC:=I (IH.o x (List.mem_of_getElem? hx) (far - 1) (d+1) ks wr (by omega) (a7.next a5.o));have b1:((far - 1:Nat):Int)=(far:Int) - 1:=by omega
       rw[b1] at HC;clear hc b2 a7 hx b1;generalize zG x (d+1)= rx at*;cases rx with
       |true=>
        have a6:=I (a2.o.trans (Bool.true_and _));clear a2;go_wp2_with (first|((with_reducible refine za tyK36 _ rfl ?_ a9.o rfl a8.o.1 ?_);exact wA rfl)|(go_at_call 65;refine zg HC.o ?_;intro z a3));go_roundg q;case measure=>omega
        case rel=>exact⟨j+1,by omega,by go_num,(beT a4.o a3.o),a6.o.symm⟩
       |false=>
        have a6:Hid (res= false):=I (a2.o.trans (Bool.false_and _));clear a2;go_wp2_with (first|((with_reducible refine za tyK36 _ rfl ?_ a9.o rfl a8.o.1 ?_);exact wA rfl)|(go_at_call 65;refine zg HC.o ?_;intro z a3));go_ret;exact⟨z8 a6.o.symm,(beT a5.o a3.o)⟩
    ·have m1:((ns.length:Int) ==0)= false:=by rw[beq_eq_false_iff_ne];omega
     have N:(ns.length ==0)= false:=by simpa using C
     have m2:((ns.length:Int) !=0)= true:=by rw[bne_iff_ne];omega
     have O:Hid (res= false):=I (by rw[Y.o];simp[N,b3])
     (try clear hi0);(try clear C);(try clear G)
     go_enter Tryz.func65,Tryz.ntmps65;go_upto_region 1 with (fail);generalize w.alloc (.cells ⟨[.int .i64 5,.slice NA ns.length nc,.slice A its.length c]⟩ 36)= W at*;have d0:W.cell? ⟨w.heap.size,0,none⟩= some (.int .i64 5):=by have:=g.o 0 _ rfl;simpa using this
     have d1:W.cell? ⟨w.heap.size,1,none⟩= some (.slice NA ns.length nc):=by have:=g.o 1 _ rfl;simpa using this
     have d2:W.cell? ⟨w.heap.size,2,none⟩= some (.slice A its.length c):=by have:=g.o 2 _ rfl;simpa using this
     go_wp2;go_ret;exact⟨z8 O.o.symm,X.o⟩
   ·have b3:(its.length ==1)= false:=by simpa using G
    have j2:((its.length:Int) !=1)= true:=by rw[bne_iff_ne];omega
    have O:Hid (res= false):=I (by rw[Y.o];simp[b3])
    (try clear hi0);(try clear C);(try clear G)
    go_enter Tryz.func65,Tryz.ntmps65;go_upto_region 1 with (fail);generalize w.alloc (.cells ⟨[.int .i64 5,.slice NA ns.length nc,.slice A its.length c]⟩ 36)= W at*;have d0:W.cell? ⟨w.heap.size,0,none⟩= some (.int .i64 5):=by have:=g.o 0 _ rfl;simpa using this
    have d1:W.cell? ⟨w.heap.size,1,none⟩= some (.slice NA ns.length nc):=by have:=g.o 1 _ rfl;simpa using this
    have d2:W.cell? ⟨w.heap.size,2,none⟩= some (.slice A its.length c):=by have:=g.o 2 _ rfl;simpa using this
    go_wp2;go_ret;exact⟨z8 O.o.symm,X.o⟩
  have b6:=I (b5.o.trans (if_neg k5));clear b5;by_cases k6:k= 6
  ·subst k6
   have Y:=I (b6.o.trans (if_pos rfl));clear b6;have b4:=I (fun z (hz:Below w.heap.size w z)=>z6l (.slice NA ns.length nc) ns its.length z ((HN.o.below hz fun _ _ _ h=>h).more hz.size));cases hnm:(riseB none ns && (ns.length ==its.length)) with
   |true=>
    have hq:=hnm;rw[Bool.and_eq_true] at hq;obtain⟨q1,q2⟩:=hq;rw[hnm] at b4;have O:Hid (res= z0b its (d+1)):=I (by rw[Y.o,q1,q2];simp);clear q1 q2
    (try clear hi0);(try clear C);(try clear G)
    go_enter Tryz.func65,Tryz.ntmps65;go_upto_region 1 with (fail);generalize w.alloc (.cells ⟨[.int .i64 6,.slice NA ns.length nc,.slice A its.length c]⟩ 36)= W at*;have d0:W.cell? ⟨w.heap.size,0,none⟩= some (.int .i64 6):=by have:=g.o 0 _ rfl;simpa using this
    have d1:W.cell? ⟨w.heap.size,1,none⟩= some (.slice NA ns.length nc):=by have:=g.o 1 _ rfl;simpa using this
    have d2:W.cell? ⟨w.heap.size,2,none⟩= some (.slice A its.length c):=by have:=g.o 2 _ rfl;simpa using this
    have D5:=I d2;go_wp2_with (go_at_call 103;refine zg (b4.o _ X.o) ?_;intro z2 b8);clear d2;go_loopg [5] its.length (fun q x u=>∃ j:Nat,j+q= its.length/\x= .int .i64 j/\Below W.heap.size W u/\z0b (its.drop j) (d+1)= res);case atStart=>exact⟨0,by omega,rfl,b8.o,O.o.symm⟩
    case round=>
     obtain⟨j,hj,rfl,hb,a1⟩:=hrel;have b0:=I a1;have a4:=I hb;have d7:=(hb.cell (p:=⟨w.heap.size,2,none⟩) c7.o).trans D5.o;clear a1 hb;cases gk with
     |zero=>
      obtain rfl:j= its.length:=by omega
      have d8: ¬ ((its.length:Int) <(its.length:Int)):=by omega
      have c4:=I (b0.o.symm.trans z45);go_wp2;go_ret;exact⟨z8 c4.o.symm,(beT X.o a4.o)⟩
     |succ q=>
      have d9:(j:Int) <(its.length:Int):=by omega
      obtain⟨x,hx⟩:∃ x,its[j]?= some x:=⟨_,List.getElem?_eq_getElem (by omega)⟩;obtain⟨b,o',rfl,c6,hc⟩:=HA.o (by omega);obtain⟨ks,b2,a7⟩:=hc j x hx;have a2:=I (b0.o.symm.trans (z3n hx));have a5:=I (beT X.o a4.o);have a9:=I (zb b2 a5.o c6);have a8:=I (zl a7);have HC:=I (IH.o x (List.mem_of_getElem? hx) (far - 1) (d+1) ks wr (by omega) (a7.next a5.o));have b1:((far - 1:Nat):Int)=(far:Int) - 1:=by omega
      rw[b1] at HC;clear hc b2 a7 hx b1;generalize zG x (d+1)= rx at*;cases rx with
      |true=>
       have a6:=I (a2.o.trans (Bool.true_and _));clear a2;go_wp2_with (first|((with_reducible refine za tyK36 _ rfl ?_ a9.o rfl a8.o.1 ?_);exact wA rfl)|(go_at_call 65;refine zg HC.o ?_;intro z a3));go_roundg q;case measure=>omega
       case rel=>exact⟨j+1,by omega,by go_num,(beT a4.o a3.o),a6.o.symm⟩
      |false=>
       have a6:Hid (res= false):=I (a2.o.trans (Bool.false_and _));clear a2;go_wp2_with (first|((with_reducible refine za tyK36 _ rfl ?_ a9.o rfl a8.o.1 ?_);exact wA rfl)|(go_at_call 65;refine zg HC.o ?_;intro z a3));go_ret;exact⟨z8 a6.o.symm,(beT a5.o a3.o)⟩
   |false=>
    rw[hnm] at b4;have O:Hid (res= false):=I (by
     rw[Y.o];cases h1:riseB none ns with
     |false=>simp
     |true=>rw[h1,Bool.true_and] at hnm;rw[hnm];simp)
    (try clear hi0);(try clear C);(try clear G)
    go_enter Tryz.func65,Tryz.ntmps65;go_upto_region 1 with (fail);generalize w.alloc (.cells ⟨[.int .i64 6,.slice NA ns.length nc,.slice A its.length c]⟩ 36)= W at*;have d0:W.cell? ⟨w.heap.size,0,none⟩= some (.int .i64 6):=by have:=g.o 0 _ rfl;simpa using this
    have d1:W.cell? ⟨w.heap.size,1,none⟩= some (.slice NA ns.length nc):=by have:=g.o 1 _ rfl;simpa using this
    have d2:W.cell? ⟨w.heap.size,2,none⟩= some (.slice A its.length c):=by have:=g.o 2 _ rfl;simpa using this
    go_wp2_with (go_at_call 103;refine zg (b4.o _ X.o) ?_;intro z2 b8);go_ret;exact⟨z8 O.o.symm,(beT X.o b8.o)⟩
  have a0:=I (b6.o.trans (if_neg k6));clear b6;by_cases k1:k= 1
  ·subst k1
   have Y:=I (a0.o.trans (if_pos (by decide)));clear a0;by_cases hi0:its.length= 0
   ·have i1:((its.length:Int) ==0)= true:=by rw[hi0];rfl
    have K:(its.length ==0)= true:=by rw[hi0];rfl
    by_cases C:ns.length= 0
    ·have m1:((ns.length:Int) ==0)= true:=by rw[C];rfl
     have N:(ns.length ==0)= true:=by rw[C];rfl
     have m2:((ns.length:Int) !=0)= false:=by rw[C];rfl
     have O:Hid (res= true):=I (by rw[Y.o];simp[N,K])
     (try clear hi0);(try clear C);(try clear G)
     go_enter Tryz.func65,Tryz.ntmps65;go_upto_region 1 with (fail);generalize w.alloc (.cells ⟨[.int .i64 1,.slice NA ns.length nc,.slice A its.length c]⟩ 36)= W at*;have d0:W.cell? ⟨w.heap.size,0,none⟩= some (.int .i64 1):=by have:=g.o 0 _ rfl;simpa using this
     have d1:W.cell? ⟨w.heap.size,1,none⟩= some (.slice NA ns.length nc):=by have:=g.o 1 _ rfl;simpa using this
     have d2:W.cell? ⟨w.heap.size,2,none⟩= some (.slice A its.length c):=by have:=g.o 2 _ rfl;simpa using this
     go_wp2;go_ret;exact⟨z8 O.o.symm,X.o⟩
    ·have m1:((ns.length:Int) ==0)= false:=by rw[beq_eq_false_iff_ne];omega
     have N:(ns.length ==0)= false:=by simpa using C
     have m2:((ns.length:Int) !=0)= true:=by rw[bne_iff_ne];omega
     have O:Hid (res= false):=I (by rw[Y.o];simp[N,K])
     (try clear hi0);(try clear C);(try clear G)
     go_enter Tryz.func65,Tryz.ntmps65;go_upto_region 1 with (fail);generalize w.alloc (.cells ⟨[.int .i64 1,.slice NA ns.length nc,.slice A its.length c]⟩ 36)= W at*;have d0:W.cell? ⟨w.heap.size,0,none⟩= some (.int .i64 1):=by have:=g.o 0 _ rfl;simpa using this
     have d1:W.cell? ⟨w.heap.size,1,none⟩= some (.slice NA ns.length nc):=by have:=g.o 1 _ rfl;simpa using this
     have d2:W.cell? ⟨w.heap.size,2,none⟩= some (.slice A its.length c):=by have:=g.o 2 _ rfl;simpa using this
     go_wp2;go_ret;exact⟨z8 O.o.symm,X.o⟩
   ·have i1:((its.length:Int) ==0)= false:=by rw[beq_eq_false_iff_ne];omega
    have K:(its.length ==0)= false:=by simpa using hi0
    have O:Hid (res= false):=I (by rw[Y.o];simp[K])
    (try clear hi0);(try clear C);(try clear G)
    go_enter Tryz.func65,Tryz.ntmps65;go_upto_region 1 with (fail);generalize w.alloc (.cells ⟨[.int .i64 1,.slice NA ns.length nc,.slice A its.length c]⟩ 36)= W at*;have d0:W.cell? ⟨w.heap.size,0,none⟩= some (.int .i64 1):=by have:=g.o 0 _ rfl;simpa using this
    have d1:W.cell? ⟨w.heap.size,1,none⟩= some (.slice NA ns.length nc):=by have:=g.o 1 _ rfl;simpa using this
    have d2:W.cell? ⟨w.heap.size,2,none⟩= some (.slice A its.length c):=by have:=g.o 2 _ rfl;simpa using this
    go_wp2;go_ret;exact⟨z8 O.o.symm,X.o⟩
  by_cases k2:k= 2
  ·subst k2
   have Y:=I (a0.o.trans (if_pos (by decide)));clear a0;by_cases hi0:its.length= 0
   ·have i1:((its.length:Int) ==0)= true:=by rw[hi0];rfl
    have K:(its.length ==0)= true:=by rw[hi0];rfl
    by_cases C:ns.length= 0
    ·have m1:((ns.length:Int) ==0)= true:=by rw[C];rfl
     have N:(ns.length ==0)= true:=by rw[C];rfl
     have m2:((ns.length:Int) !=0)= false:=by rw[C];rfl
     have O:Hid (res= true):=I (by rw[Y.o];simp[N,K])
     (try clear hi0);(try clear C);(try clear G)
     go_enter Tryz.func65,Tryz.ntmps65;go_upto_region 1 with (fail);generalize w.alloc (.cells ⟨[.int .i64 2,.slice NA ns.length nc,.slice A its.length c]⟩ 36)= W at*;have d0:W.cell? ⟨w.heap.size,0,none⟩= some (.int .i64 2):=by have:=g.o 0 _ rfl;simpa using this
     have d1:W.cell? ⟨w.heap.size,1,none⟩= some (.slice NA ns.length nc):=by have:=g.o 1 _ rfl;simpa using this
     have d2:W.cell? ⟨w.heap.size,2,none⟩= some (.slice A its.length c):=by have:=g.o 2 _ rfl;simpa using this
     go_wp2;go_ret;exact⟨z8 O.o.symm,X.o⟩
    ·have m1:((ns.length:Int) ==0)= false:=by rw[beq_eq_false_iff_ne];omega
     have N:(ns.length ==0)= false:=by simpa using C
     have m2:((ns.length:Int) !=0)= true:=by rw[bne_iff_ne];omega
     have O:Hid (res= false):=I (by rw[Y.o];simp[N,K])
     (try clear hi0);(try clear C);(try clear G)
     go_enter Tryz.func65,Tryz.ntmps65;go_upto_region 1 with (fail);generalize w.alloc (.cells ⟨[.int .i64 2,.slice NA ns.length nc,.slice A its.length c]⟩ 36)= W at*;have d0:W.cell? ⟨w.heap.size,0,none⟩= some (.int .i64 2):=by have:=g.o 0 _ rfl;simpa using this
     have d1:W.cell? ⟨w.heap.size,1,none⟩= some (.slice NA ns.length nc):=by have:=g.o 1 _ rfl;simpa using this
     have d2:W.cell? ⟨w.heap.size,2,none⟩= some (.slice A its.length c):=by have:=g.o 2 _ rfl;simpa using this
     go_wp2;go_ret;exact⟨z8 O.o.symm,X.o⟩
   ·have i1:((its.length:Int) ==0)= false:=by rw[beq_eq_false_iff_ne];omega
    have K:(its.length ==0)= false:=by simpa using hi0
    have O:Hid (res= false):=I (by rw[Y.o];simp[K])
    (try clear hi0);(try clear C);(try clear G)
    go_enter Tryz.func65,Tryz.ntmps65;go_upto_region 1 with (fail);generalize w.alloc (.cells ⟨[.int .i64 2,.slice NA ns.length nc,.slice A its.length c]⟩ 36)= W at*;have d0:W.cell? ⟨w.heap.size,0,none⟩= some (.int .i64 2):=by have:=g.o 0 _ rfl;simpa using this
    have d1:W.cell? ⟨w.heap.size,1,none⟩= some (.slice NA ns.length nc):=by have:=g.o 1 _ rfl;simpa using this
    have d2:W.cell? ⟨w.heap.size,2,none⟩= some (.slice A its.length c):=by have:=g.o 2 _ rfl;simpa using this
    go_wp2;go_ret;exact⟨z8 O.o.symm,X.o⟩
  by_cases k3:k= 3
  ·subst k3
   have Y:=I (a0.o.trans (if_pos (by decide)));clear a0;by_cases hi0:its.length= 0
   ·have i1:((its.length:Int) ==0)= true:=by rw[hi0];rfl
    have K:(its.length ==0)= true:=by rw[hi0];rfl
    by_cases C:ns.length= 0
    ·have m1:((ns.length:Int) ==0)= true:=by rw[C];rfl
     have N:(ns.length ==0)= true:=by rw[C];rfl
     have m2:((ns.length:Int) !=0)= false:=by rw[C];rfl
     have O:Hid (res= true):=I (by rw[Y.o];simp[N,K])
     (try clear hi0);(try clear C);(try clear G)
     go_enter Tryz.func65,Tryz.ntmps65;go_upto_region 1 with (fail);generalize w.alloc (.cells ⟨[.int .i64 3,.slice NA ns.length nc,.slice A its.length c]⟩ 36)= W at*;have d0:W.cell? ⟨w.heap.size,0,none⟩= some (.int .i64 3):=by have:=g.o 0 _ rfl;simpa using this
     have d1:W.cell? ⟨w.heap.size,1,none⟩= some (.slice NA ns.length nc):=by have:=g.o 1 _ rfl;simpa using this
     have d2:W.cell? ⟨w.heap.size,2,none⟩= some (.slice A its.length c):=by have:=g.o 2 _ rfl;simpa using this
     go_wp2;go_ret;exact⟨z8 O.o.symm,X.o⟩
    ·have m1:((ns.length:Int) ==0)= false:=by rw[beq_eq_false_iff_ne];omega
     have N:(ns.length ==0)= false:=by simpa using C
     have m2:((ns.length:Int) !=0)= true:=by rw[bne_iff_ne];omega
     have O:Hid (res= false):=I (by rw[Y.o];simp[N,K])
     (try clear hi0);(try clear C);(try clear G)
     go_enter Tryz.func65,Tryz.ntmps65;go_upto_region 1 with (fail);generalize w.alloc (.cells ⟨[.int .i64 3,.slice NA ns.length nc,.slice A its.length c]⟩ 36)= W at*;have d0:W.cell? ⟨w.heap.size,0,none⟩= some (.int .i64 3):=by have:=g.o 0 _ rfl;simpa using this
     have d1:W.cell? ⟨w.heap.size,1,none⟩= some (.slice NA ns.length nc):=by have:=g.o 1 _ rfl;simpa using this
     have d2:W.cell? ⟨w.heap.size,2,none⟩= some (.slice A its.length c):=by have:=g.o 2 _ rfl;simpa using this
     go_wp2;go_ret;exact⟨z8 O.o.symm,X.o⟩
   ·have i1:((its.length:Int) ==0)= false:=by rw[beq_eq_false_iff_ne];omega
    have K:(its.length ==0)= false:=by simpa using hi0
    have O:Hid (res= false):=I (by rw[Y.o];simp[K])
    (try clear hi0);(try clear C);(try clear G)
    go_enter Tryz.func65,Tryz.ntmps65;go_upto_region 1 with (fail);generalize w.alloc (.cells ⟨[.int .i64 3,.slice NA ns.length nc,.slice A its.length c]⟩ 36)= W at*;have d0:W.cell? ⟨w.heap.size,0,none⟩= some (.int .i64 3):=by have:=g.o 0 _ rfl;simpa using this
    have d1:W.cell? ⟨w.heap.size,1,none⟩= some (.slice NA ns.length nc):=by have:=g.o 1 _ rfl;simpa using this
    have d2:W.cell? ⟨w.heap.size,2,none⟩= some (.slice A its.length c):=by have:=g.o 2 _ rfl;simpa using this
    go_wp2;go_ret;exact⟨z8 O.o.symm,X.o⟩
  by_cases k4:k= 4
  ·subst k4
   have Y:=I (a0.o.trans (if_pos (by decide)));clear a0;by_cases hi0:its.length= 0
   ·have i1:((its.length:Int) ==0)= true:=by rw[hi0];rfl
    have K:(its.length ==0)= true:=by rw[hi0];rfl
    by_cases C:ns.length= 0
    ·have m1:((ns.length:Int) ==0)= true:=by rw[C];rfl
     have N:(ns.length ==0)= true:=by rw[C];rfl
     have m2:((ns.length:Int) !=0)= false:=by rw[C];rfl
     have O:Hid (res= true):=I (by rw[Y.o];simp[N,K])
     (try clear hi0);(try clear C);(try clear G)
     go_enter Tryz.func65,Tryz.ntmps65;go_upto_region 1 with (fail);generalize w.alloc (.cells ⟨[.int .i64 4,.slice NA ns.length nc,.slice A its.length c]⟩ 36)= W at*;have d0:W.cell? ⟨w.heap.size,0,none⟩= some (.int .i64 4):=by have:=g.o 0 _ rfl;simpa using this
     have d1:W.cell? ⟨w.heap.size,1,none⟩= some (.slice NA ns.length nc):=by have:=g.o 1 _ rfl;simpa using this
     have d2:W.cell? ⟨w.heap.size,2,none⟩= some (.slice A its.length c):=by have:=g.o 2 _ rfl;simpa using this
     go_wp2;go_ret;exact⟨z8 O.o.symm,X.o⟩
    ·have m1:((ns.length:Int) ==0)= false:=by rw[beq_eq_false_iff_ne];omega
     have N:(ns.length ==0)= false:=by simpa using C
     have m2:((ns.length:Int) !=0)= true:=by rw[bne_iff_ne];omega
     have O:Hid (res= false):=I (by rw[Y.o];simp[N,K])
     (try clear hi0);(try clear C);(try clear G)
     go_enter Tryz.func65,Tryz.ntmps65;go_upto_region 1 with (fail);generalize w.alloc (.cells ⟨[.int .i64 4,.slice NA ns.length nc,.slice A its.length c]⟩ 36)= W at*;have d0:W.cell? ⟨w.heap.size,0,none⟩= some (.int .i64 4):=by have:=g.o 0 _ rfl;simpa using this
     have d1:W.cell? ⟨w.heap.size,1,none⟩= some (.slice NA ns.length nc):=by have:=g.o 1 _ rfl;simpa using this
     have d2:W.cell? ⟨w.heap.size,2,none⟩= some (.slice A its.length c):=by have:=g.o 2 _ rfl;simpa using this
     go_wp2;go_ret;exact⟨z8 O.o.symm,X.o⟩
   ·have i1:((its.length:Int) ==0)= false:=by rw[beq_eq_false_iff_ne];omega
    have K:(its.length ==0)= false:=by simpa using hi0
    have O:Hid (res= false):=I (by rw[Y.o];simp[K])
    (try clear hi0);(try clear C);(try clear G)
    go_enter Tryz.func65,Tryz.ntmps65;go_upto_region 1 with (fail);generalize w.alloc (.cells ⟨[.int .i64 4,.slice NA ns.length nc,.slice A its.length c]⟩ 36)= W at*;have d0:W.cell? ⟨w.heap.size,0,none⟩= some (.int .i64 4):=by have:=g.o 0 _ rfl;simpa using this
    have d1:W.cell? ⟨w.heap.size,1,none⟩= some (.slice NA ns.length nc):=by have:=g.o 1 _ rfl;simpa using this
    have d2:W.cell? ⟨w.heap.size,2,none⟩= some (.slice A its.length c):=by have:=g.o 2 _ rfl;simpa using this
    go_wp2;go_ret;exact⟨z8 O.o.symm,X.o⟩
  by_cases k7:k= 7
  ·subst k7
   have Y:=I (a0.o.trans (if_pos (by decide)));clear a0;by_cases hi0:its.length= 0
   ·have i1:((its.length:Int) ==0)= true:=by rw[hi0];rfl
    have K:(its.length ==0)= true:=by rw[hi0];rfl
    by_cases C:ns.length= 0
    ·have m1:((ns.length:Int) ==0)= true:=by rw[C];rfl
     have N:(ns.length ==0)= true:=by rw[C];rfl
     have m2:((ns.length:Int) !=0)= false:=by rw[C];rfl
     have O:Hid (res= true):=I (by rw[Y.o];simp[N,K])
     (try clear hi0);(try clear C);(try clear G)
     go_enter Tryz.func65,Tryz.ntmps65;go_upto_region 1 with (fail);generalize w.alloc (.cells ⟨[.int .i64 7,.slice NA ns.length nc,.slice A its.length c]⟩ 36)= W at*;have d0:W.cell? ⟨w.heap.size,0,none⟩= some (.int .i64 7):=by have:=g.o 0 _ rfl;simpa using this
     have d1:W.cell? ⟨w.heap.size,1,none⟩= some (.slice NA ns.length nc):=by have:=g.o 1 _ rfl;simpa using this
     have d2:W.cell? ⟨w.heap.size,2,none⟩= some (.slice A its.length c):=by have:=g.o 2 _ rfl;simpa using this
     go_wp2;go_ret;exact⟨z8 O.o.symm,X.o⟩
    ·have m1:((ns.length:Int) ==0)= false:=by rw[beq_eq_false_iff_ne];omega
     have N:(ns.length ==0)= false:=by simpa using C
     have m2:((ns.length:Int) !=0)= true:=by rw[bne_iff_ne];omega
     have O:Hid (res= false):=I (by rw[Y.o];simp[N,K])
     (try clear hi0);(try clear C);(try clear G)
     go_enter Tryz.func65,Tryz.ntmps65;go_upto_region 1 with (fail);generalize w.alloc (.cells ⟨[.int .i64 7,.slice NA ns.length nc,.slice A its.length c]⟩ 36)= W at*;have d0:W.cell? ⟨w.heap.size,0,none⟩= some (.int .i64 7):=by have:=g.o 0 _ rfl;simpa using this
     have d1:W.cell? ⟨w.heap.size,1,none⟩= some (.slice NA ns.length nc):=by have:=g.o 1 _ rfl;simpa using this
     have d2:W.cell? ⟨w.heap.size,2,none⟩= some (.slice A its.length c):=by have:=g.o 2 _ rfl;simpa using this
     go_wp2;go_ret;exact⟨z8 O.o.symm,X.o⟩
   ·have i1:((its.length:Int) ==0)= false:=by rw[beq_eq_false_iff_ne];omega
    have K:(its.length ==0)= false:=by simpa using hi0
    have O:Hid (res= false):=I (by rw[Y.o];simp[K])
    (try clear hi0);(try clear C);(try clear G)
    go_enter Tryz.func65,Tryz.ntmps65;go_upto_region 1 with (fail);generalize w.alloc (.cells ⟨[.int .i64 7,.slice NA ns.length nc,.slice A its.length c]⟩ 36)= W at*;have d0:W.cell? ⟨w.heap.size,0,none⟩= some (.int .i64 7):=by have:=g.o 0 _ rfl;simpa using this
    have d1:W.cell? ⟨w.heap.size,1,none⟩= some (.slice NA ns.length nc):=by have:=g.o 1 _ rfl;simpa using this
    have d2:W.cell? ⟨w.heap.size,2,none⟩= some (.slice A its.length c):=by have:=g.o 2 _ rfl;simpa using this
    go_wp2;go_ret;exact⟨z8 O.o.symm,X.o⟩
  have O:=I (a0.o.trans (if_neg (by omega)));clear a0;by_cases k0:k < 1
  ·have c1:decide (k < 1)= true:=decide_eq_true k0
   clear k1 k2 k3 k4 k5 k6 k7 k0
   (try clear hi0);(try clear C);(try clear G)
   go_enter Tryz.func65,Tryz.ntmps65;go_upto_region 1 with (fail);generalize w.alloc (.cells ⟨[.int .i64 k,.slice NA ns.length nc,.slice A its.length c]⟩ 36)= W at*;have d0:W.cell? ⟨w.heap.size,0,none⟩= some (.int .i64 k):=by have:=g.o 0 _ rfl;simpa using this
   have d1:W.cell? ⟨w.heap.size,1,none⟩= some (.slice NA ns.length nc):=by have:=g.o 1 _ rfl;simpa using this
   have d2:W.cell? ⟨w.heap.size,2,none⟩= some (.slice A its.length c):=by have:=g.o 2 _ rfl;simpa using this
   go_wp2;go_ret;exact⟨z8 O.o.symm,X.o⟩
  ·have c1:decide (k < 1)= false:=decide_eq_false k0
   have c2:decide (7 < k)= true:=decide_eq_true (by omega);clear k1 k2 k3 k4 k5 k6 k7 k0
   (try clear hi0);(try clear C);(try clear G)
   go_enter Tryz.func65,Tryz.ntmps65;go_upto_region 1 with (fail);generalize w.alloc (.cells ⟨[.int .i64 k,.slice NA ns.length nc,.slice A its.length c]⟩ 36)= W at*;have d0:W.cell? ⟨w.heap.size,0,none⟩= some (.int .i64 k):=by have:=g.o 0 _ rfl;simpa using this
   have d1:W.cell? ⟨w.heap.size,1,none⟩= some (.slice NA ns.length nc):=by have:=g.o 1 _ rfl;simpa using this
   have d2:W.cell? ⟨w.heap.size,2,none⟩= some (.slice A its.length c):=by have:=g.o 2 _ rfl;simpa using this
   go_wp2;go_ret;exact⟨z8 O.o.symm,X.o⟩
theorem z6V (t:TT) (cs:List Value) (w:World) (hv:TypAt w w.heap.size cs t):Calls Tryz.prog 31 #[.agg ⟨cs⟩] w fun e w'=>e= .returned (.bool (decide (cntT t 0<=200) && zG t 1))/\Below w.heap.size w w':=by
 have g:=I (zc w (.cells ⟨cs⟩ 36));have Y:=I (zy w (.cells ⟨cs⟩ 36));have C:=I (zv w cs 36);have O:=I (zl hv);have HV:=I (hv.next g.o);clear hv;go_enter Tryz.func31,Tryz.ntmps31;go_upto_region 1 with (fail);generalize w.alloc (.cells ⟨cs⟩ 36)= W at*;have HP:=I (z6w t cs W HV.o);by_cases hc:cntT t 0<=200
 ·have t1:((cntT t 0:Nat):Int)<=200:=by omega
  have N:Hid ((decide (cntT t 0<=200) && zG t 1)= zG t 1):=I (by rw[decide_eq_true hc];exact Bool.true_and _);go_wp2_with (first|((with_reducible refine za tyK36 _ rfl ?_ C.o rfl O.o.1 ?_);exact wA rfl)|(go_at_call 54;refine HP.o.mono ?_;rintro e z ⟨rfl,G⟩;have A:=I G;have X:=I (zb C.o G Y.o);clear G)|((with_reducible refine za tyK36 _ rfl ?_ X.o rfl O.o.1 ?_);exact wA rfl)|(go_at_call 65;refine zg (zbs t 12 1 cs _ (by decide) (HV.o.next A.o)) ?_;intro z2 K));go_ret;exact⟨z8 N.o.symm,g.o.trans ((beT A.o K.o).mono g.o.size)⟩
 ·have t1: ¬ (((cntT t 0:Nat):Int)<=200):=by omega
  have N:Hid ((decide (cntT t 0<=200) && zG t 1)= false):=I (by rw[decide_eq_false hc];exact Bool.false_and _);go_wp2_with (first|((with_reducible refine za tyK36 _ rfl ?_ C.o rfl O.o.1 ?_);exact wA rfl)|(go_at_call 54;refine zg HP.o ?_;intro z A));go_ret;first|exact⟨z8 N.o.symm,(beT g.o A.o)⟩|exact⟨rfl,(beT g.o A.o)⟩
end
section
open Go Go.RowKit
theorem zd6 (a b:ByteArray) (w:World):Calls Tryz.prog 104 #[.string a,.string b] w fun e w'=>e= .returned (.int .i64 (cmpS a b))/\w'= w:=by
 obtain⟨h1,h2⟩:=z2R a.data.toList b.data.toList;obtain⟨k1,k2⟩:=z2R b.data.toList a.data.toList;have h3:=z1H a.data.toList b.data.toList;have h4:=z2C a.data.toList b.data.toList;rw[← toList_eq,← toList_eq] at h1 h2 h3 k1 k2 h4;have g:cmpS a b= Lib.compareBytes a.toList b.toList:=by unfold cmpS;rw[toList_eq,toList_eq]
 rw[g];rcases h3 with h|h|h
 ·rw[h]
  have t1:Op.bytesLess a.toList b.toList= true:=h1.2 h;clear h1 h2 k1 k2 h4 g h;go_enter Tryz.func104,Tryz.ntmps104;go_wp2;go_ret;exact⟨rfl,rfl⟩
 ·rw[h]
  have t1:Op.bytesLess a.toList b.toList= false:=by rw[Bool.eq_false_iff];intro e;have:=h1.1 e;omega
  have t2:Op.bytesLess b.toList a.toList= false:=by rw[Bool.eq_false_iff];intro e;have:=k1.1 e;omega
  have t3:(a.toList ==b.toList)= true:=h2.2 h;clear h1 h2 k1 k2 h4 g h;go_enter Tryz.func104,Tryz.ntmps104;go_wp2;go_ret;exact⟨rfl,rfl⟩
 ·rw[h]
  have t1:Op.bytesLess a.toList b.toList= false:=by rw[Bool.eq_false_iff];intro e;have:=h1.1 e;omega
  have t2:Op.bytesLess b.toList a.toList= true:=k1.2 (by omega);have t3:(a.toList ==b.toList)= false:=by rw[Bool.eq_false_iff];intro e;have:=h2.1 e;omega
  clear h1 h2 k1 k2 h4 g h;go_enter Tryz.func104,Tryz.ntmps104;go_wp2;go_ret;exact⟨rfl,rfl⟩
theorem zd5 (a b:Int) (w:World):Calls Tryz.prog 105 #[.int .i64 a,.int .i64 b] w fun e w'=>e= .returned (.int .i64 (cmpI a b))/\w'= w:=by
 rcases z23 a b with ⟨h,k⟩|⟨h,k⟩|⟨h,k⟩
 ·rw[h]
  go_enter Tryz.func105,Tryz.ntmps105;go_wp2;go_ret;exact⟨rfl,rfl⟩
 ·rw[h]
  have t1: ¬ (a < b):=by omega
  have t2: ¬ (b < a):=by omega
  clear k h;go_enter Tryz.func105,Tryz.ntmps105;go_wp2;go_ret;exact⟨rfl,rfl⟩
 ·rw[h]
  have t1: ¬ (a < b):=by omega
  go_enter Tryz.func105,Tryz.ntmps105;go_wp2;go_ret;exact⟨rfl,rfl⟩
theorem zb0 {α:Type} {f:α->α->Int} {l r:List α} {k:Nat} (hl:k<=l.length) (hr:k<=r.length) (h:k= l.length\/k= r.length):listC f (l.drop k) (r.drop k)= cmpI l.length r.length:=by
 unfold cmpI;by_cases h1:l.length < r.length
 ·rw[if_pos (by omega),z4w (by omega) (by omega)]
 ·rw[if_neg (by omega)]
  by_cases h2:r.length < l.length
  ·rw[if_pos (by omega)]
   obtain⟨x,g⟩:∃ x,l[k]?= some x:=⟨_,List.getElem?_eq_getElem (by omega)⟩;exact z3L g (by omega)
  ·rw[if_neg (by omega),z3K (by omega) (by omega)]
theorem z78 {a b:ByteArray}:cmpS a b= 0↔a= b:=by
 obtain⟨_,h2⟩:=z2R a.data.toList b.data.toList;have h3:(a.data.toList ==b.data.toList)= true↔a= b:=by
  rw[beq_iff_eq];constructor
  ·intro h
   cases a with|mk x=>cases b with|mk y=>exact congrArg ByteArray.mk (Array.toList_inj.1 h)
  ·rintro rfl;rfl
 exact⟨fun h=>h3.1 (h2.2 h),fun h=>h2.1 (h3.2 h)⟩
theorem z3k:∀ {l r:List ByteArray},listC cmpS l r= 0↔l= r
 |[],[]=>by simp[listC]
 |[],_::_=>by simp[listC]
 |_::_,[]=>by simp[listC]
 |a::l,b::r=>by
  unfold listC
  by_cases h:cmpS a b= 0
  ·rw[if_neg (fun k=>k h),z3k,z78.1 h];simp
  ·rw[if_pos h]
   constructor
   ·intro k;exact absurd k h
   ·intro k;injection k with k1 k2;exact absurd (z78.2 k1) h
theorem zd4 (u v:Value) (l r:List ByteArray) (w:World) (hu:SlAt w w.heap.size 1 StrR u l) (hv:SlAt w w.heap.size 1 StrR v r):
  Calls Tryz.prog 66 #[u,v] w fun e w'=>e= .returned (.int .i64 (listC cmpS l r))/\∃ m,w'= w.drewN m:=by
 obtain⟨_,A,ca,rfl,_⟩:=id hu;obtain⟨_,D,cb,rfl,_⟩:=id hv;obtain⟨_,hl,ha⟩:=z1l hu;obtain⟨_,hr,hb⟩:=z1l hv;have HA:=I ha;have HB:=I hb;have HS:=I (fun k x y=>z3M (f:=cmpS) (l:=l) (r:=r) (k:=k) (x:=x) (y:=y));have HT:=I (fun k=>zb0 (f:=cmpS) (l:=l) (r:=r) (k:=k));have H0:Hid (listC cmpS (l.drop 0) (r.drop 0)= listC cmpS l r):=I rfl;have C:=I (fun z=>zd5 (l.length:Int) (r.length:Int) z);have b7:(l.length:Int)<=9223372036854775807:=by omega
 have b9:(r.length:Int)<=9223372036854775807:=by omega
 clear ha hb hu hv;generalize listC cmpS l r= res at*;go_enter Tryz.func66,Tryz.ntmps66;go_wp2;go_loopg [5] l.length (fun q x u=>∃ k m:Nat,k+q= l.length/\k<=r.length/\x= .int .i64 k/\u= w.drewN m/\listC cmpS (l.drop k) (r.drop k)= res);case atStart=>exact⟨0,0,by omega,by omega,rfl,rfl,H0.o⟩
 case round=>
  obtain⟨k,m,hk,G,rfl,rfl,N⟩:=hrel;have HR:=I N;clear N;cases gk with
  |zero=>
   obtain rfl:k= l.length:=by omega
   have a2: ¬ ((l.length:Int) <(l.length:Int)):=by omega
   have K:=I ((HR.o).symm.trans (HT.o l.length (Nat.le_refl _) G (.inl rfl)));rw[← K.o] at C;clear HR;go_wp2_with (go_at_call 105;refine(C.o _).mono ?_;rintro e z ⟨rfl,rfl⟩);go_ret;exact⟨rfl,_,rfl⟩
  |succ q=>
   have b8:(k:Int) <(l.length:Int):=by omega
   by_cases hkr2:k < r.length
   ·have b0:(k:Int) <(r.length:Int):=by omega
    obtain⟨x,hx⟩:∃ x,l[k]?= some x:=⟨_,List.getElem?_eq_getElem (by omega)⟩;obtain⟨y,hy⟩:∃ y,r[k]?= some y:=⟨_,List.getElem?_eq_getElem hkr2⟩;obtain⟨b1,o1,rfl,_,c1⟩:=HA.o (by omega);obtain⟨b2,o2,rfl,_,c2⟩:=HB.o (by omega);obtain⟨wm,g⟩:∃ wm,w.drewN m= wm:=⟨_,rfl⟩;have d1:wm.cell? ⟨b1,o1+k,none⟩= some (.string x):=by rw[← g];exact(c1 k x hx).1
    have d2:wm.cell? ⟨b2,o2+k,none⟩= some (.string y):=by rw[← g];exact(c2 k y hy).1
    have Y:Hid (∀ q,∃ m',wm.drewN q= w.drewN m'):=I fun q=>⟨m+q,by rw[← g,World.drewN_drewN]⟩;rw[g];have K:=I ((HR.o).symm.trans (HS.o k x y hx hy));have HC:=I (fun w=>zd6 x y w);clear c1 c2 hx hy G g;generalize cmpS x y= cv at*;by_cases hc:cv= 0
    ·subst hc
     have O:=I (K.o.trans (if_neg (fun h=>h rfl)));clear K;go_upto_region 4 with (fail);go_quiet ((go_at_call 104;exact Calls.quiet_of_same (HC.o _)));obtain⟨m',X⟩:=Y.o nq;rw[X];go_wp2;go_roundg q;case measure=>omega
     case rel=>exact⟨k+1,_,by omega,by omega,by go_num,rfl,O.o.symm⟩
    ·have O:=I (K.o.trans (if_pos hc))
     have t2:(cv !=0)= true:=by simpa using hc
     clear K hc;go_upto_region 4 with (fail);go_quiet ((go_at_call 104;exact Calls.quiet_of_same (HC.o _)));obtain⟨m',X⟩:=Y.o nq;rw[X];go_wp2;go_ret;exact⟨zW O.o.symm,_,rfl⟩
   ·have K:=I ((HR.o).symm.trans (HT.o k (by omega) G (.inr (by omega))))
    have a2: ¬ ((k:Int) <(r.length:Int)):=by omega
    rw[← K.o] at C;clear HR G hkr2;go_wp2_with (go_at_call 105;refine(C.o _).mono ?_;rintro e z ⟨rfl,rfl⟩);go_ret;exact⟨rfl,_,rfl⟩
theorem z3Z (u v:Value) (l r:List ByteArray) (w:World) (hu:SlAt w w.heap.size 1 StrR u l) (hv:SlAt w w.heap.size 1 StrR v r):
  Calls Tryz.prog 135 #[u,v] w fun e w'=>e= .returned (.bool (decide (l= r)))/\∃ m,w'= w.drewN m:=by
 obtain⟨_,A,C,rfl,_⟩:=id hu;obtain⟨_,D,cb,rfl,_⟩:=id hv;obtain⟨_,O,G⟩:=z1l hu;obtain⟨_,X,K⟩:=z1l hv;by_cases hlen:l.length= r.length
 ·by_cases h0:l.length= 0
  ·have e1:l=[]:=List.eq_nil_of_length_eq_zero h0
   have e2:r=[]:=List.eq_nil_of_length_eq_zero (by omega);subst e1 e2;refine(Tryz.slices_Equal_string_empty A D C 0 cb w (by omega)).mono ?_;rintro e z ⟨rfl,rfl⟩;exact⟨by simp,0,rfl⟩
  ·have p1:0 < l.length:=by omega
   have p2:0 < r.length:=by omega
   obtain⟨b1,o1,rfl,_,c1⟩:=G p1;obtain⟨b2,o2,rfl,_,c2⟩:=K p2;refine(Tryz.slices_Equal_string b1 o1 l.length C b2 o2 r.length cb l r w (Nat.le_refl _) (Nat.le_refl _) O X (fun j hj=> ?_) (fun j hj=> ?_)).mono ?_
   ·obtain⟨x,g⟩:∃ x,l[j]?= some x:=⟨_,List.getElem?_eq_getElem hj⟩
    rw[(c1 j x g).1];simp[List.getD,g]
   ·obtain⟨x,g⟩:∃ x,r[j]?= some x:=⟨_,List.getElem?_eq_getElem hj⟩
    rw[(c2 j x g).1];simp[List.getD,g]
   ·rintro e z ⟨rfl,h⟩
    exact⟨by rw[List.take_length,List.take_length],h⟩
 ·have N:Hid (decide (l= r)= false):=I (decide_eq_false fun h=>hlen (by rw[h]))
  have t1:((l.length:Int) !=(r.length:Int))= true:=by rw[bne_iff_ne];omega
  clear G K hu hv hlen;go_enter Tryz.func135,Tryz.ntmps135;go_wp2;go_ret;exact⟨z8 N.o.symm,0,rfl⟩
end
section
open Go Go.RowKit
mutual
def fitsV:VT->TT->Bool
 | .mk k n f s ns its,.mk k' ns' ts=>(k ==k') && (if k= 5 then fitsA its ts else if k= 6 then decide (ns= ns') && fitsL its ts else true)
def fitsA:List VT->List TT->Bool
 |[],_=>true
 |a::l,t::r=>fitsV a t && fitsA l (t::r)
 |_::_,[]=>true
def fitsL:List VT->List TT->Bool
 |[],_=>true
 |a::l,t::r=>fitsV a t && fitsL l r
 |_::_,[]=>true
end
theorem z5W {l:List VT} {r:List TT} {k:Nat} {x:VT} {t:TT} (hx:l[k]?= some x) (ht:r[0]?= some t):fitsA (l.drop k) r=(fitsV x t && fitsA (l.drop (k+1)) r):=by
 cases r with
 |nil=>simp at ht
 |cons y r=>
  obtain rfl:y= t:=by simpa using ht
  rw[z0d hx,fitsA]
theorem z7o {l:List VT} {r:List TT}:fitsA (l.drop l.length) r= true:=by
 rw[List.drop_eq_nil_of_le (Nat.le_refl _),fitsA]
theorem z5X {l:List VT} {r:List TT} {k:Nat} {x:VT} {t:TT} (hx:l[k]?= some x) (ht:r[k]?= some t):fitsL (l.drop k) (r.drop k)=(fitsV x t && fitsL (l.drop (k+1)) (r.drop (k+1))):=by
 rw[z0d hx,z0d ht,fitsL]
theorem z7p {l:List VT} {r:List TT}:fitsL (l.drop l.length) (r.drop l.length)= true:=by
 rw[List.drop_eq_nil_of_le (Nat.le_refl _),fitsL]
theorem z3T:∀ {l:List VT} {d:Nat},zK l d= true->∀ x∈l,zr x d= true
 |[],_,_,x,hx=>by cases hx
 |a::l,d,h,x,hx=>by
  rw[zK,Bool.and_eq_true] at h
  rcases List.mem_cons.1 hx with rfl|hx
  ·exact h.1
  ·exact z3T h.2 x hx
theorem z19:∀ {l:List TT} {d:Nat},z0b l d= true->∀ x∈l,zG x d= true
 |[],_,_,x,hx=>by cases hx
 |a::l,d,h,x,hx=>by
  rw[z0b,Bool.and_eq_true] at h
  rcases List.mem_cons.1 hx with rfl|hx
  ·exact h.1
  ·exact z19 h.2 x hx
theorem z3U {n:Int} {f:Nat} {s:ByteArray} {ns:List ByteArray} {its:List VT} {d:Nat} (h:zr (.mk 5 n f s ns its) d= true):∀ x∈its,zr x (d+1)= true:=by
 rw[zr] at h;by_cases hd:12 < d
 ·rw[if_pos hd] at h;cases h
 ·rw[if_neg hd] at h
  simp only[show ¬ ((5:Int)= 1) by decide,show ¬ ((5:Int)= 2) by decide,show ¬ ((5:Int)= 3) by decide,show ¬ ((5:Int)= 4) by decide,show ¬ ((5:Int)= 6) by decide,if_false,if_true,Bool.and_eq_true] at h;exact z3T h.2.2
theorem z2t {n:Int} {f:Nat} {s:ByteArray} {ns:List ByteArray} {its:List VT} {d:Nat} (h:zr (.mk 6 n f s ns its) d= true):ns.length= its.length/\∀ x∈its,zr x (d+1)= true:=by
 rw[zr] at h;by_cases hd:12 < d
 ·rw[if_pos hd] at h;cases h
 ·rw[if_neg hd] at h
  simp only[show ¬ ((6:Int)= 1) by decide,show ¬ ((6:Int)= 2) by decide,show ¬ ((6:Int)= 3) by decide,show ¬ ((6:Int)= 4) by decide,if_false,if_true,Bool.and_eq_true,beq_iff_eq] at h;exact⟨h.1,z3T h.2.2.2⟩
theorem z6i {n:Int} {f:Nat} {s:ByteArray} {ns:List ByteArray} {its:List VT} {d:Nat}:zr (.mk 7 n f s ns its) d= false:=by
 rw[zr];simp
theorem z0w {ns:List ByteArray} {its:List TT} {d:Nat} (h:zG (.mk 5 ns its) d= true):its.length= 1/\∀ x∈its,zG x (d+1)= true:=by
 rw[zG] at h;by_cases hd:12 < d
 ·rw[if_pos hd] at h;cases h
 ·rw[if_neg hd,if_pos rfl] at h
  simp only[Bool.and_eq_true,beq_iff_eq] at h;exact⟨h.1,z19 h.2.2⟩
theorem z1U {ns:List ByteArray} {its:List TT} {d:Nat} (h:zG (.mk 6 ns its) d= true):ns.length= its.length/\∀ x∈its,zG x (d+1)= true:=by
 rw[zG] at h;by_cases hd:12 < d
 ·rw[if_pos hd] at h;cases h
 ·rw[if_neg hd,if_neg (by decide),if_pos rfl] at h
  simp only[Bool.and_eq_true,beq_iff_eq] at h;exact⟨h.1,z19 h.2.2⟩
theorem zeQ:∀ (x:VT) (t:TT) (d e:Nat) (cs cs':List Value) (p o q r:Nat) (w:World),zr x d= true->zG t e= true->w.rangeAt p o cs->w.rangeAt q r cs'->ValAt w w.heap.size cs x->TypAt w w.heap.size cs' t->
  Calls Tryz.prog 92 #[.pointer (some ⟨p,o,none⟩),.pointer (some ⟨q,r,none⟩)] w fun en w'=>en= .returned (.bool (fitsV x t))/\∃ m,w'= w.drewN m:=by
 intro x
 induction x using VT.ind with
 |h k n f s ns its ih=>
  intro t d e cs cs' p o q r w e9 f0 hr b8 hv f3;cases t with
  |mk k' ns' ts=>
  have IH:=I ih;obtain⟨vn,vi,rfl,_,_,_,_,hn,_,hi⟩:=hv.inv;obtain⟨A,c,rfl,h7,hA⟩:=z1e hi;obtain⟨c8,h9,rfl,_,e8,_,e6⟩:=f3.inv;obtain⟨A',c',rfl,h3,e4⟩:=z1u e6;have HN:=I hn;have g3:=I e8;have HA:=I hA;have d8:=I e4;have d0:w.cell? ⟨p,o,none⟩= some (.int .i64 k):=hr 0 _ rfl;have D4:=I (hr 4 _ rfl);have D5:=I (hr 5 _ rfl);have e0:w.cell? ⟨q,r,none⟩= some (.int .i64 k'):=b8 0 _ rfl;have E1:=I (b8 1 _ rfl);have E2:=I (b8 2 _ rfl);have HO:Hid (fitsV (.mk k n f s ns its) (.mk k' ns' ts)=((k ==k') && (if k= 5 then fitsA its ts else if k= 6 then decide (ns= ns') && fitsL its ts else true))):=I (by rw[fitsV]);generalize N:fitsV (.mk k n f s ns its) (.mk k' ns' ts)= res at*;have d1:=I e9;have a3:=I f0;clear ih hr b8 hv f3 hn e8 hi e6 hA e4 N e9 f0;by_cases hck:k= k';case neg=>
   have HR:Hid (res= false):=I (HO.o.trans (by rw[beq_eq_false_iff_ne.2 hck];exact Bool.false_and _));have t2:(k !=k')= true:=by simpa using hck
   clear hck HO;go_enter Tryz.func92,Tryz.ntmps92;go_wp2;go_quiet (fail);go_wp2;go_ret;exact⟨z8 HR.o.symm,_,rfl⟩
  subst hck;have b5:=I (HO.o.trans (by rw[beq_self_eq_true,Bool.true_and]));clear HO;by_cases k5:k= 5
  ·subst k5
   have HR:Hid (res= fitsA its ts):=I (b5.o.trans (if_pos rfl));clear b5;go_enter Tryz.func92,Tryz.ntmps92;go_wp2;go_quiet (fail);obtain⟨w1,C⟩:∃ w1,w.drewN nq= w1:=⟨_,rfl⟩;have c0:w1.cell? ⟨p,o,none⟩= some (.int .i64 5):=by rw[← C];exact d0
   have c4:w1.cell? ⟨p,o+4,none⟩= some vn:=by rw[← C];exact D4.o
   have c5:w1.cell? ⟨p,o+5,none⟩= some (.slice A its.length c):=by rw[← C];exact D5.o
   have f1:w1.cell? ⟨q,r+1,none⟩= some c8:=by rw[← C];exact E1.o
   have f2:w1.cell? ⟨q,r+2,none⟩= some (.slice A' ts.length c'):=by rw[← C];exact E2.o
   have G:=I C;rw[C];clear C d0 e0;go_wp2;go_loopg [27] its.length (fun g x u=>∃ j m:Nat,j+g= its.length/\x= .int .i64 j/\u= w.drewN m/\fitsA (its.drop j) ts= res);case atStart=>exact⟨0,_,by omega,rfl,(by first|exact G.o.symm|exact e2.o.symm),HR.o.symm⟩
   case round=>
    obtain⟨j,m,hj,rfl,rfl,N⟩:=hrel;have a6:=I N;clear N;cases gk with
    |zero=>
     obtain rfl:j= its.length:=by omega
     have g4: ¬ ((its.length:Int) <(its.length:Int)):=by omega
     have d2:=I (a6.o.symm.trans z7o);go_wp2;go_ret;exact⟨z8 d2.o.symm,_,rfl⟩
    |succ g=>
     have g7:(j:Int) <(its.length:Int):=by omega
     obtain⟨x,hx⟩:∃ x,its[j]?= some x:=⟨_,List.getElem?_eq_getElem (by omega)⟩;obtain⟨b,o',rfl,d3,hc⟩:=HA.o (by omega);obtain⟨ks,b0,b2⟩:=hc j x hx;obtain⟨y,hy⟩:∃ y,ts[0]?= some y:=⟨_,List.getElem?_eq_getElem (by have:=(z0w a3.o).1;omega)⟩;obtain⟨b',a4,rfl,a8,a9⟩:=d8.o (by have:=(z0w a3.o).1;omega);obtain⟨c7,c9,b3⟩:=a9 0 y hy;have Y:w.rangeAt b' a4 c7:=by simpa using c9
     have e7:(0:Int) <(ts.length:Int):=by have:=(z0w a3.o).1;omega
     have X:=I (a6.o.symm.trans (z5W hx hy));obtain⟨wm,K⟩:∃ wm,w.drewN m= wm:=⟨_,rfl⟩;have O:Hid (Below w.heap.size w wm):=I (by rw[← K];exact zj (Below.refl _ w) m);have a5:Hid (∀ q,∃ m',wm.drewN q= w.drewN m'):=I fun q=>⟨m+q,by rw[← K,World.drewN_drewN]⟩;have c5:wm.cell? ⟨p,o+5,none⟩= some (.slice (some ⟨b,o',none⟩) its.length c):=by rw[← K];exact D5.o
     have f2:wm.cell? ⟨q,r+2,none⟩= some (.slice (some ⟨b',a4,none⟩) ts.length c'):=by rw[← K];exact E2.o
     have HS:=I (fun nq=>IH.o x (List.mem_of_getElem? hx) y (d+1) (e+1) ks c7 b (o'+j*6) b' a4 (wm.drewN nq) (z3U d1.o x (List.mem_of_getElem? hx)) ((z0w a3.o).2 y (List.mem_of_getElem? hy)) (zb b0 (zj O.o nq) d3) (zb Y (zj O.o nq) a8) (b2.next (zj O.o nq)) (b3.next (zj O.o nq)));rw[K];clear hc b0 b2 hx K a9 c9 Y b3 hy;generalize fitsV x y= rx at*;cases rx with
     |true=>
      have a0:=I (X.o.trans (Bool.true_and _));clear X;go_upto_region 8 with (fail);go_quiet ((go_at_call 92;exact Calls.quiet_of (HS.o _)));obtain⟨m',a1⟩:=a5.o nq;rw[a1];go_wp2;go_roundg g;case measure=>omega
      case rel=>exact⟨j+1,_,by omega,by go_num,rfl,a0.o.symm⟩
     |false=>
      have a0:Hid (res= false):=I (X.o.trans (Bool.false_and _));clear X;go_upto_region 8 with (fail);go_quiet ((go_at_call 92;exact Calls.quiet_of (HS.o _)));obtain⟨m',a1⟩:=a5.o nq;rw[a1];go_wp2;go_ret;exact⟨z8 a0.o.symm,_,rfl⟩
  have b6:=I (b5.o.trans (if_neg k5));clear b5;by_cases k6:k= 6
  ·subst k6
   have HV:Hid (res=(decide (ns= ns') && fitsL its ts)):=I (b6.o.trans (if_pos rfl));clear b6;go_enter Tryz.func92,Tryz.ntmps92;go_wp2;go_quiet (fail);obtain⟨w1,C⟩:∃ w1,w.drewN nq= w1:=⟨_,rfl⟩;have c0:w1.cell? ⟨p,o,none⟩= some (.int .i64 6):=by rw[← C];exact d0
   have c4:w1.cell? ⟨p,o+4,none⟩= some vn:=by rw[← C];exact D4.o
   have c5:w1.cell? ⟨p,o+5,none⟩= some (.slice A its.length c):=by rw[← C];exact D5.o
   have f1:w1.cell? ⟨q,r+1,none⟩= some c8:=by rw[← C];exact E1.o
   have f2:w1.cell? ⟨q,r+2,none⟩= some (.slice A' ts.length c'):=by rw[← C];exact E2.o
   have G:=I C;rw[C];clear C d0 e0;have a7:=I (fun z=>z3Z vn c8 ns ns' (w1.drewN z) ((HN.o.below (by rw[← G.o];exact zj (zj (Below.refl _ w) _) _) fun _ _ _ h=>h).more (by rw[← G.o];exact Nat.le_refl _)) ((g3.o.below (by rw[← G.o];exact zj (zj (Below.refl _ w) _) _) fun _ _ _ h=>h).more (by rw[← G.o];exact Nat.le_refl _)));have d9:Hid (∀ z,∃ m,w1.drewN z= w.drewN m):=I fun z=>⟨nq+z,by rw[← G.o,World.drewN_drewN]⟩;by_cases hnn:ns= ns'
   ·have HR:Hid (res= fitsL its ts):=I (HV.o.trans (by rw[decide_eq_true hnn];exact Bool.true_and _))
    have g2:Hid (its.length= ts.length):=I (by rw[← (z2t d1.o).1,← (z1U a3.o).1,hnn]);rw[decide_eq_true hnn] at a7;clear hnn HV;go_upto_region 12 with (fail)
    revert G
    clear d9;obtain⟨n1,b1⟩:∃ n1,nq= n1:=⟨_,rfl⟩;rw[b1];clear b1 nq;intro G;go_quiet ((go_at_call 135;exact Calls.quiet_of (a7.o _)));obtain⟨w2,b9⟩:∃ w2,w1.drewN nq= w2:=⟨_,rfl⟩;have e2:Hid (w.drewN (n1+nq)= w2):=I (by rw[← b9,← G.o,World.drewN_drewN]);have g5:w2.cell? ⟨p,o+5,none⟩= some (.slice A its.length c):=by rw[← b9];exact c5
    rw[b9];clear b9 G c0 c4 c5 f1 f2 a7;go_wp2;clear g5;go_loopg [61] its.length (fun g x u=>∃ j m:Nat,j+g= its.length/\x= .int .i64 j/\u= w.drewN m/\fitsL (its.drop j) (ts.drop j)= res);case atStart=>exact⟨0,_,by omega,rfl,(by first|exact G.o.symm|exact e2.o.symm),HR.o.symm⟩
    case round=>
     obtain⟨j,m,hj,rfl,rfl,N⟩:=hrel;have a6:=I N;clear N;cases gk with
     |zero=>
      obtain rfl:j= its.length:=by omega
      have g4: ¬ ((its.length:Int) <(its.length:Int)):=by omega
      have d2:=I (a6.o.symm.trans z7p);go_wp2;go_ret;exact⟨z8 d2.o.symm,_,rfl⟩
     |succ g=>
      have g7:(j:Int) <(its.length:Int):=by omega
      obtain⟨x,hx⟩:∃ x,its[j]?= some x:=⟨_,List.getElem?_eq_getElem (by omega)⟩;obtain⟨b,o',rfl,d3,hc⟩:=HA.o (by omega);obtain⟨ks,b0,b2⟩:=hc j x hx;have g6:j < ts.length:=g2.o▸ (by omega:j < its.length);have e7:(j:Int) <(ts.length:Int):=by omega
      obtain⟨y,hy⟩:∃ y,ts[j]?= some y:=⟨_,List.getElem?_eq_getElem g6⟩;obtain⟨b',a4,rfl,a8,a9⟩:=d8.o (by omega);obtain⟨c7,Y,b3⟩:=a9 j y hy;have X:=I (a6.o.symm.trans (z5X hx hy));obtain⟨wm,K⟩:∃ wm,w.drewN m= wm:=⟨_,rfl⟩;have O:Hid (Below w.heap.size w wm):=I (by rw[← K];exact zj (Below.refl _ w) m);have a5:Hid (∀ q,∃ m',wm.drewN q= w.drewN m'):=I fun q=>⟨m+q,by rw[← K,World.drewN_drewN]⟩;have c5:wm.cell? ⟨p,o+5,none⟩= some (.slice (some ⟨b,o',none⟩) its.length c):=by rw[← K];exact D5.o
      have f2:wm.cell? ⟨q,r+2,none⟩= some (.slice (some ⟨b',a4,none⟩) ts.length c'):=by rw[← K];exact E2.o
      have HS:=I (fun nq=>IH.o x (List.mem_of_getElem? hx) y (d+1) (e+1) ks c7 b (o'+j*6) b' (a4+j*3) (wm.drewN nq) ((z2t d1.o).2 x (List.mem_of_getElem? hx)) ((z1U a3.o).2 y (List.mem_of_getElem? hy)) (zb b0 (zj O.o nq) d3) (zb Y (zj O.o nq) a8) (b2.next (zj O.o nq)) (b3.next (zj O.o nq)));rw[K];clear hc b0 b2 hx K a9 Y b3 hy;generalize fitsV x y= rx at*;cases rx with
      |true=>
       have a0:=I (X.o.trans (Bool.true_and _));clear X;go_upto_region 17 with (fail);go_quiet ((go_at_call 92;exact Calls.quiet_of (HS.o _)));obtain⟨m',a1⟩:=a5.o nq;rw[a1];go_wp2;go_roundg g;case measure=>omega
       case rel=>exact⟨j+1,_,by omega,by go_num,rfl,a0.o.symm⟩
      |false=>
       have a0:Hid (res= false):=I (X.o.trans (Bool.false_and _));clear X;go_upto_region 17 with (fail);go_quiet ((go_at_call 92;exact Calls.quiet_of (HS.o _)));obtain⟨m',a1⟩:=a5.o nq;rw[a1];go_wp2;go_ret;exact⟨z8 a0.o.symm,_,rfl⟩
   ·have HR:Hid (res= false):=I (HV.o.trans (by rw[decide_eq_false hnn];exact Bool.false_and _))
    rw[decide_eq_false hnn] at a7;clear hnn HV;go_upto_region 12 with (fail)
    revert G
    clear d9;obtain⟨n1,b1⟩:∃ n1,nq= n1:=⟨_,rfl⟩;rw[b1];clear b1 nq;intro G;go_quiet ((go_at_call 135;exact Calls.quiet_of (a7.o _)));go_wp2;go_ret;exact⟨z8 HR.o.symm,_,(by rw[← G.o];exact World.drewN_drewN ..)⟩
  have HR:Hid (res= true):=I (b6.o.trans (if_neg k6));have s5:(k ==5)= false:=by simpa using k5
  have s6:(k ==6)= false:=by simpa using k6
  clear b6 k5 k6;go_enter Tryz.func92,Tryz.ntmps92;go_wp2;go_quiet (fail);obtain⟨w1,C⟩:∃ w1,w.drewN nq= w1:=⟨_,rfl⟩;have c0:w1.cell? ⟨p,o,none⟩= some (.int .i64 k):=by rw[← C];exact d0
  have c4:w1.cell? ⟨p,o+4,none⟩= some vn:=by rw[← C];exact D4.o
  have c5:w1.cell? ⟨p,o+5,none⟩= some (.slice A its.length c):=by rw[← C];exact D5.o
  have f1:w1.cell? ⟨q,r+1,none⟩= some c8:=by rw[← C];exact E1.o
  have f2:w1.cell? ⟨q,r+2,none⟩= some (.slice A' ts.length c'):=by rw[← C];exact E2.o
  have G:=I C;rw[C];clear C d0 e0;go_wp2;go_ret;exact⟨z8 HR.o.symm,_,G.o.symm⟩
end
section
open Go Go.RowKit
theorem zcZ:∀ (x:VT) (t:TT) (d e:Nat) (cs cs':List Value) (w:World),zr x d= true->zG t e= true->ValAt w w.heap.size cs x->TypAt w w.heap.size cs' t->
  Calls Tryz.prog 32 #[.agg ⟨cs⟩,.agg ⟨cs'⟩] w fun en w'=>en= .returned (.bool (fitsV x t))/\Below w.heap.size w w':=by
 intro x
 induction x using VT.ind with
 |h k n f s ns its ih=>
  intro t d e cs cs' w f6 h0 hv h1;cases t with
  |mk k' ns' ts=>
  have IH:=I ih;obtain⟨vn,vi,rfl,_,_,_,_,hn,_,hi⟩:=hv.inv;obtain⟨A,c,rfl,i8,hA⟩:=z1e hi;obtain⟨O,j1,rfl,_,g9,_,g8⟩:=h1.inv;obtain⟨A',c',rfl,i4,g6⟩:=z1u g8;have HN:=I hn;have h6:=I g9;have HA:=I hA;have g3:=I g6;have HO:Hid (fitsV (.mk k n f s ns its) (.mk k' ns' ts)=((k ==k') && (if k= 5 then fitsA its ts else if k= 6 then decide (ns= ns') && fitsL its ts else true))):=I (by rw[fitsV]);generalize b0:fitsV (.mk k n f s ns its) (.mk k' ns' ts)= res at*;have g0:=I f6;have d5:=I h0;have e5:k≠7:=by rintro rfl;rw[z6i] at f6;cases f6
  clear ih hv h1 hn g9 hi g8 hA g6 b0 f6 h0;by_cases hck:k= k';case neg=>
   have HR:Hid (res= false):=I (HO.o.trans (by rw[beq_eq_false_iff_ne.2 hck];exact Bool.false_and _));have t2:(k !=k')= true:=by simpa using hck
   clear hck HO e5;go_enter Tryz.func32,Tryz.ntmps32;go_upto_region 1 with (fail);have a7:=I (zv w [.int .i64 k,.int .i64 n,.float .f64 f,.string s,vn,.slice A its.length c] 39);have a8:=I (zc w (.cells ⟨[.int .i64 k,.int .i64 n,.float .f64 f,.string s,vn,.slice A its.length c]⟩ 39));have Y:=I (zy w (.cells ⟨[.int .i64 k,.int .i64 n,.float .f64 f,.string s,vn,.slice A its.length c]⟩ 39));have a1:Hid ((w.alloc (.cells ⟨[.int .i64 k,.int .i64 n,.float .f64 f,.string s,vn,.slice A its.length c]⟩ 39)).heap.size= w.heap.size+1):=I (by simp);generalize w.alloc (.cells ⟨[.int .i64 k,.int .i64 n,.float .f64 f,.string s,vn,.slice A its.length c]⟩ 39)= W1 at*;have HB:=I (zv W1 [.int .i64 k',O,.slice A' ts.length c'] 36);have K:=I (zc W1 (.cells ⟨[.int .i64 k',O,.slice A' ts.length c']⟩ 36));have a0:=I (zy W1 (.cells ⟨[.int .i64 k',O,.slice A' ts.length c']⟩ 36));generalize W1.alloc (.cells ⟨[.int .i64 k',O,.slice A' ts.length c']⟩ 36)= W at*;have a5:=I (zb a7.o K.o Y.o);have C:=I (beT a8.o K.o);have a4:=I (Nat.lt_of_lt_of_le Y.o K.o.size);rw[a1.o] at HB a0;obtain⟨pb,a2⟩:∃ pb,w.heap.size+1= pb:=⟨_,rfl⟩;rw[a2] at HB a0;rw[a2];clear a7 a8 Y a1 K a2;have d0:W.cell? ⟨w.heap.size,0,none⟩= some (.int .i64 k):=by have:=a5.o 0 _ rfl;simpa using this
   have e0:W.cell? ⟨pb,0,none⟩= some (.int .i64 k'):=by have:=HB.o 0 _ rfl;simpa using this
   have D5:Hid (W.cell? ⟨w.heap.size,5,none⟩= some (.slice A its.length c)):=I (by have:=a5.o 5 _ rfl;simpa using this);have E2:Hid (W.cell? ⟨pb,2,none⟩= some (.slice A' ts.length c')):=I (by have:=HB.o 2 _ rfl;simpa using this);go_wp2;go_ret;exact⟨z8 HR.o.symm,C.o⟩
  subst hck;have f2:=I (HO.o.trans (by rw[beq_self_eq_true,Bool.true_and]));clear HO;by_cases k5:k= 5
  ·subst k5
   have HR:Hid (res= fitsA its ts):=I (f2.o.trans (if_pos rfl));clear f2 e5;go_enter Tryz.func32,Tryz.ntmps32;go_upto_region 1 with (fail);have a7:=I (zv w [.int .i64 5,.int .i64 n,.float .f64 f,.string s,vn,.slice A its.length c] 39);have a8:=I (zc w (.cells ⟨[.int .i64 5,.int .i64 n,.float .f64 f,.string s,vn,.slice A its.length c]⟩ 39));have Y:=I (zy w (.cells ⟨[.int .i64 5,.int .i64 n,.float .f64 f,.string s,vn,.slice A its.length c]⟩ 39));have a1:Hid ((w.alloc (.cells ⟨[.int .i64 5,.int .i64 n,.float .f64 f,.string s,vn,.slice A its.length c]⟩ 39)).heap.size= w.heap.size+1):=I (by simp);generalize w.alloc (.cells ⟨[.int .i64 5,.int .i64 n,.float .f64 f,.string s,vn,.slice A its.length c]⟩ 39)= W1 at*;have HB:=I (zv W1 [.int .i64 5,O,.slice A' ts.length c'] 36);have K:=I (zc W1 (.cells ⟨[.int .i64 5,O,.slice A' ts.length c']⟩ 36));have a0:=I (zy W1 (.cells ⟨[.int .i64 5,O,.slice A' ts.length c']⟩ 36));generalize W1.alloc (.cells ⟨[.int .i64 5,O,.slice A' ts.length c']⟩ 36)= W at*;have a5:=I (zb a7.o K.o Y.o);have C:=I (beT a8.o K.o);have a4:=I (Nat.lt_of_lt_of_le Y.o K.o.size);rw[a1.o] at HB a0;obtain⟨pb,a2⟩:∃ pb,w.heap.size+1= pb:=⟨_,rfl⟩;rw[a2] at HB a0;rw[a2];clear a7 a8 Y a1 K a2;have d0:W.cell? ⟨w.heap.size,0,none⟩= some (.int .i64 5):=by have:=a5.o 0 _ rfl;simpa using this
   have e0:W.cell? ⟨pb,0,none⟩= some (.int .i64 5):=by have:=HB.o 0 _ rfl;simpa using this
   have D5:Hid (W.cell? ⟨w.heap.size,5,none⟩= some (.slice A its.length c)):=I (by have:=a5.o 5 _ rfl;simpa using this);have E2:Hid (W.cell? ⟨pb,2,none⟩= some (.slice A' ts.length c')):=I (by have:=HB.o 2 _ rfl;simpa using this);have D0:=I d0;have c5:=D5.o;go_wp2;clear d0 e0 c5;go_loopg [5] its.length (fun g x u=>∃ j:Nat,j+g= its.length/\x= .int .i64 j/\Below W.heap.size W u/\fitsA (its.drop j) ts= res);case atStart=>exact⟨0,by omega,rfl,Below.refl _ _,HR.o.symm⟩
   case round=>
    obtain⟨j,hj,rfl,hb,b0⟩:=hrel;have e2:=I b0;have c7:=I hb;have c0:wr.cell? ⟨w.heap.size,0,none⟩= some (.int .i64 5):=(hb.cell (p:=⟨w.heap.size,0,none⟩) a4.o).trans D0.o;have c5:=(hb.cell (p:=⟨w.heap.size,5,none⟩) a4.o).trans D5.o;clear b0 hb;cases gk with
    |zero=>
     obtain rfl:j= its.length:=by omega
     have h7: ¬ ((its.length:Int) <(its.length:Int)):=by omega
     have g1:=I (e2.o.symm.trans z7o);go_wp2;go_ret;exact⟨z8 g1.o.symm,(beT C.o c7.o)⟩
    |succ g=>
     have h9:(j:Int) <(its.length:Int):=by omega
     obtain⟨x,hx⟩:∃ x,its[j]?= some x:=⟨_,List.getElem?_eq_getElem (by omega)⟩;obtain⟨b,o',rfl,e3,hc⟩:=HA.o (by omega);obtain⟨ks,e6,c9⟩:=hc j x hx;obtain⟨y,hy⟩:∃ y,ts[0]?= some y:=⟨_,List.getElem?_eq_getElem (by have:=(z0w d5.o).1;omega)⟩;obtain⟨b',a3,rfl,b8,e4⟩:=g3.o (by have:=(z0w d5.o).1;omega);obtain⟨X,f8,d1⟩:=e4 0 y hy;have b9:w.rangeAt b' a3 X:=by simpa using f8
     have e7:(0:Int) <(ts.length:Int):=by have:=(z0w d5.o).1;omega
     have j0:ts≠[]:=fun h=>by rw[h] at e7;simp at e7
     have b4:=I (e2.o.symm.trans (z5W hx hy));have e1:=I (zb e6 C.o e3);have b7:=I (zb b9 C.o b8);have d8:=I (Nat.lt_of_lt_of_le e3 C.o.size);have b5:=I (Nat.lt_of_lt_of_le b8 C.o.size);have d9:=I (zm c9);have b6:=I (zl d1);have HC:=I (fun(z:World) (hz:Below W.heap.size W z)=>IH.o x (List.mem_of_getElem? hx) y (d+1) (e+1) ks X z (z3U g0.o x (List.mem_of_getElem? hx)) ((z0w d5.o).2 y (List.mem_of_getElem? hy)) (c9.next (beT C.o hz)) (d1.next (beT C.o hz)));clear hc e6 c9 hx e4 f8 b9 d1 hy;generalize fitsV x y= rx at*;go_upto_region 7 with (fail);clear c0 c5;cases rx with
     |true=>
      have c8:=I (b4.o.trans (Bool.true_and _));clear b4;refine zo [(0,true),(1,true),(2,true),(3,true),(4,true),(5,true),(6,true),(7,true),(8,true),(9,false),(10,true)] (fun z=>Below W.heap.size W z) (by kernel_rfl) (by intro c a d v w h;cases d<;>exact h) ?_;have G:Below W.heap.size W wr.drew:=c7.o.drew;refine z7 27 (.pointer (some ⟨w.heap.size,5,none⟩)) rfl rfl rfl G (fun z hz=>by go_simp) ?_;go_frame;refine z7 28 (.slice (some ⟨b,o',none⟩) its.length c) rfl rfl rfl G (fun z hz=>by have dd:=(hz.cell (p:=⟨w.heap.size,5,none⟩) a4.o).trans D5.o;go_simp) ?_;go_frame;refine zf 29 (.int .i64 j) rfl rfl rfl rfl G rfl ?_;go_frame;refine z7 30 (.pointer (some ⟨b,o'+j*6,none⟩)) rfl rfl rfl G (fun z hz=>by go_simp) ?_;go_frame;refine z7 31 (.agg ⟨ks⟩) rfl rfl rfl G (fun z hz=>zp 39 rfl b (o'+j*6) ks _ rfl (zb e1.o hz d8.o) Tryz.underlying39 rfl (by rw[d9.o.1];kernel_rfl)) ?_;go_frame;refine z7 32 (.pointer (some ⟨pb,2,none⟩)) rfl rfl rfl G (fun z hz=>by go_simp) ?_;go_frame;refine z7 33 (.slice (some ⟨b',a3,none⟩) ts.length c') rfl rfl rfl G (fun z hz=>by have dd:=(hz.cell (p:=⟨pb,2,none⟩) a0.o).trans E2.o;go_simp) ?_;go_frame;refine z7 34 (.pointer (some ⟨b',a3,none⟩)) rfl rfl rfl G (fun z hz=>by go_simp) ?_;go_frame;refine z7 35 (.agg ⟨X⟩) rfl rfl rfl G (fun z hz=>zp 36 rfl b' a3 X _ rfl (zb b7.o hz b5.o) Tryz.underlying36 rfl (by rw[b6.o.1];kernel_rfl)) ?_;go_frame;refine zA 36 32 Tryz.func32 (by kernel_rfl) [.agg ⟨ks⟩,.agg ⟨X⟩] rfl rfl rfl rfl rfl ?_;refine(HC.o _ G).mono ?_;rintro e z1 ⟨rfl,a9⟩;have N:Below W.heap.size W z1:=(beT G a9);refine⟨.bool true,rfl,N,?_⟩;clear a9;go_frame;refine z7 37 (.bool false) rfl rfl rfl N (fun z hz=>by go_simp) ?_;go_frame;refine zD ?_;have c6:=I N;clear G N;go_wp2;go_roundg g;case measure=>omega
      case rel=>exact⟨j+1,by omega,by go_num,c6.o,c8.o.symm⟩
     |false=>
      have c8:Hid (res= false):=I (b4.o.trans (Bool.false_and _));clear b4;refine zo [(0,true),(1,true),(2,true),(3,true),(4,true),(5,true),(6,true),(7,true),(8,true),(9,false),(10,true)] (fun z=>Below W.heap.size W z) (by kernel_rfl) (by intro c a d v w h;cases d<;>exact h) ?_;have G:Below W.heap.size W wr.drew:=c7.o.drew;refine z7 27 (.pointer (some ⟨w.heap.size,5,none⟩)) rfl rfl rfl G (fun z hz=>by go_simp) ?_;go_frame;refine z7 28 (.slice (some ⟨b,o',none⟩) its.length c) rfl rfl rfl G (fun z hz=>by have dd:=(hz.cell (p:=⟨w.heap.size,5,none⟩) a4.o).trans D5.o;go_simp) ?_;go_frame;refine zf 29 (.int .i64 j) rfl rfl rfl rfl G rfl ?_;go_frame;refine z7 30 (.pointer (some ⟨b,o'+j*6,none⟩)) rfl rfl rfl G (fun z hz=>by go_simp) ?_;go_frame;refine z7 31 (.agg ⟨ks⟩) rfl rfl rfl G (fun z hz=>zp 39 rfl b (o'+j*6) ks _ rfl (zb e1.o hz d8.o) Tryz.underlying39 rfl (by rw[d9.o.1];kernel_rfl)) ?_;go_frame;refine z7 32 (.pointer (some ⟨pb,2,none⟩)) rfl rfl rfl G (fun z hz=>by go_simp) ?_;go_frame;refine z7 33 (.slice (some ⟨b',a3,none⟩) ts.length c') rfl rfl rfl G (fun z hz=>by have dd:=(hz.cell (p:=⟨pb,2,none⟩) a0.o).trans E2.o;go_simp) ?_;go_frame;refine z7 34 (.pointer (some ⟨b',a3,none⟩)) rfl rfl rfl G (fun z hz=>by go_simp) ?_;go_frame;refine z7 35 (.agg ⟨X⟩) rfl rfl rfl G (fun z hz=>zp 36 rfl b' a3 X _ rfl (zb b7.o hz b5.o) Tryz.underlying36 rfl (by rw[b6.o.1];kernel_rfl)) ?_;go_frame;refine zA 36 32 Tryz.func32 (by kernel_rfl) [.agg ⟨ks⟩,.agg ⟨X⟩] rfl rfl rfl rfl rfl ?_;refine(HC.o _ G).mono ?_;rintro e z1 ⟨rfl,a9⟩;have N:Below W.heap.size W z1:=(beT G a9);refine⟨.bool false,rfl,N,?_⟩;clear a9;go_frame;refine z7 37 (.bool true) rfl rfl rfl N (fun z hz=>by go_simp) ?_;go_frame;refine zD ?_;have c6:=I N;clear G N;go_wp2;go_ret;exact⟨z8 c8.o.symm,(beT C.o c6.o)⟩
  have f3:=I (f2.o.trans (if_neg k5));clear f2;by_cases k6:k= 6
  ·subst k6
   have HV:Hid (res=(decide (ns= ns') && fitsL its ts)):=I (f3.o.trans (if_pos rfl));clear f3 e5;go_enter Tryz.func32,Tryz.ntmps32;go_upto_region 1 with (fail);have a7:=I (zv w [.int .i64 6,.int .i64 n,.float .f64 f,.string s,vn,.slice A its.length c] 39);have a8:=I (zc w (.cells ⟨[.int .i64 6,.int .i64 n,.float .f64 f,.string s,vn,.slice A its.length c]⟩ 39));have Y:=I (zy w (.cells ⟨[.int .i64 6,.int .i64 n,.float .f64 f,.string s,vn,.slice A its.length c]⟩ 39));have a1:Hid ((w.alloc (.cells ⟨[.int .i64 6,.int .i64 n,.float .f64 f,.string s,vn,.slice A its.length c]⟩ 39)).heap.size= w.heap.size+1):=I (by simp);generalize w.alloc (.cells ⟨[.int .i64 6,.int .i64 n,.float .f64 f,.string s,vn,.slice A its.length c]⟩ 39)= W1 at*;have HB:=I (zv W1 [.int .i64 6,O,.slice A' ts.length c'] 36);have K:=I (zc W1 (.cells ⟨[.int .i64 6,O,.slice A' ts.length c']⟩ 36));have a0:=I (zy W1 (.cells ⟨[.int .i64 6,O,.slice A' ts.length c']⟩ 36));generalize W1.alloc (.cells ⟨[.int .i64 6,O,.slice A' ts.length c']⟩ 36)= W at*;have a5:=I (zb a7.o K.o Y.o);have C:=I (beT a8.o K.o);have a4:=I (Nat.lt_of_lt_of_le Y.o K.o.size);rw[a1.o] at HB a0;obtain⟨pb,a2⟩:∃ pb,w.heap.size+1= pb:=⟨_,rfl⟩;rw[a2] at HB a0;rw[a2];clear a7 a8 Y a1 K a2;have d0:W.cell? ⟨w.heap.size,0,none⟩= some (.int .i64 6):=by have:=a5.o 0 _ rfl;simpa using this
   have e0:W.cell? ⟨pb,0,none⟩= some (.int .i64 6):=by have:=HB.o 0 _ rfl;simpa using this
   have D5:Hid (W.cell? ⟨w.heap.size,5,none⟩= some (.slice A its.length c)):=I (by have:=a5.o 5 _ rfl;simpa using this);have E2:Hid (W.cell? ⟨pb,2,none⟩= some (.slice A' ts.length c')):=I (by have:=HB.o 2 _ rfl;simpa using this);have D0:=I d0;have c4:W.cell? ⟨w.heap.size,4,none⟩= some vn:=by have:=a5.o 4 _ rfl;simpa using this
   have f1:W.cell? ⟨pb,1,none⟩= some O:=by have:=HB.o 1 _ rfl;simpa using this
   have c5:=D5.o;have a1:=I (zd4 vn O ns ns' W ((HN.o.below C.o fun _ _ _ h=>h).more C.o.size) ((h6.o.below C.o fun _ _ _ h=>h).more C.o.size));by_cases hnn:ns= ns'
   ·have e9:listC cmpS ns ns'= 0:=z3k.2 hnn
    have HR:Hid (res= fitsL its ts):=I (HV.o.trans (by rw[decide_eq_true hnn];exact Bool.true_and _));have h5:Hid (its.length= ts.length):=I (by rw[← (z2t g0.o).1,← (z1U d5.o).1,hnn]);rw[e9] at a1;clear hnn HV e9;go_wp2_with (go_at_call 66;refine a1.o.mono ?_;rintro en z ⟨rfl,f0⟩;have d7:Hid (Below W.heap.size W z):=I (by obtain⟨m,rfl⟩:=f0;exact zj (Below.refl _ _) _);clear f0;have g5:=(d7.o.cell (p:=⟨w.heap.size,5,none⟩) a4.o).trans D5.o);clear d0 e0 c4 f1 c5 g5;go_loopg [6] its.length (fun g x u=>∃ j:Nat,j+g= its.length/\x= .int .i64 j/\Below W.heap.size W u/\fitsL (its.drop j) (ts.drop j)= res);case atStart=>exact⟨0,by omega,rfl,d7.o,HR.o.symm⟩
    case round=>
     obtain⟨j,hj,rfl,hb,b0⟩:=hrel;have e2:=I b0;have c7:=I hb;have c0:wr.cell? ⟨w.heap.size,0,none⟩= some (.int .i64 6):=(hb.cell (p:=⟨w.heap.size,0,none⟩) a4.o).trans D0.o;have c5:=(hb.cell (p:=⟨w.heap.size,5,none⟩) a4.o).trans D5.o;clear b0 hb;cases gk with
     |zero=>
      obtain rfl:j= its.length:=by omega
      have h7: ¬ ((its.length:Int) <(its.length:Int)):=by omega
      have g1:=I (e2.o.symm.trans z7p);go_wp2;go_ret;exact⟨z8 g1.o.symm,(beT C.o c7.o)⟩
     |succ g=>
      have h9:(j:Int) <(its.length:Int):=by omega
      obtain⟨x,hx⟩:∃ x,its[j]?= some x:=⟨_,List.getElem?_eq_getElem (by omega)⟩;obtain⟨b,o',rfl,e3,hc⟩:=HA.o (by omega);obtain⟨ks,e6,c9⟩:=hc j x hx;have h8:j < ts.length:=h5.o▸ (by omega:j < its.length);have e7:(j:Int) <(ts.length:Int):=by omega
      obtain⟨y,hy⟩:∃ y,ts[j]?= some y:=⟨_,List.getElem?_eq_getElem h8⟩;obtain⟨b',a3,rfl,b8,e4⟩:=g3.o (by omega);obtain⟨X,b9,d1⟩:=e4 j y hy;have b4:=I (e2.o.symm.trans (z5X hx hy));have e1:=I (zb e6 C.o e3);have b7:=I (zb b9 C.o b8);have d8:=I (Nat.lt_of_lt_of_le e3 C.o.size);have b5:=I (Nat.lt_of_lt_of_le b8 C.o.size);have d9:=I (zm c9);have b6:=I (zl d1);have HC:=I (fun(z:World) (hz:Below W.heap.size W z)=>IH.o x (List.mem_of_getElem? hx) y (d+1) (e+1) ks X z ((z2t g0.o).2 x (List.mem_of_getElem? hx)) ((z1U d5.o).2 y (List.mem_of_getElem? hy)) (c9.next (beT C.o hz)) (d1.next (beT C.o hz)));clear hc e6 c9 hx e4 b9 d1 hy;generalize fitsV x y= rx at*;go_upto_region 15 with (fail);clear c0 c5;cases rx with
      |true=>
       have c8:=I (b4.o.trans (Bool.true_and _));clear b4;refine zo [(0,true),(1,true),(2,true),(3,true),(4,true),(5,true),(6,true),(7,true),(8,true),(9,true),(10,false),(11,true)] (fun z=>Below W.heap.size W z) (by kernel_rfl) (by intro c a d v w h;cases d<;>exact h) ?_;have G:Below W.heap.size W wr.drew:=c7.o.drew;refine z7 54 (.pointer (some ⟨w.heap.size,5,none⟩)) rfl rfl rfl G (fun z hz=>by go_simp) ?_;go_frame;refine z7 55 (.slice (some ⟨b,o',none⟩) its.length c) rfl rfl rfl G (fun z hz=>by have dd:=(hz.cell (p:=⟨w.heap.size,5,none⟩) a4.o).trans D5.o;go_simp) ?_;go_frame;refine zf 56 (.int .i64 j) rfl rfl rfl rfl G rfl ?_;go_frame;refine z7 57 (.pointer (some ⟨b,o'+j*6,none⟩)) rfl rfl rfl G (fun z hz=>by go_simp) ?_;go_frame;refine z7 58 (.agg ⟨ks⟩) rfl rfl rfl G (fun z hz=>zp 39 rfl b (o'+j*6) ks _ rfl (zb e1.o hz d8.o) Tryz.underlying39 rfl (by rw[d9.o.1];kernel_rfl)) ?_;go_frame;refine z7 59 (.pointer (some ⟨pb,2,none⟩)) rfl rfl rfl G (fun z hz=>by go_simp) ?_;go_frame;refine z7 60 (.slice (some ⟨b',a3,none⟩) ts.length c') rfl rfl rfl G (fun z hz=>by have dd:=(hz.cell (p:=⟨pb,2,none⟩) a0.o).trans E2.o;go_simp) ?_;go_frame;refine zf 61 (.int .i64 j) rfl rfl rfl rfl G rfl ?_;go_frame;refine z7 62 (.pointer (some ⟨b',(a3+j*3),none⟩)) rfl rfl rfl G (fun z hz=>by go_simp) ?_;go_frame;refine z7 63 (.agg ⟨X⟩) rfl rfl rfl G (fun z hz=>zp 36 rfl b' (a3+j*3) X _ rfl (zb b7.o hz b5.o) Tryz.underlying36 rfl (by rw[b6.o.1];kernel_rfl)) ?_;go_frame;refine zA 64 32 Tryz.func32 (by kernel_rfl) [.agg ⟨ks⟩,.agg ⟨X⟩] rfl rfl rfl rfl rfl ?_;refine(HC.o _ G).mono ?_;rintro e z1 ⟨rfl,a9⟩;have N:Below W.heap.size W z1:=(beT G a9);refine⟨.bool true,rfl,N,?_⟩;clear a9;go_frame;refine z7 65 (.bool false) rfl rfl rfl N (fun z hz=>by go_simp) ?_;go_frame;refine zD ?_;have c6:=I N;clear G N;go_wp2;go_roundg g;case measure=>omega
       case rel=>exact⟨j+1,by omega,by go_num,c6.o,c8.o.symm⟩
      |false=>
       have c8:Hid (res= false):=I (b4.o.trans (Bool.false_and _));clear b4;refine zo [(0,true),(1,true),(2,true),(3,true),(4,true),(5,true),(6,true),(7,true),(8,true),(9,true),(10,false),(11,true)] (fun z=>Below W.heap.size W z) (by kernel_rfl) (by intro c a d v w h;cases d<;>exact h) ?_;have G:Below W.heap.size W wr.drew:=c7.o.drew;refine z7 54 (.pointer (some ⟨w.heap.size,5,none⟩)) rfl rfl rfl G (fun z hz=>by go_simp) ?_;go_frame;refine z7 55 (.slice (some ⟨b,o',none⟩) its.length c) rfl rfl rfl G (fun z hz=>by have dd:=(hz.cell (p:=⟨w.heap.size,5,none⟩) a4.o).trans D5.o;go_simp) ?_;go_frame;refine zf 56 (.int .i64 j) rfl rfl rfl rfl G rfl ?_;go_frame;refine z7 57 (.pointer (some ⟨b,o'+j*6,none⟩)) rfl rfl rfl G (fun z hz=>by go_simp) ?_;go_frame;refine z7 58 (.agg ⟨ks⟩) rfl rfl rfl G (fun z hz=>zp 39 rfl b (o'+j*6) ks _ rfl (zb e1.o hz d8.o) Tryz.underlying39 rfl (by rw[d9.o.1];kernel_rfl)) ?_;go_frame;refine z7 59 (.pointer (some ⟨pb,2,none⟩)) rfl rfl rfl G (fun z hz=>by go_simp) ?_;go_frame;refine z7 60 (.slice (some ⟨b',a3,none⟩) ts.length c') rfl rfl rfl G (fun z hz=>by have dd:=(hz.cell (p:=⟨pb,2,none⟩) a0.o).trans E2.o;go_simp) ?_;go_frame;refine zf 61 (.int .i64 j) rfl rfl rfl rfl G rfl ?_;go_frame;refine z7 62 (.pointer (some ⟨b',(a3+j*3),none⟩)) rfl rfl rfl G (fun z hz=>by go_simp) ?_;go_frame;refine z7 63 (.agg ⟨X⟩) rfl rfl rfl G (fun z hz=>zp 36 rfl b' (a3+j*3) X _ rfl (zb b7.o hz b5.o) Tryz.underlying36 rfl (by rw[b6.o.1];kernel_rfl)) ?_;go_frame;refine zA 64 32 Tryz.func32 (by kernel_rfl) [.agg ⟨ks⟩,.agg ⟨X⟩] rfl rfl rfl rfl rfl ?_;refine(HC.o _ G).mono ?_;rintro e z1 ⟨rfl,a9⟩;have N:Below W.heap.size W z1:=(beT G a9);refine⟨.bool false,rfl,N,?_⟩;clear a9;go_frame;refine z7 65 (.bool true) rfl rfl rfl N (fun z hz=>by go_simp) ?_;go_frame;refine zD ?_;have c6:=I N;clear G N;go_wp2;go_ret;exact⟨z8 c8.o.symm,(beT C.o c6.o)⟩
   ·have e9:listC cmpS ns ns'≠0:=fun h=>hnn (z3k.1 h)
    have HR:Hid (res= false):=I (HV.o.trans (by rw[decide_eq_false hnn];exact Bool.false_and _));generalize listC cmpS ns ns'= cv at*;have t2:(cv !=0)= true:=by simpa using e9
    clear hnn HV e9;go_wp2_with (go_at_call 66;refine a1.o.mono ?_;rintro en z ⟨rfl,f0⟩;have d7:Hid (Below W.heap.size W z):=I (by obtain⟨m,rfl⟩:=f0;exact zj (Below.refl _ _) _);clear f0;have g5:=(d7.o.cell (p:=⟨w.heap.size,5,none⟩) a4.o).trans D5.o);go_ret;exact⟨z8 HR.o.symm,(beT C.o d7.o)⟩
  have HR:Hid (res= true):=I (f3.o.trans (if_neg k6));have s5:(k ==5)= false:=by simpa using k5
  have s6:(k ==6)= false:=by simpa using k6
  have s7:(k ==7)= false:=by simpa using e5
  clear f3 k5 k6 e5;go_enter Tryz.func32,Tryz.ntmps32;go_upto_region 1 with (fail);have a7:=I (zv w [.int .i64 k,.int .i64 n,.float .f64 f,.string s,vn,.slice A its.length c] 39);have a8:=I (zc w (.cells ⟨[.int .i64 k,.int .i64 n,.float .f64 f,.string s,vn,.slice A its.length c]⟩ 39));have Y:=I (zy w (.cells ⟨[.int .i64 k,.int .i64 n,.float .f64 f,.string s,vn,.slice A its.length c]⟩ 39));have a1:Hid ((w.alloc (.cells ⟨[.int .i64 k,.int .i64 n,.float .f64 f,.string s,vn,.slice A its.length c]⟩ 39)).heap.size= w.heap.size+1):=I (by simp);generalize w.alloc (.cells ⟨[.int .i64 k,.int .i64 n,.float .f64 f,.string s,vn,.slice A its.length c]⟩ 39)= W1 at*;have HB:=I (zv W1 [.int .i64 k,O,.slice A' ts.length c'] 36);have K:=I (zc W1 (.cells ⟨[.int .i64 k,O,.slice A' ts.length c']⟩ 36));have a0:=I (zy W1 (.cells ⟨[.int .i64 k,O,.slice A' ts.length c']⟩ 36));generalize W1.alloc (.cells ⟨[.int .i64 k,O,.slice A' ts.length c']⟩ 36)= W at*;have a5:=I (zb a7.o K.o Y.o);have C:=I (beT a8.o K.o);have a4:=I (Nat.lt_of_lt_of_le Y.o K.o.size);rw[a1.o] at HB a0;obtain⟨pb,a2⟩:∃ pb,w.heap.size+1= pb:=⟨_,rfl⟩;rw[a2] at HB a0;rw[a2];clear a7 a8 Y a1 K a2;have d0:W.cell? ⟨w.heap.size,0,none⟩= some (.int .i64 k):=by have:=a5.o 0 _ rfl;simpa using this
  have e0:W.cell? ⟨pb,0,none⟩= some (.int .i64 k):=by have:=HB.o 0 _ rfl;simpa using this
  have D5:Hid (W.cell? ⟨w.heap.size,5,none⟩= some (.slice A its.length c)):=I (by have:=a5.o 5 _ rfl;simpa using this);have E2:Hid (W.cell? ⟨pb,2,none⟩= some (.slice A' ts.length c')):=I (by have:=HB.o 2 _ rfl;simpa using this);go_wp2;go_ret;exact⟨z8 HR.o.symm,C.o⟩
def z1d (x:VT):Bool:=decide (cntV x 0<=200) && zr x 1
def typeT (t:TT):Bool:=decide (cntT t 0<=200) && zG t 1
def fitT (x:VT) (t:TT):Bool:=z1d x && (typeT t && fitsV x t)
theorem z8u (x:VT) (t:TT) (cs cs':List Value) (w:World) (hv:ValAt w w.heap.size cs x) (hv':TypAt w w.heap.size cs' t):
  Calls Tryz.prog 59 #[.agg ⟨cs⟩,.agg ⟨cs'⟩] w fun en w'=>en= .returned (.bool (fitT x t))/\Below w.heap.size w w':=by
 have HV:=I hv;have a9:=I hv';have HL:=I (zm hv);have a5:=I (zl hv');have HO:Hid (fitT x t=(z1d x && (typeT t && fitsV x t))):=I rfl;generalize hres:fitT x t= res at*;clear hv hv' hres;go_enter Tryz.func59,Tryz.ntmps59;go_upto_region 1 with (fail);have a2:=I (zv w cs 39);have a4:=I (zc w (.cells ⟨cs⟩ 39));have a0:=I (zy w (.cells ⟨cs⟩ 39));have a8:Hid ((w.alloc (.cells ⟨cs⟩ 39)).heap.size= w.heap.size+1):=I (by simp);generalize w.alloc (.cells ⟨cs⟩ 39)= W1 at*;have HB:=I (zv W1 cs' 36);have Y:=I (zc W1 (.cells ⟨cs'⟩ 36));have N:=I (zy W1 (.cells ⟨cs'⟩ 36));generalize W1.alloc (.cells ⟨cs'⟩ 36)= W at*;have X:=I (zb a2.o Y.o a0.o);have A:=I (beT a4.o Y.o);have b7:=I (Nat.lt_of_lt_of_le a0.o Y.o.size);rw[a8.o] at HB N;obtain⟨pb,a1⟩:∃ pb,w.heap.size+1= pb:=⟨_,rfl⟩;rw[a1] at HB N;rw[a1];clear a2 a4 a0 a8 Y a1;have b0:=I (HV.o.next A.o);have C:=I (z1T x cs W b0.o);change Hid (Calls _ _ _ _ fun e w'=>e= .returned (.bool (z1d x))/\_) at C;have K:=I (fun(z:World) (hz:Below W.heap.size W z)=>z0R t cs' z (a9.o.next (beT A.o hz)));change Hid (∀ z:World,_->Calls _ _ _ _ fun e w'=>e= .returned (.bool (typeT t))/\_) at K;cases hr1:z1d x with
 |false=>
  have HR:Hid (res= false):=I (HO.o.trans (by simp[hr1]));rw[hr1] at C;go_wp2_with (first|((with_reducible refine za tyK39 _ rfl ?_ X.o rfl HL.o.1 ?_);exact wA rfl)|(go_at_call 35;refine zg C.o ?_;intro z1 g));go_ret;first|exact⟨z8 HR.o.symm,(beT A.o g.o)⟩|exact⟨rfl,(beT A.o g.o)⟩
 |true=>
  have a6:Hid (res=(typeT t && fitsV x t)):=I (by rw[HO.o,hr1,Bool.true_and]);rw[hr1] at C;cases ht2:typeT t with
  |false=>
   have HR:Hid (res= false):=I (a6.o.trans (by simp[ht2]));rw[ht2] at K;go_wp2_with (first|((with_reducible refine za tyK39 _ rfl ?_ X.o rfl HL.o.1 ?_);exact wA rfl)|(go_at_call 35;refine zg C.o ?_;intro z1 g)|((with_reducible refine za tyK36 _ rfl ?_ (zb HB.o g.o N.o) rfl a5.o.1 ?_);exact wA rfl)|(go_at_call 51;refine(K.o _ g.o).mono ?_;rintro e z2 ⟨rfl,O⟩;have G:=I (beT g.o O);clear O));go_ret;first|exact⟨z8 HR.o.symm,(beT A.o G.o)⟩|exact⟨rfl,(beT A.o G.o)⟩
  |true=>
   have HR:Hid (res= fitsV x t):=I (a6.o.trans (by rw[ht2];exact Bool.true_and _));rw[ht2] at K;have b2:zr x 1= true:=by unfold z1d at hr1;rw[Bool.and_eq_true] at hr1;exact hr1.2
   have b1:zG t 1= true:=by unfold typeT at ht2;rw[Bool.and_eq_true] at ht2;exact ht2.2
   have b5:=I (fun(z:World) (hz:Below W.heap.size W z)=>zeQ x t 1 1 cs cs' w.heap.size 0 pb 0 z b2 b1 (zb X.o hz b7.o) (zb HB.o hz N.o) (b0.o.next hz) (a9.o.next (beT A.o hz)));clear b2 b1 hr1 ht2;go_wp2_with (first|((with_reducible refine za tyK39 _ rfl ?_ X.o rfl HL.o.1 ?_);exact wA rfl)|(go_at_call 35;refine zg C.o ?_;intro z1 g)|((with_reducible refine za tyK36 _ rfl ?_ (zb HB.o g.o N.o) rfl a5.o.1 ?_);exact wA rfl)|(go_at_call 51;refine(K.o _ g.o).mono ?_;rintro e z2 ⟨rfl,O⟩;have G:=I (beT g.o O);clear O)|(go_at_call 92;refine(b5.o _ G.o).mono ?_;rintro e z3 ⟨rfl,b3⟩;have b4:Hid (Below W.heap.size W z3):=I (by obtain⟨m,rfl⟩:=b3;exact zj G.o _);clear b3));go_ret;exact⟨z8 HR.o.symm,(beT A.o b4.o)⟩
theorem zd0 (x:VT) (t:TT) (cs cs':List Value) (w:World) (hv:ValAt w w.heap.size cs x) (hv':TypAt w w.heap.size cs' t):
  Calls Tryz.prog 10 #[.agg ⟨cs⟩,.agg ⟨cs'⟩] w fun en w'=>en= .returned (.bool (fitT x t))/\Below w.heap.size w w':=by
 have HV:=I hv;have a9:=I hv';have HL:=I (zm hv);have a0:=I (zl hv');have HO:Hid (fitT x t=(z1d x && (typeT t && fitsV x t))):=I rfl;generalize hres:fitT x t= res at*;clear hv hv' hres;go_enter Tryz.func10,Tryz.ntmps10;go_upto_region 1 with (fail);have a3:=I (zv w cs 39);have a5:=I (zc w (.cells ⟨cs⟩ 39));have a1:=I (zy w (.cells ⟨cs⟩ 39));have a8:Hid ((w.alloc (.cells ⟨cs⟩ 39)).heap.size= w.heap.size+1):=I (by simp);generalize w.alloc (.cells ⟨cs⟩ 39)= W1 at*;have HB:=I (zv W1 cs' 36);have Y:=I (zc W1 (.cells ⟨cs'⟩ 36));have O:=I (zy W1 (.cells ⟨cs'⟩ 36));generalize W1.alloc (.cells ⟨cs'⟩ 36)= W at*;have X:=I (zb a3.o Y.o a1.o);have A:=I (beT a5.o Y.o);have b6:=I (Nat.lt_of_lt_of_le a1.o Y.o.size);rw[a8.o] at HB O;obtain⟨pb,a2⟩:∃ pb,w.heap.size+1= pb:=⟨_,rfl⟩;rw[a2] at HB O;rw[a2];clear a3 a5 a1 a8 Y a2;have b0:=I (HV.o.next A.o);have K:=I (zbc x cs W b0.o);change Hid (Calls _ _ _ _ fun e w'=>e= .returned (.bool (z1d x))/\_) at K;have N:=I (fun(z:World) (hz:Below W.heap.size W z)=>z6V t cs' z (a9.o.next (beT A.o hz)));change Hid (∀ z:World,_->Calls _ _ _ _ fun e w'=>e= .returned (.bool (typeT t))/\_) at N;cases hr1:z1d x with
 |false=>
  have HR:Hid (res= false):=I (HO.o.trans (by simp[hr1]));rw[hr1] at K;go_wp2_with (first|((with_reducible refine za tyK39 _ rfl ?_ X.o rfl HL.o.1 ?_);exact wA rfl)|(go_at_call 30;refine zg K.o ?_;intro z1 g));go_ret;first|exact⟨z8 HR.o.symm,(beT A.o g.o)⟩|exact⟨rfl,(beT A.o g.o)⟩
 |true=>
  have a6:Hid (res=(typeT t && fitsV x t)):=I (by rw[HO.o,hr1,Bool.true_and]);rw[hr1] at K;cases ht2:typeT t with
  |false=>
   have HR:Hid (res= false):=I (a6.o.trans (by simp[ht2]));rw[ht2] at N;go_wp2_with (first|((with_reducible refine za tyK39 _ rfl ?_ X.o rfl HL.o.1 ?_);exact wA rfl)|(go_at_call 30;refine zg K.o ?_;intro z1 g)|((with_reducible refine za tyK36 _ rfl ?_ (zb HB.o g.o O.o) rfl a0.o.1 ?_);exact wA rfl)|(go_at_call 31;refine(N.o _ g.o).mono ?_;rintro e z2 ⟨rfl,C⟩;have G:=I (beT g.o C);clear C));go_ret;first|exact⟨z8 HR.o.symm,(beT A.o G.o)⟩|exact⟨rfl,(beT A.o G.o)⟩
  |true=>
   have HR:Hid (res= fitsV x t):=I (a6.o.trans (by rw[ht2];exact Bool.true_and _));rw[ht2] at N;have b2:zr x 1= true:=by unfold z1d at hr1;rw[Bool.and_eq_true] at hr1;exact hr1.2
   have b1:zG t 1= true:=by unfold typeT at ht2;rw[Bool.and_eq_true] at ht2;exact ht2.2
   have b5:=I (fun(z:World) (hz:Below W.heap.size W z)=>zcZ x t 1 1 cs cs' z b2 b1 (b0.o.next hz) (a9.o.next (beT A.o hz)));clear b2 b1 hr1 ht2;go_wp2_with (first|((with_reducible refine za tyK39 _ rfl ?_ (zb X.o G.o b6.o) rfl HL.o.1 ?_);exact wA rfl)|((with_reducible refine za tyK36 _ rfl ?_ (zb HB.o G.o O.o) rfl a0.o.1 ?_);exact wA rfl)|((with_reducible refine za tyK39 _ rfl ?_ X.o rfl HL.o.1 ?_);exact wA rfl)|(go_at_call 30;refine zg K.o ?_;intro z1 g)|((with_reducible refine za tyK36 _ rfl ?_ (zb HB.o g.o O.o) rfl a0.o.1 ?_);exact wA rfl)|(go_at_call 31;refine(N.o _ g.o).mono ?_;rintro e z2 ⟨rfl,C⟩;have G:=I (beT g.o C);clear C)|(go_at_call 32;refine(b5.o _ G.o).mono ?_;rintro e z3 ⟨rfl,C⟩;have b4:=I (beT G.o C);clear C));go_ret;exact⟨z8 HR.o.symm,(beT A.o b4.o)⟩
end
section
open Go Go.RowKit
theorem z8f:∀ (l:List TT) (m:Nat),(∀ x∈l,∀ n,n < 500->n < cntT x n)->m<=200->cntTL l m<=200->m+l.length<=200/\∀ x∈l,∃ n,n<=200/\cntT x n<=200
 |[],m,_,h,_=>⟨by simpa using h,fun x hx=>by cases hx⟩
 |a::l,m,hx,hm,h=>by
  rw[cntTL,if_neg (by omega)] at h
  have h1:=hx a (by simp) m (by omega)
  have h2:cntT a m<=200:=by
   rcases Nat.lt_or_ge 200 (cntT a m) with h3|h3
   ·exfalso
    have C:∀ (l:List TT) (k:Nat),(∀ x∈l,∀ n,n < 500->n < cntT x n)->200 < k->200 < cntTL l k:=by
     intro l
     induction l with
     |nil=>intro k _ A;rw[cntTL];exact A
     |cons b r ih=>
      intro k G A;rw[cntTL];split
      ·exact A
      ·exact ih _ (fun x hx=>G x (List.mem_cons_of_mem _ hx)) (by have:=G b (by simp) k (by omega);omega)
    have:=C l _ (fun x g=>hx x (List.mem_cons_of_mem _ g)) h3;omega
   ·exact h3
  obtain⟨h3,h4⟩:=z8f l (cntT a m) (fun x g=>hx x (List.mem_cons_of_mem _ g)) h2 h;refine⟨by rw[List.length_cons];omega,fun x g=> ?_⟩;rcases List.mem_cons.1 g with rfl|g
  ·exact⟨m,hm,h2⟩
  ·exact h4 x g
theorem za9 (t:TT):∀ n,n < 500->n < cntT t n:=by
 induction t using TT.ind with
 |h k ns its ih=>
  intro n C;rw[cntT];have g:∀ (l:List TT) (m:Nat),(∀ x∈l,∀ n,n < 500->n < cntT x n)->m<=cntTL l m:=by
   intro l
   induction l with
   |nil=>intro m _;rw[cntTL];exact Nat.le_refl _
   |cons a l ihl=>
    intro m A;rw[cntTL];split
    ·exact Nat.le_refl _
    ·have h1:=A a (by simp) m (by omega)
     have h2:=ihl (cntT a m) fun x hxx=>A x (List.mem_cons_of_mem _ hxx);omega
  have:=g its (n+1) ih;omega
end
section
open Go Go.RowKit
theorem zfX (l r:List _) (u v:Value) (w:World) (hu:SlAt w w.heap.size 3 (TypAt w w.heap.size) u l) (hv:SlAt w w.heap.size 3 (TypAt w w.heap.size) v r)
  (hF:∀ x∈l,∀ y cs cs' z,TypAt z z.heap.size cs x->TypAt z z.heap.size cs' y->Calls Tryz.prog 140 #[.agg ⟨cs⟩,.agg ⟨cs'⟩] z fun e w'=>e= .returned (.bool (sameT x y))/\Below z.heap.size z w'):
  Calls Tryz.prog 180 #[u,v,.func (.func 140) #[] #[]] w fun e w'=>e= .returned (.bool (z0j l r))/\Below w.heap.size w w':=by
 obtain⟨A,ca,rfl,hl,ha⟩:=z1u hu;obtain⟨D,cb,rfl,hr,hb⟩:=z1u hv;by_cases hlen:l.length= r.length;case neg=>
  have HR:=I (z6p hlen);have t1:((l.length:Int) !=(r.length:Int))= true:=by rw[bne_iff_ne];omega
  clear hlen ha hb hu hv hF;go_enter Tryz.func180,Tryz.ntmps180;go_wp2;go_ret;exact⟨z8 HR.o.symm,Below.refl _ w⟩
 have t1:((l.length:Int) !=(r.length:Int))= false:=by rw[hlen];exact bne_self_eq_false _
 have b7:=I hlen;have HA:=I ha;have HB:=I hb;have HF:=I hF;have HS:=I (fun k x y=>zd9 (l:=l) (r:=r) (k:=k) (x:=x) (y:=y));have HT:=I (zbg hlen);have H0:Hid (z0j (l.drop 0) (r.drop 0)= z0j l r):=I rfl;have e8:(l.length:Int)<=9223372036854775807:=by omega
 have f0:(r.length:Int)<=9223372036854775807:=by omega
 clear ha hb hu hv hF hlen;generalize z0j l r= res at H0 ⊢;go_enter Tryz.func180,Tryz.ntmps180;go_wp2;go_loopg [17] l.length (fun q x u=>∃ k:Nat,k+q= l.length/\x= .int .i64 k/\Below w.heap.size w u/\z0j (l.drop k) (r.drop k)= res);case atStart=>exact⟨0,by omega,rfl,Below.refl _ _,H0.o⟩
 case round=>
  obtain⟨k,hk,rfl,hb,a5⟩:=hrel;have HR:=I a5;have C:=I hb;clear a5 hb;cases gk with
  |zero=>
   obtain rfl:k= l.length:=by omega
   have e7: ¬ ((l.length:Int) <(l.length:Int)):=by omega
   have HV:=I ((HR.o).symm.trans HT.o);clear HR;go_wp2;go_ret;exact⟨z8 HV.o.symm,C.o⟩
  |succ q=>
   have e9:(k:Int) <(l.length:Int):=by omega
   have c9:k < r.length:=by have:=b7.o;omega
   obtain⟨x,hx⟩:∃ x,l[k]?= some x:=⟨_,List.getElem?_eq_getElem (by omega)⟩;obtain⟨b1,o1,rfl,d5,c1⟩:=HA.o (by omega);obtain⟨cs,O,b3⟩:=c1 k x hx;have c4:=I (zb O C.o d5);have c6:=I ((b3.under C.o).more C.o.size);have G:=I (zl b3);have d3:=I (List.mem_of_getElem? hx);have d2:=I hx;clear c1 O b3 hx;go_upto_region 6 with (first|((with_reducible refine za tyK36 _ rfl ?_ c4.o rfl G.o.1 ?_);exact wA rfl)|((with_reducible refine zN tyK36 _ _ rfl ?_ wr G.o.1 G.o.2 rfl ?_ ?_ ?_ ?_);exact wA rfl;rfl;rfl;rfl;intro Z HX));have X:=I (beT C.o HX.o.below);have a7:=I HX.o.range;have a2:=I ((c6.o.under HX.o.below).more HX.o.below.size);obtain⟨pa,Y⟩:∃ pa,wr.heap.size= pa:=⟨_,rfl⟩;rw[Y] at a7;have b8:Hid (pa < Z.heap.size):=I (Y▸HX.o.size);rw[Y];clear Y c4 c6 HX;obtain⟨y,hy⟩:∃ y,r[k]?= some y:=⟨_,List.getElem?_eq_getElem c9⟩;obtain⟨b2,o2,rfl,d6,c2⟩:=HB.o (by omega);obtain⟨cs',O,b4⟩:=c2 k y hy;have c5:=I (zb O X.o d6);have c7:=I ((b4.under X.o).more X.o.size);have K:=I (zl b4);have e0:(k:Int) <(r.length:Int):=by omega
   have HV:=I ((HR.o).symm.trans (HS.o k x y d2.o hy));clear c2 O b4 hy c9;go_upto_region 7 with (first|((with_reducible refine za tyK36 _ rfl ?_ c5.o rfl K.o.1 ?_);exact wA rfl)|((with_reducible refine zN tyK36 _ _ rfl ?_ Z K.o.1 K.o.2 rfl ?_ ?_ ?_ ?_);exact wA rfl;rfl;rfl;rfl;intro Z2 g));have a0:=I (beT X.o g.o.below);have a1:=I (zb a7.o g.o.below b8.o);have N:=I g.o.range;have a3:=I ((a2.o.under g.o.below).more g.o.below.size);have a4:=I ((c7.o.under g.o.below).more g.o.below.size);obtain⟨pb,b0⟩:∃ pb,Z.heap.size= pb:=⟨_,rfl⟩;rw[b0] at N;rw[b0];have HC:=I (HF.o x d3.o y cs cs' Z2 a3.o a4.o);clear b0 g c5 a2 c7 a7 b8 a3 a4;obtain⟨cv,c8⟩:∃ b,sameT x y= b:=⟨_,rfl⟩;rw[c8] at HC HV;clear c8;cases cv with
   |true=>
    have a9:Hid (res= z0j (l.drop (k+1)) (r.drop (k+1))):=I (HV.o.trans (Bool.true_and _));clear HV;go_wp2_with (first|((with_reducible refine za tyK36 _ rfl ?_ a1.o rfl G.o.1 ?_);exact wA rfl)|((with_reducible refine za tyK36 _ rfl ?_ N.o rfl K.o.1 ?_);exact wA rfl)|(go_at_call 140;refine zg (HC.o) ?_;intro z a6));go_roundg q;case measure=>omega
    case rel=>exact⟨k+1,by omega,by go_num,(beT a0.o a6.o),a9.o.symm⟩
   |false=>
    have a9:Hid (res= false):=I (HV.o.trans (Bool.false_and _));clear HV;go_wp2_with (first|((with_reducible refine za tyK36 _ rfl ?_ a1.o rfl G.o.1 ?_);exact wA rfl)|((with_reducible refine za tyK36 _ rfl ?_ N.o rfl K.o.1 ?_);exact wA rfl)|(go_at_call 140;refine zg (HC.o) ?_;intro z a6));go_ret;exact⟨z8 a9.o.symm,(beT a0.o a6.o)⟩
theorem zdT:∀ (t t':TT) (cs cs':List Value) (w:World),TypAt w w.heap.size cs t->TypAt w w.heap.size cs' t'->
  Calls Tryz.prog 140 #[.agg ⟨cs⟩,.agg ⟨cs'⟩] w fun e w'=>e= .returned (.bool (sameT t t'))/\Below w.heap.size w w':=by
 intro t
 induction t using TT.ind with
 |h k ns its ih=>
  intro t' cs cs' w hv a6;cases t' with
  |mk k' ns' its'=>
  obtain⟨vn,vi,rfl,_,a5,_,hi⟩:=hv.inv;obtain⟨b9,b8,rfl,_,C,_,a4⟩:=a6.inv;have HO:Hid (sameT (.mk k ns its) (.mk k' ns' its')=((k ==k') && (eqN ns ns' && z0j its its'))):=I (by rw[sameT]);generalize sameT (.mk k ns its) (.mk k' ns' its')= res at HO ⊢;have b3:=I a5;have a0:=I C;have b2:=I hi;have X:=I a4;obtain⟨_,NA,nc,rfl,_⟩:=a5;obtain⟨_,NB,nd,rfl,_⟩:=C;obtain⟨_,A,c,rfl,_⟩:=hi;obtain⟨_,D,d,rfl,_⟩:=a4;have b1:=I (fun x (hx:x∈its) y cs cs' z h h'=>ih x hx y cs cs' z h h');clear ih hv a6;have g1:=zc w (.cells ⟨[.int .i64 k,.slice NA ns.length nc,.slice A its.length c]⟩ 36);have hA:=Whole.new w [.int .i64 k,.slice NA ns.length nc,.slice A its.length c] 36;go_enter Tryz.func140,Tryz.ntmps140;go_upto_region 1 with (fail);have O:(w.alloc (.cells ⟨[.int .i64 k,.slice NA ns.length nc,.slice A its.length c]⟩ 36)).heap.size= w.heap.size+1:=by simp
  generalize w.alloc (.cells ⟨[.int .i64 k,.slice NA ns.length nc,.slice A its.length c]⟩ 36)= W1 at*;have g2:=zc W1 (.cells ⟨[.int .i64 k',.slice NB ns'.length nd,.slice D its'.length d]⟩ 36);have hB:=Whole.new W1 [.int .i64 k',.slice NB ns'.length nd,.slice D its'.length d] 36;generalize W1.alloc (.cells ⟨[.int .i64 k',.slice NB ns'.length nd,.slice D its'.length d]⟩ 36)= W at*;rw[O] at hB
  (try rw[O])
  obtain⟨pb,N⟩:∃ pb,w.heap.size+1= pb:=⟨_,rfl⟩;rw[N] at hB;rw[N];have a3:=hA.keep (g2.block _ (by have:=hA.lt;omega));have g:=I (beT g1 g2);have G:=I a3;have K:=I hB;clear g1 g2 hA hB a3 O N;have d0:W.cell? ⟨w.heap.size,0,none⟩= some (.int .i64 k):=G.o.range 0 _ rfl;have d1:W.cell? ⟨w.heap.size,1,none⟩= some (.slice NA ns.length nc):=G.o.range 1 _ rfl;have e0:W.cell? ⟨pb,0,none⟩= some (.int .i64 k'):=K.o.range 0 _ rfl;have e1:W.cell? ⟨pb,1,none⟩= some (.slice NB ns'.length nd):=K.o.range 1 _ rfl;cases hk:(k ==k') with
  |false=>
   have HV:Hid (res= false):=I (by rw[HO.o,hk];rfl);go_wp2;go_ret;exact⟨z8 HV.o.symm,g.o⟩
  |true=>
  have Y:=I (z3Z (.slice NA ns.length nc) (.slice NB ns'.length nd) ns ns' W ((b3.o.below g.o (fun _ _ _ h=>h)).more g.o.size) ((a0.o.below g.o (fun _ _ _ h=>h)).more g.o.size));rw[z6J] at Y;cases hn:eqN ns ns' with
  |false=>
   have HV:Hid (res= false):=I (by rw[HO.o,hk,hn];rfl);rw[hn] at Y;clear hn;go_wp2_with (go_at_call 135;refine(Y.o).mono ?_;rintro e z ⟨rfl,q,rfl⟩;skip);go_ret;exact⟨z8 HV.o.symm,zj g.o _⟩
  |true=>
   have HV:Hid (res= z0j its its'):=I (by rw[HO.o,hk,hn];rfl);rw[hn] at Y;clear hn;have HQ:Hid (∀ q,Calls Tryz.prog 180 #[.slice A its.length c,.slice D its'.length d,.func (.func 140) #[] #[]] (W.drewN q) fun e w'=>e= .returned (.bool (z0j its its'))/\Below (W.drewN q).heap.size (W.drewN q) w'):=I fun q=>zfX its its' _ _ _ (by have h:=zj g.o q;exact(b2.o.below h (fun _ _ _ h2=>(h2.under h).more h.size)).more h.size) (by have h:=zj g.o q;exact(X.o.below h (fun _ _ _ h2=>(h2.under h).more h.size)).more h.size) b1.o;go_wp2_with (first|(go_at_call 135;refine(Y.o).mono ?_;rintro e z ⟨rfl,q,rfl⟩;have d2:(W.drewN q).cell? ⟨w.heap.size,2,none⟩= some (.slice A its.length c):=G.o.range 2 _ rfl;have e2:(W.drewN q).cell? ⟨pb,2,none⟩= some (.slice D its'.length d):=K.o.range 2 _ rfl)|(go_at_call 180;refine zg (HQ.o _) ?_;intro z b0));go_ret;exact⟨z8 HV.o.symm,(zj g.o _).trans (b0.o.mono (zj g.o _).size)⟩
end
section
open Go Go.RowKit
theorem zag {w:World} {v:Value} {l:List ET} (h:SlAt w w.heap.size 10 (ExpAt w w.heap.size) v l):∃ A c,v= .slice A l.length c/\l.length<=9223372036854775807/\
  (0 < l.length->∃ b o,A= some ⟨b,o,none⟩/\b < w.heap.size/\∀ (i:Nat) x,l[i]?= some x->∃ cs:List Value,w.rangeAt b (o+i*10) cs/\ExpAt w w.heap.size cs x):=by
 obtain⟨h0,A,c,h1,h2⟩:=h;refine⟨A,c,h1,h0,fun hp=> ?_⟩;obtain⟨b,o,h3,h4,h5⟩:=h2 hp;refine⟨b,o,h3,h4,fun i x hx=> ?_⟩;obtain⟨cs,_,h7,h8⟩:=h5 i x hx;exact⟨cs,h7,h8⟩
theorem zaf {w:World} {B:Nat} {cs:List Value} {t:ET} (h:ExpAt w B cs t):cs.length= 10/\∀ u∈cs,u.oneCell'= true:=by
 cases t with
 |mk k s v ns its=>
  have h9:=h.one;obtain⟨c0,c1,c2,c3,c4,c5,vn,vi,rfl,_⟩:=h.inv;exact⟨rfl,h9⟩
theorem ze3 {w:World} {p o i:Nat} {cs ds:List Value} (h:w.rangeAt p o cs) (hd:∀ j v,ds[j]?= some v->cs[i+j]?= some v):w.rangeAt p (o+i) ds:=fun j v hv=>by
 have:=h (i+j) v (hd j v hv)
 rw[show o+i+j= o+ (i+j) by omega];exact this
theorem zfY (l r:List _) (u v:Value) (w:World) (hu:SlAt w w.heap.size 10 (ExpAt w w.heap.size) u l) (hv:SlAt w w.heap.size 10 (ExpAt w w.heap.size) v r)
  (hF:∀ x∈l,∀ y cs cs' z,ExpAt z z.heap.size cs x->ExpAt z z.heap.size cs' y->Calls Tryz.prog 137 #[.agg ⟨cs⟩,.agg ⟨cs'⟩] z fun e w'=>e= .returned (.bool (sameE x y))/\Below z.heap.size z w'):
  Calls Tryz.prog 174 #[u,v,.func (.func 137) #[] #[]] w fun e w'=>e= .returned (.bool (z0e l r))/\Below w.heap.size w w':=by
 obtain⟨A,ca,rfl,hl,ha⟩:=zag hu;obtain⟨D,cb,rfl,hr,hb⟩:=zag hv;by_cases hlen:l.length= r.length;case neg=>
  have HR:=I (z3W hlen);have t1:((l.length:Int) !=(r.length:Int))= true:=by rw[bne_iff_ne];omega
  clear hlen ha hb hu hv hF;go_enter Tryz.func174,Tryz.ntmps174;go_wp2;go_ret;exact⟨z8 HR.o.symm,Below.refl _ w⟩
 have t1:((l.length:Int) !=(r.length:Int))= false:=by rw[hlen];exact bne_self_eq_false _
 have b7:=I hlen;have HA:=I ha;have HB:=I hb;have HF:=I hF;have HS:=I (fun k x y=>zd8 (l:=l) (r:=r) (k:=k) (x:=x) (y:=y));have HT:=I (zbe hlen);have H0:Hid (z0e (l.drop 0) (r.drop 0)= z0e l r):=I rfl;have e8:(l.length:Int)<=9223372036854775807:=by omega
 have f0:(r.length:Int)<=9223372036854775807:=by omega
 clear ha hb hu hv hF hlen;generalize z0e l r= res at H0 ⊢;go_enter Tryz.func174,Tryz.ntmps174;go_wp2;go_loopg [17] l.length (fun q x u=>∃ k:Nat,k+q= l.length/\x= .int .i64 k/\Below w.heap.size w u/\z0e (l.drop k) (r.drop k)= res);case atStart=>exact⟨0,by omega,rfl,Below.refl _ _,H0.o⟩
 case round=>
  obtain⟨k,hk,rfl,hb,a5⟩:=hrel;have HR:=I a5;have C:=I hb;clear a5 hb;cases gk with
  |zero=>
   obtain rfl:k= l.length:=by omega
   have e7: ¬ ((l.length:Int) <(l.length:Int)):=by omega
   have HV:=I ((HR.o).symm.trans HT.o);clear HR;go_wp2;go_ret;exact⟨z8 HV.o.symm,C.o⟩
  |succ q=>
   have e9:(k:Int) <(l.length:Int):=by omega
   have c9:k < r.length:=by have:=b7.o;omega
   obtain⟨x,hx⟩:∃ x,l[k]?= some x:=⟨_,List.getElem?_eq_getElem (by omega)⟩;obtain⟨b1,o1,rfl,d5,c1⟩:=HA.o (by omega);obtain⟨cs,O,b3⟩:=c1 k x hx;have c4:=I (zb O C.o d5);have c6:=I ((b3.under C.o).more C.o.size);have G:=I (zaf b3);have d3:=I (List.mem_of_getElem? hx);have d2:=I hx;clear c1 O b3 hx;go_upto_region 6 with (first|((with_reducible refine za tyK47 _ rfl ?_ c4.o rfl G.o.1 ?_);exact wA rfl)|((with_reducible refine zN tyK47 _ _ rfl ?_ wr G.o.1 G.o.2 rfl ?_ ?_ ?_ ?_);exact wA rfl;rfl;rfl;rfl;intro Z HX));have X:=I (beT C.o HX.o.below);have a7:=I HX.o.range;have a2:=I ((c6.o.under HX.o.below).more HX.o.below.size);obtain⟨pa,Y⟩:∃ pa,wr.heap.size= pa:=⟨_,rfl⟩;rw[Y] at a7;have b8:Hid (pa < Z.heap.size):=I (Y▸HX.o.size);rw[Y];clear Y c4 c6 HX;obtain⟨y,hy⟩:∃ y,r[k]?= some y:=⟨_,List.getElem?_eq_getElem c9⟩;obtain⟨b2,o2,rfl,d6,c2⟩:=HB.o (by omega);obtain⟨cs',O,b4⟩:=c2 k y hy;have c5:=I (zb O X.o d6);have c7:=I ((b4.under X.o).more X.o.size);have K:=I (zaf b4);have e0:(k:Int) <(r.length:Int):=by omega
   have HV:=I ((HR.o).symm.trans (HS.o k x y d2.o hy));clear c2 O b4 hy c9;go_upto_region 7 with (first|((with_reducible refine za tyK47 _ rfl ?_ c5.o rfl K.o.1 ?_);exact wA rfl)|((with_reducible refine zN tyK47 _ _ rfl ?_ Z K.o.1 K.o.2 rfl ?_ ?_ ?_ ?_);exact wA rfl;rfl;rfl;rfl;intro Z2 g));have a0:=I (beT X.o g.o.below);have a1:=I (zb a7.o g.o.below b8.o);have N:=I g.o.range;have a3:=I ((a2.o.under g.o.below).more g.o.below.size);have a4:=I ((c7.o.under g.o.below).more g.o.below.size);obtain⟨pb,b0⟩:∃ pb,Z.heap.size= pb:=⟨_,rfl⟩;rw[b0] at N;rw[b0];have HC:=I (HF.o x d3.o y cs cs' Z2 a3.o a4.o);clear b0 g c5 a2 c7 a7 b8 a3 a4;obtain⟨cv,c8⟩:∃ b,sameE x y= b:=⟨_,rfl⟩;rw[c8] at HC HV;clear c8;cases cv with
   |true=>
    have a9:Hid (res= z0e (l.drop (k+1)) (r.drop (k+1))):=I (HV.o.trans (Bool.true_and _));clear HV;go_wp2_with (first|((with_reducible refine za tyK47 _ rfl ?_ a1.o rfl G.o.1 ?_);exact wA rfl)|((with_reducible refine za tyK47 _ rfl ?_ N.o rfl K.o.1 ?_);exact wA rfl)|(go_at_call 137;refine zg (HC.o) ?_;intro z a6));go_roundg q;case measure=>omega
    case rel=>exact⟨k+1,by omega,by go_num,(beT a0.o a6.o),a9.o.symm⟩
   |false=>
    have a9:Hid (res= false):=I (HV.o.trans (Bool.false_and _));clear HV;go_wp2_with (first|((with_reducible refine za tyK47 _ rfl ?_ a1.o rfl G.o.1 ?_);exact wA rfl)|((with_reducible refine za tyK47 _ rfl ?_ N.o rfl K.o.1 ?_);exact wA rfl)|(go_at_call 137;refine zg (HC.o) ?_;intro z a6));go_ret;exact⟨z8 a9.o.symm,(beT a0.o a6.o)⟩
theorem zcR:∀ (t t':ET) (cs cs':List Value) (w:World),ExpAt w w.heap.size cs t->ExpAt w w.heap.size cs' t'->
  Calls Tryz.prog 137 #[.agg ⟨cs⟩,.agg ⟨cs'⟩] w fun e w'=>e= .returned (.bool (sameE t t'))/\Below w.heap.size w w':=by
 intro t
 induction t using ET.ind with
 |h k s v ns its ih=>
  intro t' cs cs' w hv b6;cases t' with
  |mk k' s' v' ns' its'=>
  obtain⟨v0,v1,v2,v3,v4,v5,vn,vi,rfl,_,_,b7,b5,_,hi⟩:=hv.inv;obtain⟨u0,u1,u2,u3,u4,u5,d6,d5,rfl,_,_,a1,a0,_,b4⟩:=b6.inv;have HO:=I (zbf (k:=k) (k':=k') (s:=s) (s':=s') (v:=v) (v':=v') (ns:=ns) (ns':=ns') (its:=its) (its':=its'));generalize sameE (.mk k s v ns its) (.mk k' s' v' ns' its')= res at HO ⊢;have c6:=I b5;have b1:=I a0;have c5:=I hi;have b0:=I b4;have c7:=I b7;have b2:=I a1;obtain⟨_,NA,nc,rfl,_⟩:=b5;obtain⟨_,NB,nd,rfl,_⟩:=a0;obtain⟨_,A,c,rfl,_⟩:=hi;obtain⟨_,D,d,rfl,_⟩:=b4;have c4:=I (fun x (hx:x∈its) y cs cs' z h h'=>ih x hx y cs cs' z h h');clear ih hv b6 b7 a1;have g1:=zc w (.cells ⟨[.int .i64 k,.string s,v0,v1,v2,v3,v4,v5,.slice NA ns.length nc,.slice A its.length c]⟩ 47);have hA:=Whole.new w [.int .i64 k,.string s,v0,v1,v2,v3,v4,v5,.slice NA ns.length nc,.slice A its.length c] 47;go_enter Tryz.func137,Tryz.ntmps137;go_upto_region 1 with (fail);have a5:(w.alloc (.cells ⟨[.int .i64 k,.string s,v0,v1,v2,v3,v4,v5,.slice NA ns.length nc,.slice A its.length c]⟩ 47)).heap.size= w.heap.size+1:=by simp
  generalize w.alloc (.cells ⟨[.int .i64 k,.string s,v0,v1,v2,v3,v4,v5,.slice NA ns.length nc,.slice A its.length c]⟩ 47)= W1 at*;have g2:=zc W1 (.cells ⟨[.int .i64 k',.string s',u0,u1,u2,u3,u4,u5,.slice NB ns'.length nd,.slice D its'.length d]⟩ 47);have hB:=Whole.new W1 [.int .i64 k',.string s',u0,u1,u2,u3,u4,u5,.slice NB ns'.length nd,.slice D its'.length d] 47;generalize W1.alloc (.cells ⟨[.int .i64 k',.string s',u0,u1,u2,u3,u4,u5,.slice NB ns'.length nd,.slice D its'.length d]⟩ 47)= W at*;rw[a5] at hB
  (try rw[a5])
  obtain⟨pb,a4⟩:∃ pb,w.heap.size+1= pb:=⟨_,rfl⟩;rw[a4] at hB;rw[a4];have b3:=hA.keep (g2.block _ (by have:=hA.lt;omega));have g:=I (beT g1 g2);have G:=I b3;have K:=I hB;clear g1 g2 hA hB b3 a5 a4;have d0:W.cell? ⟨w.heap.size,0,none⟩= some (.int .i64 k):=G.o.range 0 _ rfl;have d1:W.cell? ⟨w.heap.size,1,none⟩= some (.string s):=G.o.range 1 _ rfl;have e0:W.cell? ⟨pb,0,none⟩= some (.int .i64 k'):=K.o.range 0 _ rfl;have e1:W.cell? ⟨pb,1,none⟩= some (.string s'):=K.o.range 1 _ rfl;have a2:Hid (W.rangeAt w.heap.size 2 [v0,v1,v2,v3,v4,v5]):=I (by have:=ze3 (i:=2) (ds:=[v0,v1,v2,v3,v4,v5]) G.o.range (fun j v h=>match j,h with|0,h=>h|1,h=>h|2,h=>h|3,h=>h|4,h=>h|5,h=>h|j+6,h=>by simp at h);simpa using this);have a3:Hid (W.rangeAt pb 2 [u0,u1,u2,u3,u4,u5]):=I (by have:=ze3 (i:=2) (ds:=[u0,u1,u2,u3,u4,u5]) K.o.range (fun j v h=>match j,h with|0,h=>h|1,h=>h|2,h=>h|3,h=>h|4,h=>h|5,h=>h|j+6,h=>by simp at h);simpa using this);cases hk:(k ==k') with
  |false=>
   have Y:Hid (res= false):=I (by rw[HO.o,hk];rfl);go_wp2;go_ret;exact⟨z8 Y.o.symm,g.o⟩
  |true=>
  cases hs:(s.toList ==s'.toList) with
  |false=>
   have Y:Hid (res= false):=I (by rw[HO.o,hk,hs];rfl);go_wp2;go_ret;exact⟨z8 Y.o.symm,g.o⟩
  |true=>
  have X:=I (vsame v v' [v0,v1,v2,v3,v4,v5] [u0,u1,u2,u3,u4,u5] W ((c7.o.under g.o).more g.o.size) ((b2.o.under g.o).more g.o.size));obtain⟨sv,O⟩:∃ b,(ordV v v' ==0)= b:=⟨_,rfl⟩;rw[O] at X;cases sv with
  |false=>
   have Y:Hid (res= false):=I (by rw[HO.o,hk,hs,O];rfl);clear O;go_wp2_with (first|(first|((with_reducible refine za tyK39 _ rfl ?_ a2.o rfl ?_ ?_);exact wA rfl;rfl)|((with_reducible refine za tyK39 _ rfl ?_ a3.o rfl ?_ ?_);exact wA rfl;rfl))|(go_at_call 173;refine zg (X.o) ?_;intro w2 C));go_ret;exact⟨z8 Y.o.symm,(beT g.o C.o)⟩
  |true=>
  have HN:Hid (∀ z,Below W.heap.size W z->Calls Tryz.prog 135 #[.slice NA ns.length nc,.slice NB ns'.length nd] z fun e w'=>e= .returned (.bool (eqN ns ns'))/\∃ m,w'= z.drewN m):=I fun z hz=>by
   have h:=(beT g.o hz);rw[← z6J];exact z3Z _ _ ns ns' z ((c6.o.below h (fun _ _ _ h=>h)).more h.size) ((b1.o.below h (fun _ _ _ h=>h)).more h.size)
  cases hn:eqN ns ns' with
  |false=>
   have Y:Hid (res= false):=I (by rw[HO.o,hk,hs,O,hn];rfl);rw[hn] at HN;clear hn O;go_wp2_with (first|(first|((with_reducible refine za tyK39 _ rfl ?_ a2.o rfl ?_ ?_);exact wA rfl;rfl)|((with_reducible refine za tyK39 _ rfl ?_ a3.o rfl ?_ ?_);exact wA rfl;rfl))|(go_at_call 173;refine(X.o).mono ?_;rintro e w2 ⟨rfl,N⟩;have C:=I N;have d8:w2.cell? ⟨w.heap.size,8,none⟩= some (.slice NA ns.length nc):=(N.cell (p:=⟨w.heap.size,8,none⟩) G.o.lt).trans (G.o.range 8 _ rfl);have e8:w2.cell? ⟨pb,8,none⟩= some (.slice NB ns'.length nd):=(N.cell (p:=⟨pb,8,none⟩) K.o.lt).trans (K.o.range 8 _ rfl);clear N)|(go_at_call 135;refine((HN.o _ C.o)).mono ?_;rintro e z ⟨rfl,q,rfl⟩;skip));go_ret;exact⟨z8 Y.o.symm,zj (beT g.o C.o) _⟩
  |true=>
   have Y:Hid (res= z0e its its'):=I (by rw[HO.o,hk,hs,O,hn];rfl);rw[hn] at HN;clear hn O;have HQ:Hid (∀ z,Below W.heap.size W z->Calls Tryz.prog 174 #[.slice A its.length c,.slice D its'.length d,.func (.func 137) #[] #[]] z fun e w'=>e= .returned (.bool (z0e its its'))/\Below z.heap.size z w'):=I fun z hz=>by
    have h:=(beT g.o hz);exact zfY its its' _ _ z ((c5.o.below h (fun _ _ _ h2=>(h2.under h).more h.size)).more h.size) ((b0.o.below h (fun _ _ _ h2=>(h2.under h).more h.size)).more h.size) c4.o
   go_wp2_with (first|(first|((with_reducible refine za tyK39 _ rfl ?_ a2.o rfl ?_ ?_);exact wA rfl;rfl)|((with_reducible refine za tyK39 _ rfl ?_ a3.o rfl ?_ ?_);exact wA rfl;rfl))|(go_at_call 173;refine(X.o).mono ?_;rintro e w2 ⟨rfl,N⟩;have C:=I N;have d8:w2.cell? ⟨w.heap.size,8,none⟩= some (.slice NA ns.length nc):=(N.cell (p:=⟨w.heap.size,8,none⟩) G.o.lt).trans (G.o.range 8 _ rfl);have e8:w2.cell? ⟨pb,8,none⟩= some (.slice NB ns'.length nd):=(N.cell (p:=⟨pb,8,none⟩) K.o.lt).trans (K.o.range 8 _ rfl);clear N)|(go_at_call 135;refine((HN.o _ C.o)).mono ?_;rintro e z ⟨rfl,q,rfl⟩;have d9:(w2.drewN q).cell? ⟨w.heap.size,9,none⟩= some (.slice A its.length c):=(C.o.cell (p:=⟨w.heap.size,9,none⟩) G.o.lt).trans (G.o.range 9 _ rfl);have e9:(w2.drewN q).cell? ⟨pb,9,none⟩= some (.slice D its'.length d):=(C.o.cell (p:=⟨pb,9,none⟩) K.o.lt).trans (K.o.range 9 _ rfl))|(go_at_call 174;refine zg ((HQ.o _ (zj C.o _))) ?_;intro z b9));go_ret;have hB:=zj (beT g.o C.o) q;exact⟨z8 Y.o.symm,(beT hB b9.o)⟩
end
section
open Go Go.RowKit
theorem zgQ:∀ (x:ET) (far:Nat) (cs:List Value) (w:World),far<=40->ExpAt w w.heap.size cs x->Calls Tryz.prog 55 #[.agg ⟨cs⟩,.int .i64 far] w (z6D w):=by
 intro x
 induction x using ET.ind with
 |h k s t ns its ih=>
  intro far cs w b2 hv;obtain⟨v0,v1,v2,v3,v4,v5,vn,vi,rfl,_,_,_,_,a6,hi⟩:=hv.inv;obtain⟨_,A,c,rfl,hA⟩:=hi;have HA:=I hA;have IH:=I ih;unfold maxLen at a6;clear hA hv ih;go_enter Tryz.func55,Tryz.ntmps55;go_upto_region 1 with (fail);have N:=zc w (.cells ⟨[.int .i64 k,.string s,v0,v1,v2,v3,v4,v5,vn,.slice A its.length c]⟩ 47);have Y:=zy w (.cells ⟨[.int .i64 k,.string s,v0,v1,v2,v3,v4,v5,vn,.slice A its.length c]⟩ 47);have c5:=zI w ⟨[.int .i64 k,.string s,v0,v1,v2,v3,v4,v5,vn,.slice A its.length c]⟩ 47 9;generalize w.alloc (.cells ⟨[.int .i64 k,.string s,v0,v1,v2,v3,v4,v5,vn,.slice A its.length c]⟩ 47)= W at*;have HB:=I N;have C5:=I c5;have a4:=I Y;clear N c5 Y;go_wp2;go_loopg [5,6] its.length (fun g m i wr=>∃ (j:Nat) (x:Int),j+g= its.length/\i= .int .i64 j/\m= .int .i64 x/\Below W.heap.size W wr);case atStart=>exact⟨0,0,by omega,rfl,rfl,Below.refl _ _⟩
  case round=>
   obtain⟨j,x,hj,rfl,rfl,K⟩:=hrel;have C:=I K;have d5:=(K.cell (p:=⟨w.heap.size,9,none⟩) a4.o).trans C5.o;clear K;simp only[List.getElem?_toArray,List.getElem?_cons_succ,List.getElem?_cons_zero] at d5;cases gk with
   |zero=>
    have c4: ¬ ((j:Int) <(its.length:Int)):=by omega
    go_wp2;go_ret;exact⟨_,rfl,(beT HB.o C.o)⟩
   |succ g=>
    have c6:(j:Int) <(its.length:Int):=by omega
    by_cases h0:far= 0
    ·subst h0
     go_wp2;go_ret;exact⟨_,rfl,(beT HB.o C.o)⟩
    ·have b3:(0:Int) <(far:Int):=by omega
     have c7:w.heap.size<=wr.heap.size:=Nat.le_trans HB.o.size C.o.size;obtain⟨y,hy⟩:∃ y,its[j]?= some y:=⟨_,List.getElem?_eq_getElem (by omega)⟩;obtain⟨b,o,rfl,a5,hc⟩:=HA.o (by omega);obtain⟨cs,O,hr,hR⟩:=hc j y hy;have G:=(beT HB.o C.o);have HR:=I (zb hr G a5);have HC:=I (IH.o y (List.mem_of_getElem? hy) (far - 1) cs wr (by omega) ((hR.under G).more G.size));have a3:=I O;have X:((far - 1:Nat):Int)=(far:Int) - 1:=by omega
     clear hc hr hR G hy O h0;rw[X] at HC;clear X;go_wp2_with (first|(with_reducible refine z0N 47 _ rfl ?hw b (o+j*10) cs _ rfl HR.o Tryz.underlying47 rfl ?hi ?_;(case hw=>exact wA rfl);(case hi=>rw[a3.o];kernel_rfl))|(go_at_call 55;refine HC.o.mono ?_;rintro e w' ⟨z,rfl,K⟩;have a2:=I K;clear K));all_goals
      go_roundg g;case measure=>omega
      case rel=>exact⟨j+1,_,by omega,by go_num,rfl,(beT C.o a2.o)⟩
theorem z9D (t:ET) (cs:List Value) (w:World) (hv:ExpAt w w.heap.size cs t):Calls Tryz.prog 56 #[.agg ⟨cs⟩] w (z5o w):=
 (z9P t cs w hv).mono fun e w' ⟨h,hb⟩=>⟨(cntE t 0:Nat),by omega,by have:=z6F t 0 (by omega);omega,h,hb⟩
theorem z8p:∀ (x:ET) (cs:List Value) (w:World),ExpAt w w.heap.size cs x->Calls Tryz.prog 21 #[.agg ⟨cs⟩] w (z5n w):=by
 intro x
 induction x using ET.ind with
 |h k s t ns its ih=>
  intro cs w hv;have HV:=I hv;have a7:=I (eslen hv);obtain⟨v0,v1,v2,v3,v4,v5,vn,vi,b2,_,_,ht,_,c5,hi⟩:=hv.inv;obtain⟨_,A,c,rfl,hA⟩:=hi;have HA:=I hA;have IH:=I ih;have HT:=I ht;have a8:=I b2;unfold maxLen at c5;clear hA hv ih ht b2;go_enter Tryz.func21,Tryz.ntmps21;go_upto_region 1 with (fail);have Y:=I (zc w (.cells ⟨cs⟩ 47));have HR:=I (zv w cs 47);have b9:=I (zy w (.cells ⟨cs⟩ 47));generalize w.alloc (.cells ⟨cs⟩ 47)= W at*;have a0:Hid (∀ z:World,Below W.heap.size W z->z.rangeAt w.heap.size 0 cs/\z.rangeAt w.heap.size 2 [v0,v1,v2,v3,v4,v5]/\z.cell? ⟨w.heap.size,9,none⟩= some (.slice A its.length c)):=I fun z hz=>by
   have X:=zb HR.o hz b9.o;refine⟨X,?_,?_⟩
   ·rw[a8.o] at X
    exact z4E (p:=[.int .i64 k,.string s]) (cs:=[v0,v1,v2,v3,v4,v5]) (q:=[vn,.slice A its.length c]) X 2 rfl
   ·rw[a8.o] at X
    exact z1r X 9 rfl
  have HC:=I (zgQ (.mk k s t ns its) 40 cs W (by omega) ((HV.o.under Y.o).more Y.o.size));go_wp2_with (first|(with_reducible refine z0N 47 _ rfl ?hw w.heap.size 0 cs _ rfl HR.o Tryz.underlying47 rfl ?hi ?_;(case hw=>exact wA rfl);(case hi=>rw[a7.o];kernel_rfl))|(go_at_call 55;fail));refine HC.o.mono ?_;rintro e w2 ⟨z,rfl,C⟩;have a1:=I C;have b0:=I (a0.o w2 C).1;have G:=I (beT Y.o C);have a5:=I (z9D (.mk k s t ns its) cs w2 ((HV.o.under G.o).more G.o.size));clear C HC;by_cases hz:z<=30
  ·have c7:decide ((30:Int) < z)= false:=by simp;omega
   go_wp2_with (first|(with_reducible refine z0N 47 _ rfl ?hw w.heap.size 0 cs _ rfl b0.o Tryz.underlying47 rfl ?hi ?_;(case hw=>exact wA rfl);(case hi=>rw[a7.o];kernel_rfl))|(go_at_call 56;fail));refine a5.o.mono ?_;rintro e w3 ⟨y,e2,e3,rfl,C⟩;have O:=I (beT a1.o C);have a9:=I (a0.o w3 O.o).2.1;have K:=I (beT Y.o O.o);have a6:=I (z9j t [v0,v1,v2,v3,v4,v5] w3 ((HT.o.under K.o).more K.o.size));clear C a5 b0 a1 G;by_cases hy:y < 500
   ·have c6:decide ((500:Int)<=y)= false:=by simp;omega
    go_wp2_with (first|(with_reducible refine z0N 39 _ rfl ?hw w.heap.size 2 [v0,v1,v2,v3,v4,v5] _ rfl a9.o Tryz.underlying39 rfl ?hi ?_;(case hw=>exact wA rfl);(case hi=>kernel_rfl))|(go_at_call 9;fail));refine a6.o.mono ?_;rintro e w4 ⟨q,rfl,C⟩;have a2:=I (beT O.o C);have a3:=I (beT Y.o a2.o);clear C a6 a9 O K;cases q with
    |false=>
     go_wp2;go_ret;exact⟨_,rfl,a3.o⟩
    |true=>
     go_wp2;go_loopg [3] its.length (fun g i wr=>∃ j:Nat,j+g= its.length/\i= .int .i64 j/\Below W.heap.size W wr);case atStart=>exact⟨0,by omega,rfl,a2.o⟩
     case round=>
      obtain⟨j,hj,rfl,C⟩:=hrel;have b5:=I C;have N:=I (beT Y.o C);have d9:=(a0.o wr C).2.2;clear C;cases gk with
      |zero=>
       have e0: ¬ ((j:Int) <(its.length:Int)):=by omega
       go_wp2;go_ret;exact⟨_,rfl,N.o⟩
      |succ g=>
       have e1:(j:Int) <(its.length:Int):=by omega
       obtain⟨y,hy⟩:∃ y,its[j]?= some y:=⟨_,List.getElem?_eq_getElem (by omega)⟩;obtain⟨b,o,rfl,c4,hc⟩:=HA.o (by omega);obtain⟨ks,b1,X,hR⟩:=hc j y hy;have b8:=I (zb X N.o c4);have b6:=I (IH.o y (List.mem_of_getElem? hy) ks wr ((hR.under N.o).more N.o.size));have b7:=I b1;clear hc X hR hy b1;go_wp2_with (first|(with_reducible refine z0N 47 _ rfl ?hw b (o+j*10) ks _ rfl b8.o Tryz.underlying47 rfl ?hi ?_;(case hw=>exact wA rfl);(case hi=>rw[b7.o];kernel_rfl))|(go_at_call 21;fail));refine b6.o.mono ?_;rintro e w6 ⟨q,rfl,C⟩;have a4:=I (beT b5.o C);clear C;cases q with
       |false=>
        go_wp2;go_ret;exact⟨_,rfl,(beT Y.o a4.o)⟩
       |true=>
        go_wp2;go_roundg g;case measure=>omega
        case rel=>exact⟨j+1,by omega,by go_num,a4.o⟩
   ·have c6:decide ((500:Int)<=y)= true:=by simp;omega
    go_wp2;go_ret;exact⟨_,rfl,K.o⟩
  ·have c7:decide ((30:Int) < z)= true:=by simp;omega
   go_wp2;go_ret;exact⟨_,rfl,G.o⟩
end
section
open Go.RowKit
structure SmallM (m:ModelT):Prop where
 order:m.order.length<=200
 grants:m.grants.length<=200
 vars:m.vars.length<=40
 msgs:m.msgs.length<=40
 nodes:m.nodes.length<=100
 next:∀ (i:Nat) x,m.nodes[i]?= some x->x.next.length<=40/\x.conds.length<=40
def SmallPost (m:ModelT) (w:World) (e:Ending) (w':World):Prop:=∃ b:Bool,e= .returned (.bool b)/\Below w.heap.size w w'/\(b= true->SmallM m)
theorem SmallPost.no {m:ModelT} {w w':World} (h:Below w.heap.size w w'):SmallPost m w (.returned (.bool false)) w':=⟨false,rfl,h,fun h=>by cases h⟩
theorem zh2 (m:ModelT) (cs:List Value) (w:World) (hv:ModelAt w w.heap.size cs m):Calls Tryz.prog 7 #[.agg ⟨cs⟩] w (SmallPost m w):=by
 obtain⟨⟨u1,u2,u3,u4,u5,rfl,j0,j1,j2,j3,j4⟩,_⟩:=hv;obtain⟨l6,A1,c1,rfl,_⟩:=j0;obtain⟨l7,A2,c2,rfl,_⟩:=j1;obtain⟨l8,A3,c3,rfl,e9⟩:=j2;obtain⟨l9,A4,c4,rfl,f0⟩:=j3;obtain⟨m0,A5,c5,rfl,f1⟩:=j4;have g7:=I e9;have g8:=I f0;have g9:=I f1;clear e9 f0 f1;obtain⟨cs,e0⟩:∃ cs,cs=[Value.int .i64 m.labels,.slice A1 m.order.length c1,.slice A2 m.grants.length c2,.slice A3 m.vars.length c3,.slice A4 m.msgs.length c4,.slice A5 m.nodes.length c5]:=⟨_,rfl⟩;rw[← e0];have e2:=I e0;clear e0;go_enter Tryz.func7,Tryz.ntmps7;go_upto_region 1 with (fail);have HB:=I (zc w (.cells ⟨cs⟩ 27));have HR:=I (zv w cs 27);have i5:=I (zy w (.cells ⟨cs⟩ 27));generalize w.alloc (.cells ⟨cs⟩ 27)= W at*;rw[e2.o] at HR;have HF:Hid (∀ z:World,Below W.heap.size W z->z.cell? ⟨w.heap.size,1,none⟩= some (.slice A1 m.order.length c1)/\z.cell? ⟨w.heap.size,2,none⟩= some (.slice A2 m.grants.length c2)/\z.cell? ⟨w.heap.size,3,none⟩= some (.slice A3 m.vars.length c3)/\
   z.cell? ⟨w.heap.size,4,none⟩= some (.slice A4 m.msgs.length c4)/\z.cell? ⟨w.heap.size,5,none⟩= some (.slice A5 m.nodes.length c5)):=I fun z hz=>by
  have hr:=zb HR.o hz i5.o;exact⟨z1r hr 1 rfl,z1r hr 2 rfl,z1r hr 3 rfl,z1r hr 4 rfl,z1r hr 5 rfl⟩
 obtain⟨d1,d2,d3,d4,d5⟩:=HF.o W (Below.refl _ _);have no:∀ {z:World},Below W.heap.size W z->SmallPost m w (.returned (.bool false)) z:=fun h=>SmallPost.no (beT HB.o h);have NO:Hid (∀ z:World,Below W.heap.size W z->SmallPost m w (.returned (.bool false)) z):=I fun z h=>no h;clear no HR e2;by_cases h1:m.order.length<=200
 ·have t1:decide ((200:Int) < m.order.length)= false:=by simp;omega
  by_cases h2:m.grants.length<=200
  ·have t2:decide ((200:Int) < m.grants.length)= false:=by simp;omega
   by_cases h3:m.vars.length<=40
   ·have t3:decide ((40:Int) < m.vars.length)= false:=by simp;omega
    by_cases h4:m.msgs.length<=40
    ·have t4:decide ((40:Int) < m.msgs.length)= false:=by simp;omega
     by_cases h5:m.nodes.length<=100
     ·have t5:decide ((100:Int) < m.nodes.length)= false:=by simp;omega
      have H1:=I h1;have H2:=I h2;have H3:=I h3;have H4:=I h4;have H5:=I h5;clear h1 h2 h3 h4 h5;go_wp2;clear t1 t2 t3 t4 t5 d1 d2 d3 d4 d5;go_loopg [3] m.vars.length (fun g i wr=>∃ j:Nat,j+g= m.vars.length/\i= .int .i64 j/\Below W.heap.size W wr);case atStart=>exact⟨0,by omega,rfl,Below.refl _ _⟩
      case round=>
       obtain⟨j,hj,rfl,A⟩:=hrel;have a4:=I A;have C:=I (beT HB.o A);obtain⟨d1,d2,d3,d4,d5⟩:=HF.o wr A;clear A d1 d2 d4 d5;cases gk with
       |succ g=>
        have g0:(j:Int) <(m.vars.length:Int):=by omega
        have f9:(m.vars.length:Int)<=40:=by have:=H3.o;omega
        obtain⟨y,hy⟩:∃ y,m.vars[j]?= some y:=⟨_,List.getElem?_eq_getElem (by omega)⟩;obtain⟨b,o,rfl,b1,hc⟩:=g7.o (by omega);obtain⟨ks,a2,hr,hR⟩:=hc j y hy;have b0:=I (zb hr C.o b1);have a0:=I a2;have a1:=I ((hR.under C.o).more C.o.size);have HY:=I hy;clear hc hr hR hy a2;go_upto_region 7 with (first|((with_reducible refine za tyK41 _ rfl ?_ b0.o rfl a0.o ?_);exact wA rfl)|((with_reducible refine zN tyK41 _ _ rfl ?_ wr a0.o a1.o.one rfl ?_ ?_ ?_ ?_);exact wA rfl;rfl;rfl;rfl;intro Z O));have X:=I (beT a4.o O.o.below);obtain⟨⟨ct,ci,N,a6,b2,tA,vA⟩,_,_⟩:=a1.o;have dn:Z.cell? ⟨wr.heap.size,0,none⟩= some (.string y.name):=O.o.cell 0 (by rw[N];rfl);have G:=I (O.o.sub (Below.refl _ _) [.string y.name,.int .i64 y.label] ct ci N 2 rfl);have c9:=I (fun(u:World) (hu:Below Z.heap.size Z u)=>O.o.sub hu ([.string y.name,.int .i64 y.label] ++ ct) ci [] (by rw[N];simp) 5 (by simp[a6]));have d0:=I tA;have d6:=I vA;have c8:=I a6;have c7:=I b2;clear N a6 b2 tA vA;by_cases hn:y.name.size<=300
        ·have tn:decide ((300:Int) <(y.name.size:Int))= false:=by simp;omega
         have HN:=I hn;clear hn;go_wp2_with (first|((with_reducible refine za tyK36 _ rfl ?_ G.o rfl c8.o ?_);exact wA rfl)|(go_at_call 20;fail));refine(z9d _ ct Z ((d0.o.under O.o.below).more O.o.below.size)).mono ?_;rintro e z ⟨q,rfl,A⟩;have a5:=I (beT X.o A);have K:=I A;clear A;cases q with
         |false=>
          go_wp2;go_ret;exact NO.o _ (a5.o)
         |true=>
          clear G;have G:=I (c9.o z K.o);have Y:=I (beT O.o.below K.o);go_wp2_with (first|((with_reducible refine za tyK39 _ rfl ?_ G.o rfl c7.o ?_);exact wA rfl)|(go_at_call 9;fail));refine(z9j _ ci z ((d6.o.under Y.o).more Y.o.size)).mono ?_;rintro e z ⟨q,rfl,A⟩;have a9:=I (beT a5.o A);have K:=I A;clear A;cases q with
          |false=>
           go_wp2;go_ret;exact NO.o _ (a9.o)
          |true=>
           go_wp2;go_roundg g;case measure=>omega
           case rel=>exact⟨j+1,by omega,by go_num,a9.o⟩
        ·have tn:decide ((300:Int) <(y.name.size:Int))= true:=by simp;omega
         clear hn;go_wp2;go_ret;exact NO.o _ X.o
       |zero=>
        have b3: ¬ ((j:Int) <(m.vars.length:Int)):=by omega
        go_wp2;clear b3 hj d3;go_loopg [5] m.msgs.length (fun g i wr=>∃ j:Nat,j+g= m.msgs.length/\i= .int .i64 j/\Below W.heap.size W wr);case atStart=>exact⟨0,by omega,rfl,a4.o⟩
        case round=>
         obtain⟨j,hj,rfl,A⟩:=hrel;have a4:=I A;have C:=I (beT HB.o A);obtain⟨d1,d2,d3,d4,d5⟩:=HF.o wr A;clear A d1 d2 d3 d5;cases gk with
         |succ g=>
          have g0:(j:Int) <(m.msgs.length:Int):=by omega
          have f9:(m.msgs.length:Int)<=40:=by have:=H4.o;omega
          obtain⟨y,hy⟩:∃ y,m.msgs[j]?= some y:=⟨_,List.getElem?_eq_getElem (by omega)⟩;obtain⟨b,o,rfl,b1,hc⟩:=g8.o (by omega);obtain⟨ks,a2,hr,hR⟩:=hc j y hy;have b0:=I (zb hr C.o b1);have a0:=I a2;have a1:=I ((hR.under C.o).more C.o.size);have HY:=I hy;clear hc hr hR hy a2;go_upto_region 13 with (first|((with_reducible refine za tyK71 _ rfl ?_ b0.o rfl a0.o ?_);exact wA rfl)|((with_reducible refine zN tyK71 _ _ rfl ?_ wr a0.o a1.o.one rfl ?_ ?_ ?_ ?_);exact wA rfl;rfl;rfl;rfl;intro Z O));have X:=I (beT a4.o O.o.below);obtain⟨⟨ct,ci,N,a6,b2,tA,vA⟩,_,_⟩:=a1.o;have dn:Z.cell? ⟨wr.heap.size,0,none⟩= some (.string y.name):=O.o.cell 0 (by rw[N];rfl);have G:=I (O.o.sub (Below.refl _ _) [.string y.name,.int .i64 y.label] ct ci N 2 rfl);have c9:=I (fun(u:World) (hu:Below Z.heap.size Z u)=>O.o.sub hu ([.string y.name,.int .i64 y.label] ++ ct) ci [] (by rw[N];simp) 5 (by simp[a6]));have d0:=I tA;have d6:=I vA;have c8:=I a6;have c7:=I b2;clear N a6 b2 tA vA;by_cases hn:y.name.size<=300
          ·have tn:decide ((300:Int) <(y.name.size:Int))= false:=by simp;omega
           have HN:=I hn;clear hn;go_wp2_with (first|((with_reducible refine za tyK36 _ rfl ?_ G.o rfl c8.o ?_);exact wA rfl)|(go_at_call 20;fail));refine(z9d _ ct Z ((d0.o.under O.o.below).more O.o.below.size)).mono ?_;rintro e z ⟨q,rfl,A⟩;have a5:=I (beT X.o A);have K:=I A;clear A;cases q with
           |false=>
            go_wp2;go_ret;exact NO.o _ (a5.o)
           |true=>
            clear G;have G:=I (c9.o z K.o);have Y:=I (beT O.o.below K.o);go_wp2_with (first|((with_reducible refine za tyK36 _ rfl ?_ G.o rfl c7.o ?_);exact wA rfl)|(go_at_call 20;fail));refine(z9d _ ci z ((d6.o.under Y.o).more Y.o.size)).mono ?_;rintro e z ⟨q,rfl,A⟩;have a9:=I (beT a5.o A);have K:=I A;clear A;cases q with
            |false=>
             go_wp2;go_ret;exact NO.o _ (a9.o)
            |true=>
             go_wp2;go_roundg g;case measure=>omega
             case rel=>exact⟨j+1,by omega,by go_num,a9.o⟩
          ·have tn:decide ((300:Int) <(y.name.size:Int))= true:=by simp;omega
           clear hn;go_wp2;go_ret;exact NO.o _ X.o
         |zero=>
          have b3: ¬ ((j:Int) <(m.msgs.length:Int)):=by omega
          go_wp2;clear b3 hj d4;go_loopg [7] m.nodes.length (fun g i wr=>∃ j:Nat,j+g= m.nodes.length/\i= .int .i64 j/\Below W.heap.size W wr/\∀ (q:Nat) x,q < j->m.nodes[q]?= some x->x.next.length<=40/\x.conds.length<=40);case atStart=>exact⟨0,by omega,rfl,a4.o,fun q x hq=>by omega⟩
          case round=>
           obtain⟨j,hj,rfl,A,b8⟩:=hrel;have a4:=I A;have C:=I (beT HB.o A);obtain⟨d1,d2,d3,d4,d5⟩:=HF.o wr A;clear A d1 d2 d3 d4;have b6:=I b8;clear b8;cases gk with
           |succ g=>
            have g0:(j:Int) <(m.nodes.length:Int):=by omega
            have f9:(m.nodes.length:Int)<=100:=by have:=H5.o;omega
            obtain⟨y,hy⟩:∃ y,m.nodes[j]?= some y:=⟨_,List.getElem?_eq_getElem (by omega)⟩;obtain⟨b,o,rfl,b1,hc⟩:=g9.o (by omega);obtain⟨ks,a2,hr,hR⟩:=hc j y hy;have b0:=I (zb hr C.o b1);have a0:=I a2;have a1:=I ((hR.under C.o).more C.o.size);have HY:=I hy;clear hc hr hR hy a2;go_upto_region 19 with (first|((with_reducible refine za tyK49 _ rfl ?_ b0.o rfl a0.o ?_);exact wA rfl)|((with_reducible refine zN tyK49 _ _ rfl ?_ wr a0.o a1.o.one rfl ?_ ?_ ?_ ?_);exact wA rfl;rfl;rfl;rfl;intro Z O));have X:=I (beT a4.o O.o.below);obtain⟨⟨vn,vc,ce,cb,N,d9,f3,i9,f5,_,eA,bA⟩,_⟩:=a1.o;obtain⟨_,NA,nc,rfl,_⟩:=i9;have l3:=I f5;obtain⟨_,CA,cc,rfl,f2⟩:=f5;have h6:=I f2;have h9:=I eA;have a5:=I bA;have dn:Z.cell? ⟨wr.heap.size,2,none⟩= some (.slice NA y.next.length nc):=O.o.cell 2 (by rw[N];rfl);have e3:=I (fun(u:World) (hu:Below Z.heap.size Z u)=>(O.o.cell' hu 3 (by rw[N];rfl):u.cell? ⟨wr.heap.size,3,none⟩= some (.slice CA y.conds.length cc)));have dc:=e3.o Z (Below.refl _ _);have e7:=I (fun(u:World) (hu:Below Z.heap.size Z u)=>O.o.sub hu [.int .i64 y.kind,.int .i64 y.label,.slice NA y.next.length nc,.slice CA y.conds.length cc] ce (cb ++ [.int .i64 y.var,.int .i64 y.msg,.int .i64 y.catch_,.int .i64 y.wait,.int .i64 y.from_]) (by rw[N];simp) 4 rfl);have e6:=I (fun(u:World) (hu:Below Z.heap.size Z u)=>O.o.sub hu ([.int .i64 y.kind,.int .i64 y.label,.slice NA y.next.length nc,.slice CA y.conds.length cc] ++ ce) cb [.int .i64 y.var,.int .i64 y.msg,.int .i64 y.catch_,.int .i64 y.wait,.int .i64 y.from_] (by rw[N]) 14 (by simp[d9]));have h8:=I d9;have h7:=I f3;clear N d9 f3 eA bA f2;by_cases h1:y.next.length<=40
            ·have t1:decide ((40:Int) <(y.next.length:Int))= false:=by simp;omega
             have i2:=I h1;clear h1;by_cases h2:y.conds.length<=40
             ·have t2:decide ((40:Int) <(y.conds.length:Int))= false:=by simp;omega
              have e4:=I h2;clear h2;have G:=I (e7.o Z (Below.refl _ _));go_wp2_with (first|((with_reducible refine za tyK47 _ rfl ?_ G.o rfl h8.o ?_);exact wA rfl)|(go_at_call 21;fail));refine(z8p _ ce Z ((h9.o.under O.o.below).more O.o.below.size)).mono ?_;rintro e z ⟨q,rfl,A⟩;have e1:=I (beT X.o A);have K:=I A;clear A;cases q with
              |false=>
               go_wp2;go_ret;exact NO.o _ (e1.o)
              |true=>
               clear G dc dn;have G:=I (e6.o z K.o);have Y:=I (beT O.o.below K.o);have e5:=I K.o;clear K;go_wp2_with (first|((with_reducible refine za tyK47 _ rfl ?_ G.o rfl h7.o ?_);exact wA rfl)|(go_at_call 21;fail));refine(z8p _ cb z ((a5.o.under Y.o).more Y.o.size)).mono ?_;rintro e z ⟨q,rfl,A⟩;have h0:=I (beT e1.o A);have K:=I A;clear A;cases q with
               |false=>
                go_wp2;go_ret;exact NO.o _ (h0.o)
               |true=>
                have i3:=I (beT e5.o K.o);clear G K e5 Y e7 e6 t1 t2;go_wp2;go_loopg [9] y.conds.length (fun g i u=>∃ t:Nat,t+g= y.conds.length/\i= .int .i64 t/\Below Z.heap.size Z u);case atStart=>exact⟨0,by omega,rfl,i3.o⟩
                case round=>
                 obtain⟨t,ht,rfl,hu⟩:=hrel;have HU:=I hu;have i6:=I (beT X.o hu);have dc:=e3.o wr hu;clear hu;cases gk with
                 |zero=>
                  have b3: ¬ ((t:Int) <(y.conds.length:Int)):=by omega
                  go_wp2;go_roundg g;case measure=>omega
                  case rel=>
                   refine⟨j+1,by omega,by go_num,i6.o,fun q x hq hx=> ?_⟩;by_cases e:q= j
                   ·subst e
                    have:x= y:=Option.some.inj (hx.symm.trans HY.o);subst this;exact⟨i2.o,e4.o⟩
                   ·exact b6.o q x (by omega) hx
                 |succ g2=>
                  have k9:(t:Int) <(y.conds.length:Int):=by omega
                  have k8:(y.conds.length:Int)<=40:=by have:=e4.o;omega
                  obtain⟨x,hx⟩:∃ x,y.conds[t]?= some x:=⟨_,List.getElem?_eq_getElem (by omega)⟩;obtain⟨bc,oc,rfl,i8,f4⟩:=h6.o (by omega);obtain⟨es,f7,f8,f6⟩:=f4 t x hx;have b5:=(beT O.o.below HU.o);have G:=I (zb f8 b5 i8);have i0:=I f7;have i1:=I ((f6.under b5).more b5.size);clear f4 f8 f6 hx f7 b5;go_wp2_with (first|((with_reducible refine za tyK47 _ rfl ?_ G.o rfl i0.o ?_);exact wA rfl)|(go_at_call 21;fail));refine(z8p _ es _ i1.o).mono ?_;rintro e z2 ⟨q,rfl,A⟩;have e8:=I (beT HU.o A);clear A;cases q with
                  |false=>
                   go_wp2;go_ret;exact NO.o _ (beT X.o e8.o)
                  |true=>
                   go_wp2;go_roundg g2;case measure=>omega
                   case rel=>exact⟨t+1,by omega,by go_num,e8.o⟩
             ·have t2:decide ((40:Int) <(y.conds.length:Int))= true:=by simp;omega
              clear h2;go_wp2;go_ret;exact NO.o _ X.o
            ·have t1:decide ((40:Int) <(y.next.length:Int))= true:=by simp;omega
             clear h1;go_wp2;go_ret;exact NO.o _ X.o
           |zero=>
            have b3: ¬ ((j:Int) <(m.nodes.length:Int)):=by omega
            go_wp2;go_ret;exact⟨true,rfl,C.o,fun _=>⟨H1.o,H2.o,H3.o,H4.o,H5.o,fun i x hx=>b6.o i x (by have:=(List.getElem?_eq_some_iff.1 hx).1;omega) hx⟩⟩
     ·have t5:decide ((100:Int) < m.nodes.length)= true:=by simp;omega
      clear h1 h2 h3 h4 h5;go_wp2;go_ret;exact NO.o _ (Below.refl _ _)
    ·have t4:decide ((40:Int) < m.msgs.length)= true:=by simp;omega
     clear h1 h2 h3 h4;go_wp2;go_ret;exact NO.o _ (Below.refl _ _)
   ·have t3:decide ((40:Int) < m.vars.length)= true:=by simp;omega
    clear h1 h2 h3;go_wp2;go_ret;exact NO.o _ (Below.refl _ _)
  ·have t2:decide ((200:Int) < m.grants.length)= true:=by simp;omega
   clear h1 h2;go_wp2;go_ret;exact NO.o _ (Below.refl _ _)
 ·have t1:decide ((200:Int) < m.order.length)= true:=by simp;omega
  clear h1;go_wp2;go_ret;exact NO.o _ (Below.refl _ _)
end
end Go.Proofs.YtpmjcbjdcjjplaaGreatDoor
