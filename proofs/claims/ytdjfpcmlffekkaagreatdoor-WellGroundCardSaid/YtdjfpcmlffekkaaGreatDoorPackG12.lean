/- Parts of a proof: RName, ELeaf, ENamed, RRight, RTyp, Rows4, Fits, RFits, SamT, SamX. -/
import Derived.Test.YtdjfpcmlffekkaaGreatDoorPackG4
import Derived.Test.YtdjfpcmlffekkaaGreatDoorPackG8
import Derived.Test.YtdjfpcmlffekkaaGreatDoorPackG10
import Derived.Test.YtdjfpcmlffekkaaGreatDoorPackG11
set_option maxHeartbeats 8000000
set_option maxRecDepth 100000
set_option linter.unusedVariables false
set_option linter.unusedSimpArgs false
namespace Go.Proofs.YtdjfpcmlffekkaaGreatDoor
section
open Go Go.RowKit
theorem zdN {s:ByteArray} {k:Nat} {c:UInt8} (h:s.data.toList[k]?= some c) (hk:k < s.size):s[k]'hk= c:=by
 have h2:s.data[k]?= some c:=by simpa using h
 obtain⟨h3,h4⟩:=Array.getElem?_eq_some_iff.1 h2;exact h4
theorem zbl (s:ByteArray) (w:World):Calls Tryz.prog 90 #[.string s] w fun e w'=>e= .returned (.bool (nameB s))/\w'= w:=by
 have X:Hid (nameB s=(decide (0 < s.size) && decide (s.size<=30) && zT s.data.toList 0)):=I rfl;have HL:Hid (s.data.toList.length= s.size):=I (by cases s;rfl);by_cases h0:s.size= 0
 ·have t1:(s.size:Int) < 1:=by omega
  have K:Hid (nameB s= false):=I (by rw[X.o,h0];rfl);clear h0;go_enter Tryz.func90,Tryz.ntmps90;go_wp2;go_ret;exact⟨z8 K.o.symm,rfl⟩
 have t1: ¬ ((s.size:Int) < 1):=by omega
 by_cases h1:s.size<=30
 ·have t2: ¬ ((30:Int) <(s.size:Int)):=by omega
  have K:Hid (nameB s= zT s.data.toList 0):=I (by rw[X.o,decide_eq_true (by omega),decide_eq_true h1];rfl);have N:=I (fun k c=>z4p (l:=s.data.toList) (k:=k) (c:=c));have HE:Hid (∀ k,zT (s.data.toList.drop s.size) k= true):=I fun k=>by rw[List.drop_eq_nil_of_le (by rw[HL.o];exact Nat.le_refl _)];rfl
  have H0:Hid (zT (s.data.toList.drop 0) 0= zT s.data.toList 0):=I rfl;generalize zT s.data.toList 0= res at*;go_enter Tryz.func90,Tryz.ntmps90;go_wp2;go_loopg [3] s.size (fun q x u=>∃ k:Nat,k+q= s.size/\x= .int .i64 k/\u= w/\zT (s.data.toList.drop k) k= res);case atStart=>exact⟨0,by omega,rfl,rfl,H0.o⟩
  case round=>
   obtain⟨k,hk,rfl,rfl,O⟩:=hrel;have C:=I O;clear O;cases gk with
   |zero=>
    obtain rfl:k= s.size:=by omega
    have a5: ¬ ((s.size:Int) <(s.size:Int)):=by omega
    have G:=I (C.o.symm.trans (HE.o s.size));go_wp2;go_ret;exact⟨z8 (K.o.trans G.o).symm,rfl⟩
   |succ q=>
    have a6:(k:Int) <(s.size:Int):=by omega
    obtain⟨c,Y⟩:∃ c,s.data.toList[k]?= some c:=⟨_,List.getElem?_eq_getElem (by rw[HL.o];omega)⟩;have dk:=fun h=>zdN (k:=k) (c:=c) Y h;have F:=I Y;clear Y;by_cases h97:97<=c.toNat
    ·have d97:decide (97<=c.toNat)= true:=decide_eq_true (by omega)
     have f97:97<=(c.toNat:Int):=by omega
     by_cases h122:c.toNat<=122
     ·have d122:decide (c.toNat<=122)= true:=decide_eq_true (by omega)
      have f122:(c.toNat:Int)<=122:=by omega
      have g:okC k c= true:=by unfold okC;simp only[d97,d122,Bool.true_and,Bool.and_true,Bool.or_true,Bool.true_or,Bool.false_or,Bool.or_false,Bool.and_false,Bool.false_and]
      have G:Hid (res= zT (s.data.toList.drop (k+1)) (k+1)):=I (C.o.symm.trans ((N.o k c F.o).trans (by rw[g];exact Bool.true_and _)));clear g;go_wp2;go_roundg q;case measure=>omega
      case rel=>exact⟨k+1,by omega,by go_num,rfl,G.o.symm⟩
     ·have d122:decide (c.toNat<=122)= false:=decide_eq_false (by omega)
      have f122: ¬ ((c.toNat:Int)<=122):=by omega
      by_cases hk0:k= 0
      ·subst hk0
       have A:decide ((0:Nat) < 0)= false:=rfl;have g:okC 0 c= false:=by unfold okC;simp only[d97,d122,A,Bool.true_and,Bool.and_true,Bool.or_true,Bool.true_or,Bool.false_or,Bool.or_false,Bool.and_false,Bool.false_and]
       have G:Hid (res= false):=I (C.o.symm.trans ((N.o 0 c F.o).trans (by rw[g];exact Bool.false_and _)));clear g;go_wp2;go_ret;exact⟨z8 (K.o.trans G.o).symm,rfl⟩
      ·have A:decide (0 < k)= true:=decide_eq_true (by omega)
       have a0:((k:Int) ==0)= false:=by rw[beq_eq_false_iff_ne];omega
       have a1: ¬ ((k:Int)= 0):=by omega
       by_cases h48:48<=c.toNat
       ·have d48:decide (48<=c.toNat)= true:=decide_eq_true (by omega)
        have f48:48<=(c.toNat:Int):=by omega
        by_cases h57:c.toNat<=57
        ·have d57:decide (c.toNat<=57)= true:=decide_eq_true (by omega)
         have f57:(c.toNat:Int)<=57:=by omega
         have g:okC k c= true:=by unfold okC;simp only[d97,d122,A,d48,d57,Bool.true_and,Bool.and_true,Bool.or_true,Bool.true_or,Bool.false_or,Bool.or_false,Bool.and_false,Bool.false_and]
         have G:Hid (res= zT (s.data.toList.drop (k+1)) (k+1)):=I (C.o.symm.trans ((N.o k c F.o).trans (by rw[g];exact Bool.true_and _)));clear g;go_wp2;go_roundg q;case measure=>omega
         case rel=>exact⟨k+1,by omega,by go_num,rfl,G.o.symm⟩
        ·have d57:decide (c.toNat<=57)= false:=decide_eq_false (by omega)
         have f57: ¬ ((c.toNat:Int)<=57):=by omega
         by_cases h95:c.toNat= 95
         ·have e1:(c.toNat ==95)= true:=by simpa using h95
          have e2:((c.toNat:Int) ==95)= true:=by rw[beq_iff_eq];omega
          have e3:((c.toNat:Int) !=95)= false:=by rw[h95];rfl
          have g:okC k c= true:=by unfold okC;simp only[d97,d122,A,d48,d57,e1,Bool.true_and,Bool.and_true,Bool.or_true,Bool.true_or,Bool.false_or,Bool.or_false,Bool.and_false,Bool.false_and]
          have G:Hid (res= zT (s.data.toList.drop (k+1)) (k+1)):=I (C.o.symm.trans ((N.o k c F.o).trans (by rw[g];exact Bool.true_and _)));clear g;go_wp2;go_roundg q;case measure=>omega
          case rel=>exact⟨k+1,by omega,by go_num,rfl,G.o.symm⟩
         ·have e1:(c.toNat ==95)= false:=by simpa using h95
          have e2:((c.toNat:Int) ==95)= false:=by rw[beq_eq_false_iff_ne];omega
          have e3:((c.toNat:Int) !=95)= true:=by rw[bne_iff_ne];omega
          have g:okC k c= false:=by unfold okC;simp only[d97,d122,A,d48,d57,e1,Bool.true_and,Bool.and_true,Bool.or_true,Bool.true_or,Bool.false_or,Bool.or_false,Bool.and_false,Bool.false_and]
          have G:Hid (res= false):=I (C.o.symm.trans ((N.o k c F.o).trans (by rw[g];exact Bool.false_and _)));clear g;go_wp2;go_ret;exact⟨z8 (K.o.trans G.o).symm,rfl⟩
       ·have d48:decide (48<=c.toNat)= false:=decide_eq_false (by omega)
        have f48: ¬ (48<=(c.toNat:Int)):=by omega
        have h95:c.toNat≠95:=by omega
        have e1:(c.toNat ==95)= false:=by simpa using h95
        have e2:((c.toNat:Int) ==95)= false:=by rw[beq_eq_false_iff_ne];omega
        have e3:((c.toNat:Int) !=95)= true:=by rw[bne_iff_ne];omega
        have g:okC k c= false:=by unfold okC;simp only[d97,d122,A,d48,e1,Bool.true_and,Bool.and_true,Bool.or_true,Bool.true_or,Bool.false_or,Bool.or_false,Bool.and_false,Bool.false_and]
        have G:Hid (res= false):=I (C.o.symm.trans ((N.o k c F.o).trans (by rw[g];exact Bool.false_and _)));clear g;go_wp2;go_ret;exact⟨z8 (K.o.trans G.o).symm,rfl⟩
    ·have d97:decide (97<=c.toNat)= false:=decide_eq_false (by omega)
     have f97: ¬ (97<=(c.toNat:Int)):=by omega
     by_cases hk0:k= 0
     ·subst hk0
      have A:decide ((0:Nat) < 0)= false:=rfl;have g:okC 0 c= false:=by unfold okC;simp only[d97,A,Bool.true_and,Bool.and_true,Bool.or_true,Bool.true_or,Bool.false_or,Bool.or_false,Bool.and_false,Bool.false_and]
      have G:Hid (res= false):=I (C.o.symm.trans ((N.o 0 c F.o).trans (by rw[g];exact Bool.false_and _)));clear g;go_wp2;go_ret;exact⟨z8 (K.o.trans G.o).symm,rfl⟩
     ·have A:decide (0 < k)= true:=decide_eq_true (by omega)
      have a0:((k:Int) ==0)= false:=by rw[beq_eq_false_iff_ne];omega
      have a1: ¬ ((k:Int)= 0):=by omega
      by_cases h48:48<=c.toNat
      ·have d48:decide (48<=c.toNat)= true:=decide_eq_true (by omega)
       have f48:48<=(c.toNat:Int):=by omega
       by_cases h57:c.toNat<=57
       ·have d57:decide (c.toNat<=57)= true:=decide_eq_true (by omega)
        have f57:(c.toNat:Int)<=57:=by omega
        have g:okC k c= true:=by unfold okC;simp only[d97,A,d48,d57,Bool.true_and,Bool.and_true,Bool.or_true,Bool.true_or,Bool.false_or,Bool.or_false,Bool.and_false,Bool.false_and]
        have G:Hid (res= zT (s.data.toList.drop (k+1)) (k+1)):=I (C.o.symm.trans ((N.o k c F.o).trans (by rw[g];exact Bool.true_and _)));clear g;go_wp2;go_roundg q;case measure=>omega
        case rel=>exact⟨k+1,by omega,by go_num,rfl,G.o.symm⟩
       ·have d57:decide (c.toNat<=57)= false:=decide_eq_false (by omega)
        have f57: ¬ ((c.toNat:Int)<=57):=by omega
        by_cases h95:c.toNat= 95
        ·have e1:(c.toNat ==95)= true:=by simpa using h95
         have e2:((c.toNat:Int) ==95)= true:=by rw[beq_iff_eq];omega
         have e3:((c.toNat:Int) !=95)= false:=by rw[h95];rfl
         have g:okC k c= true:=by unfold okC;simp only[d97,A,d48,d57,e1,Bool.true_and,Bool.and_true,Bool.or_true,Bool.true_or,Bool.false_or,Bool.or_false,Bool.and_false,Bool.false_and]
         have G:Hid (res= zT (s.data.toList.drop (k+1)) (k+1)):=I (C.o.symm.trans ((N.o k c F.o).trans (by rw[g];exact Bool.true_and _)));clear g;go_wp2;go_roundg q;case measure=>omega
         case rel=>exact⟨k+1,by omega,by go_num,rfl,G.o.symm⟩
        ·have e1:(c.toNat ==95)= false:=by simpa using h95
         have e2:((c.toNat:Int) ==95)= false:=by rw[beq_eq_false_iff_ne];omega
         have e3:((c.toNat:Int) !=95)= true:=by rw[bne_iff_ne];omega
         have g:okC k c= false:=by unfold okC;simp only[d97,A,d48,d57,e1,Bool.true_and,Bool.and_true,Bool.or_true,Bool.true_or,Bool.false_or,Bool.or_false,Bool.and_false,Bool.false_and]
         have G:Hid (res= false):=I (C.o.symm.trans ((N.o k c F.o).trans (by rw[g];exact Bool.false_and _)));clear g;go_wp2;go_ret;exact⟨z8 (K.o.trans G.o).symm,rfl⟩
      ·have d48:decide (48<=c.toNat)= false:=decide_eq_false (by omega)
       have f48: ¬ (48<=(c.toNat:Int)):=by omega
       have h95:c.toNat≠95:=by omega
       have e1:(c.toNat ==95)= false:=by simpa using h95
       have e2:((c.toNat:Int) ==95)= false:=by rw[beq_eq_false_iff_ne];omega
       have e3:((c.toNat:Int) !=95)= true:=by rw[bne_iff_ne];omega
       have g:okC k c= false:=by unfold okC;simp only[d97,A,d48,e1,Bool.true_and,Bool.and_true,Bool.or_true,Bool.true_or,Bool.false_or,Bool.or_false,Bool.and_false,Bool.false_and]
       have G:Hid (res= false):=I (C.o.symm.trans ((N.o k c F.o).trans (by rw[g];exact Bool.false_and _)));clear g;go_wp2;go_ret;exact⟨z8 (K.o.trans G.o).symm,rfl⟩
 ·have t2:(30:Int) <(s.size:Int):=by omega
  have K:Hid (nameB s= false):=I (by rw[X.o,decide_eq_false h1,Bool.and_false];rfl);go_enter Tryz.func90,Tryz.ntmps90;go_wp2;go_ret;exact⟨z8 K.o.symm,rfl⟩
theorem z9C (v:Value) (l:List ByteArray) (n:Nat) (w:World) (hv:SlAt w w.heap.size 1 StrR v l):
  Calls Tryz.prog 75 #[v,.int .i64 n] w fun e w'=>e= .returned (.bool (riseB none l && (l.length ==n)))/\Below w.heap.size w w':=by
 obtain⟨_,A,c,rfl,_⟩:=id hv;obtain⟨_,hl,ha⟩:=z1A hv;have HA:=I ha;have H1:=I (fun s=>z5m (l:=l) (s:=s));have H2:=I (fun k p s=>z6u (l:=l) (k:=k) (p:=p) (s:=s));have HE:=I (z7L (l:=l));have H0:Hid (riseB (prevK l 0) (l.drop 0)= riseB none l):=I rfl;have c4:(l.length:Int)<=9223372036854775807:=by omega
 have HT:Hid ((l.length ==n)=((l.length:Int) ==(n:Int))):=I (by
  by_cases h:l.length= n
  ·subst h;simp
  ·rw[beq_eq_false_iff_ne.2 h,beq_eq_false_iff_ne.2];omega)
 clear ha hv;generalize riseB none l= res at*;go_enter Tryz.func75,Tryz.ntmps75;go_wp2;go_loopg [5] l.length (fun q x u=>∃ k:Nat,k+q= l.length/\x= .int .i64 k/\Below w.heap.size w u/\riseB (prevK l k) (l.drop k)= res);case atStart=>exact⟨0,by omega,rfl,Below.refl _ _,H0.o⟩
 case round=>
  obtain⟨k,hk,rfl,hb,K⟩:=hrel;have X:=I K;have C:=I hb;clear K hb;cases gk with
  |zero=>
   obtain rfl:k= l.length:=by omega
   have b8: ¬ ((l.length:Int) <(l.length:Int)):=by omega
   have G:=I (X.o.symm.trans HE.o);have g:Hid ((res && (l.length ==n))=((l.length:Int) ==(n:Int))):=I (by rw[G.o,HT.o];exact Bool.true_and _);clear X;go_wp2;go_ret;exact⟨z8 g.o.symm,C.o⟩
  |succ q=>
   have c5:(k:Int) <(l.length:Int):=by omega
   obtain⟨s,hs⟩:∃ s,l[k]?= some s:=⟨_,List.getElem?_eq_getElem (by omega)⟩;obtain⟨b,o,rfl,O,hc⟩:=HA.o (by omega);have a2:=I (fun i x hx=>(hc i x hx).1);have a1:=I O;have ds:=(C.o.cell (p:=⟨b,o+k,none⟩) O).trans (hc k s hs).1;have F:=I (zbl s);have Y:=I hs;clear hc O hs;rcases Nat.eq_zero_or_pos k with a0|a0
   ·subst a0
    have b7:wr.cell? ⟨b,o,none⟩= some (.string s):=ds;have a8:(0:Int) <(l.length:Int):=by omega
    have G:=I (X.o.symm.trans (H1.o s Y.o));clear X;generalize nameB s= nb at*;cases nb with
    |false=>
     have g:Hid ((res && (l.length ==n))= false):=I (by rw[G.o,Bool.false_and,Bool.false_and]);clear G;go_wp2;go_quiet ((go_at_call 90;exact Calls.quiet_of_same ((F.o _).mono fun e w' h=>⟨h.1,h.2⟩)));go_wp2;go_ret;exact⟨z8 g.o.symm,zj C.o _⟩
    |true=>
     have g:=I (G.o.trans (Bool.true_and _));clear G;go_wp2;go_quiet ((go_at_call 90;exact Calls.quiet_of_same ((F.o _).mono fun e w' h=>⟨h.1,h.2⟩)));go_wp2;go_roundg q;case measure=>omega
     case rel=>exact⟨1,by omega,by go_num,zj C.o _,g.o.symm⟩
   ·obtain⟨j,rfl⟩:∃ j,k= j+1:=⟨k - 1,by omega⟩
    obtain⟨p,hp⟩:∃ p,l[j]?= some p:=⟨_,List.getElem?_eq_getElem (by omega)⟩;have G:=I (X.o.symm.trans (H2.o j p s hp Y.o));have dp:=(C.o.cell (p:=⟨b,o+j,none⟩) a1.o).trans (a2.o j p hp);have a9:(0:Int) <((j+1:Nat):Int):=by omega
    have b9:(j:Int) <(l.length:Int):=by omega
    clear X hp;generalize nameB s= nb at*;cases nb with
    |false=>
     have g:Hid ((res && (l.length ==n))= false):=I (by rw[G.o,Bool.false_and,Bool.false_and]);clear G;go_wp2;go_quiet ((go_at_call 90;exact Calls.quiet_of_same ((F.o _).mono fun e w' h=>⟨h.1,h.2⟩)));go_wp2;go_ret;exact⟨z8 g.o.symm,zj C.o _⟩
    |true=>
     have g:=I (G.o.trans (Bool.true_and _));clear G;cases hlt3:Op.bytesLess p.toList s.toList with
     |false=>
      have N:Hid ((res && (l.length ==n))= false):=I (by rw[g.o,hlt3,Bool.false_and,Bool.false_and]);go_wp2;go_quiet ((go_at_call 90;exact Calls.quiet_of_same ((F.o _).mono fun e w' h=>⟨h.1,h.2⟩)));go_wp2;go_ret;exact⟨z8 N.o.symm,zj C.o _⟩
     |true=>
      have N:=I (g.o.trans (by rw[hlt3,Bool.true_and]));go_wp2;go_quiet ((go_at_call 90;exact Calls.quiet_of_same ((F.o _).mono fun e w' h=>⟨h.1,h.2⟩)));go_wp2;go_roundg q;case measure=>omega
      case rel=>exact⟨j+2,by omega,by go_num,zj C.o _,N.o.symm⟩
end
section
open Go Go.RowKit
def z0H (k:Int):Int:=
 if k= 1\/k= 2 then 0 else if k= 3\/k= 4\/k= 18\/(20<=k/\k<=23) then 1 else if(5<=k/\k<=14)\/k= 19 then 2 else if k= 15 then 3 else if k= 16\/k= 17 then -1 else -2
theorem zd2 (k:Int) (w:World):Calls Tryz.prog 126 #[.int .i64 k] w fun e w'=>e= .returned (.int .i64 (z0H k))/\w'= w:=by
 by_cases h:k= 1\/k= 2\/k= 3\/k= 4\/k= 5\/k= 6\/k= 7\/k= 8\/k= 9\/k= 10\/k= 11\/k= 12\/k= 13\/k= 14\/k= 15\/k= 16\/k= 17\/k= 18\/k= 19\/k= 20\/k= 21\/k= 22\/k= 23
 ·rcases h with rfl|rfl|rfl|rfl|rfl|rfl|rfl|rfl|rfl|rfl|rfl|rfl|rfl|rfl|rfl|rfl|rfl|rfl|rfl|rfl|rfl|rfl|rfl
  all_goals
   go_enter Tryz.func126,Tryz.ntmps126;go_wp2;go_ret;exact⟨rfl,rfl⟩
 ·have g:Hid (z0H k= -2):=I (by unfold z0H;rw[if_neg (by omega),if_neg (by omega),if_neg (by omega),if_neg (by omega),if_neg (by omega)])
  by_cases h1:k < 1
  ·have e1:(k ==1)= false:=by rw[beq_eq_false_iff_ne];omega
   have e2:(k ==2)= false:=by rw[beq_eq_false_iff_ne];omega
   have e3:(k ==3)= false:=by rw[beq_eq_false_iff_ne];omega
   have e4:(k ==4)= false:=by rw[beq_eq_false_iff_ne];omega
   have e18:(k ==18)= false:=by rw[beq_eq_false_iff_ne];omega
   have e15:(k ==15)= false:=by rw[beq_eq_false_iff_ne];omega
   have e16:(k ==16)= false:=by rw[beq_eq_false_iff_ne];omega
   have e17:(k ==17)= false:=by rw[beq_eq_false_iff_ne];omega
   have e19:(k ==19)= false:=by rw[beq_eq_false_iff_ne];omega
   have l20: ¬ (20<=k):=by omega
   have l5: ¬ (5<=k):=by omega
   clear h h1;go_enter Tryz.func126,Tryz.ntmps126;go_wp2;go_ret;exact⟨by rw[g.o];rfl,rfl⟩
  ·have e1:(k ==1)= false:=by rw[beq_eq_false_iff_ne];omega
   have e2:(k ==2)= false:=by rw[beq_eq_false_iff_ne];omega
   have e3:(k ==3)= false:=by rw[beq_eq_false_iff_ne];omega
   have e4:(k ==4)= false:=by rw[beq_eq_false_iff_ne];omega
   have e18:(k ==18)= false:=by rw[beq_eq_false_iff_ne];omega
   have e15:(k ==15)= false:=by rw[beq_eq_false_iff_ne];omega
   have e16:(k ==16)= false:=by rw[beq_eq_false_iff_ne];omega
   have e17:(k ==17)= false:=by rw[beq_eq_false_iff_ne];omega
   have e19:(k ==19)= false:=by rw[beq_eq_false_iff_ne];omega
   have l20:20<=k:=by omega
   have l23: ¬ (k<=23):=by omega
   have l5:5<=k:=by omega
   have l14: ¬ (k<=14):=by omega
   clear h h1;go_enter Tryz.func126,Tryz.ntmps126;go_wp2;go_ret;exact⟨by rw[g.o];rfl,rfl⟩
def wordB (s:ByteArray):Bool:=((s.toList ==[116,114,117,101]) ||((s.toList ==[102,97,108,115,101]) ||((s.toList ==[110,97,110]) ||((s.toList ==[105,110,102]) ||((s.toList ==[108,101,110]) ||((s.toList ==[102,108,111,97,116]) ||((s.toList ==[105,110,116]) ||(s.toList ==[115,116,114]))))))))
theorem z6G (s:ByteArray) (w:World):Calls Tryz.prog 60 #[.string s] w fun e w'=>e= .returned (.bool (wordB s))/\w'= w:=by
 cases h0:(s.toList ==[116,114,117,101]) with
 |true=>
  have g:Hid (wordB s= true):=I (by unfold wordB;rw[h0];rfl);go_enter Tryz.func60,Tryz.ntmps60;go_wp2;go_ret;exact⟨by rw[g.o];rfl,rfl⟩
 |false=>
  cases h1:(s.toList ==[102,97,108,115,101]) with
  |true=>
   have g:Hid (wordB s= true):=I (by unfold wordB;rw[h0,h1];rfl);go_enter Tryz.func60,Tryz.ntmps60;go_wp2;go_ret;exact⟨by rw[g.o];rfl,rfl⟩
  |false=>
   cases h2:(s.toList ==[110,97,110]) with
   |true=>
    have g:Hid (wordB s= true):=I (by unfold wordB;rw[h0,h1,h2];rfl);go_enter Tryz.func60,Tryz.ntmps60;go_wp2;go_ret;exact⟨by rw[g.o];rfl,rfl⟩
   |false=>
    cases h3:(s.toList ==[105,110,102]) with
    |true=>
     have g:Hid (wordB s= true):=I (by unfold wordB;rw[h0,h1,h2,h3];rfl);go_enter Tryz.func60,Tryz.ntmps60;go_wp2;go_ret;exact⟨by rw[g.o];rfl,rfl⟩
    |false=>
     cases h4:(s.toList ==[108,101,110]) with
     |true=>
      have g:Hid (wordB s= true):=I (by unfold wordB;rw[h0,h1,h2,h3,h4];rfl);go_enter Tryz.func60,Tryz.ntmps60;go_wp2;go_ret;exact⟨by rw[g.o];rfl,rfl⟩
     |false=>
      cases h5:(s.toList ==[102,108,111,97,116]) with
      |true=>
       have g:Hid (wordB s= true):=I (by unfold wordB;rw[h0,h1,h2,h3,h4,h5];rfl);go_enter Tryz.func60,Tryz.ntmps60;go_wp2;go_ret;exact⟨by rw[g.o];rfl,rfl⟩
      |false=>
       cases h6:(s.toList ==[105,110,116]) with
       |true=>
        have g:Hid (wordB s= true):=I (by unfold wordB;rw[h0,h1,h2,h3,h4,h5,h6];rfl);go_enter Tryz.func60,Tryz.ntmps60;go_wp2;go_ret;exact⟨by rw[g.o];rfl,rfl⟩
       |false=>
        cases h7:(s.toList ==[115,116,114]) with
        |true=>
         have g:Hid (wordB s= true):=I (by unfold wordB;rw[h0,h1,h2,h3,h4,h5,h6,h7];rfl);go_enter Tryz.func60,Tryz.ntmps60;go_wp2;go_ret;exact⟨by rw[g.o];rfl,rfl⟩
        |false=>
         have g:Hid (wordB s= false):=I (by unfold wordB;rw[h0,h1,h2,h3,h4,h5,h6,h7];rfl);go_enter Tryz.func60,Tryz.ntmps60;go_wp2;go_ret;exact⟨by rw[g.o];rfl,rfl⟩
def z0g (s:ByteArray):Bool:=nameB s && (!(s.toList ==[110,97,110]) && !(s.toList ==[105,110,102]))
theorem z3n (s:ByteArray) (w:World):Calls Tryz.prog 145 #[.string s] w fun e w'=>e= .returned (.bool (z0g s))/\Below w.heap.size w w':=by
 have g:=I (z4F s w);cases h0:nameB s with
 |false=>
  have C:Hid (z0g s= false):=I (by unfold z0g;rw[h0];rfl);rw[h0] at g;clear h0;go_enter Tryz.func145,Tryz.ntmps145;go_wp2_with (go_at_call 59;refine zi g.o ?_;intro z A);go_ret;exact⟨by rw[C.o];rfl,A.o⟩
 |true=>
  cases h1:(s.toList ==[110,97,110]) with
  |true=>
   have C:Hid (z0g s= false):=I (by unfold z0g;rw[h0,h1];rfl);rw[h0] at g;clear h0;go_enter Tryz.func145,Tryz.ntmps145;go_wp2_with (go_at_call 59;refine zi g.o ?_;intro z A);go_ret;exact⟨by rw[C.o];rfl,A.o⟩
  |false=>
   cases h2:(s.toList ==[105,110,102]) with
   |true=>
    have C:Hid (z0g s= false):=I (by unfold z0g;rw[h0,h1,h2];rfl);rw[h0] at g;clear h0;go_enter Tryz.func145,Tryz.ntmps145;go_wp2_with (go_at_call 59;refine zi g.o ?_;intro z A);go_ret;exact⟨by rw[C.o];rfl,A.o⟩
   |false=>
    have C:Hid (z0g s= true):=I (by unfold z0g;rw[h0,h1,h2];rfl);rw[h0] at g;clear h0;go_enter Tryz.func145,Tryz.ntmps145;go_wp2_with (go_at_call 59;refine zi g.o ?_;intro z A);go_ret;exact⟨by rw[C.o];rfl,A.o⟩
def noneB (k n:Int) (f:Nat) (s:ByteArray) (ns its:Nat):Bool:=(k ==0) && ((n ==0) && ((cmpF f 0 ==0) && (s.toList.isEmpty && (((ns:Int) ==0) && ((its:Int) ==0)))))
theorem z4o (p o:Nat) (k n:Int) (f:Nat) (s:ByteArray) (A D:Option Addr) (ns its ca cd:Nat) (w:World) (hf:f < 2 ^ 64) (h:w.rangeAt p o [.int .i64 k,.int .i64 n,.float .f64 f,.string s,.slice A ns ca,.slice D its cd]):
  Calls Tryz.prog 129 #[.pointer (some ⟨p,o,none⟩)] w fun e w'=>e= .returned (.bool (noneB k n f s ns its))/\w'= w:=by
 have d0:w.cell? ⟨p,o,none⟩= some (.int .i64 k):=h 0 _ rfl;have d1:=h 1 _ rfl;have d2:=h 2 _ rfl;have d3:=h 3 _ rfl;have d4:=h 4 _ rfl;have d5:=h 5 _ rfl;have g:=I (fun w=>z0U f 0 hf (by decide) w);clear h hf;cases h0:(k ==0) with
 |false=>
  have C:Hid (noneB k n f s ns its= false):=I (by unfold noneB;rw[h0];rfl);generalize cmpF f 0= cf at*;go_enter Tryz.func129,Tryz.ntmps129;go_wp2_with (go_at_call 123;refine(g.o _).mono ?_;rintro e z ⟨rfl,rfl⟩);go_ret;exact⟨z8 C.o.symm,rfl⟩
 |true=>
  cases h1:(n ==0) with
  |false=>
   have C:Hid (noneB k n f s ns its= false):=I (by unfold noneB;rw[h0,h1];rfl);generalize cmpF f 0= cf at*;go_enter Tryz.func129,Tryz.ntmps129;go_wp2_with (go_at_call 123;refine(g.o _).mono ?_;rintro e z ⟨rfl,rfl⟩);go_ret;exact⟨z8 C.o.symm,rfl⟩
  |true=>
   cases h2:(cmpF f 0 ==0) with
   |false=>
    have C:Hid (noneB k n f s ns its= false):=I (by unfold noneB;rw[h0,h1,h2];rfl);generalize cmpF f 0= cf at*;go_enter Tryz.func129,Tryz.ntmps129;go_wp2_with (go_at_call 123;refine(g.o _).mono ?_;rintro e z ⟨rfl,rfl⟩);go_ret;exact⟨z8 C.o.symm,rfl⟩
   |true=>
    cases h3:s.toList.isEmpty with
    |false=>
     have C:Hid (noneB k n f s ns its= false):=I (by unfold noneB;rw[h0,h1,h2,h3];rfl);generalize cmpF f 0= cf at*;go_enter Tryz.func129,Tryz.ntmps129;go_wp2_with (go_at_call 123;refine(g.o _).mono ?_;rintro e z ⟨rfl,rfl⟩);go_ret;exact⟨z8 C.o.symm,rfl⟩
    |true=>
     cases h4:((ns:Int) ==0) with
     |false=>
      have C:Hid (noneB k n f s ns its= false):=I (by unfold noneB;rw[h0,h1,h2,h3,h4];rfl);generalize cmpF f 0= cf at*;go_enter Tryz.func129,Tryz.ntmps129;go_wp2_with (go_at_call 123;refine(g.o _).mono ?_;rintro e z ⟨rfl,rfl⟩);go_ret;exact⟨z8 C.o.symm,rfl⟩
     |true=>
      cases h5:((its:Int) ==0) with
      |false=>
       have C:Hid (noneB k n f s ns its= false):=I (by unfold noneB;rw[h0,h1,h2,h3,h4,h5];rfl);generalize cmpF f 0= cf at*;go_enter Tryz.func129,Tryz.ntmps129;go_wp2_with (go_at_call 123;refine(g.o _).mono ?_;rintro e z ⟨rfl,rfl⟩);go_ret;exact⟨z8 C.o.symm,rfl⟩
      |true=>
       have C:Hid (noneB k n f s ns its= true):=I (by unfold noneB;rw[h0,h1,h2,h3,h4,h5];rfl);generalize cmpF f 0= cf at*;go_enter Tryz.func129,Tryz.ntmps129;go_wp2_with (go_at_call 123;refine(g.o _).mono ?_;rintro e z ⟨rfl,rfl⟩);go_ret;exact⟨z8 C.o.symm,rfl⟩
end
section
open Go Go.RowKit
def riseF:Option ByteArray->List ByteArray->Bool
 |_,[]=>true
 |none,s::l=>z0g s && riseF (some s) l
 |some p,s::l=>z0g s && (Op.bytesLess p.toList s.toList && riseF (some s) l)
theorem z8p {l:List ByteArray} {s:ByteArray} (h:l[0]?= some s):riseF (prevK l 0) (l.drop 0)=(z0g s && riseF (prevK l 1) (l.drop 1)):=by
 rw[z0c h];show(z0g s && riseF (some s) (l.drop 1))= _;unfold prevK;simp[h]
theorem z9B {l:List ByteArray} {k:Nat} {p s:ByteArray} (hp:l[k]?= some p) (h:l[k+1]?= some s):riseF (prevK l (k+1)) (l.drop (k+1))=(z0g s && (Op.bytesLess p.toList s.toList && riseF (prevK l (k+2)) (l.drop (k+2)))):=by
 rw[z0c h];have h1:prevK l (k+1)= some p:=by unfold prevK;simp[hp]
 have h2:prevK l (k+2)= some s:=by unfold prevK;simp[h]
 rw[h1,h2];rfl
theorem zbk {l:List ByteArray}:riseF (prevK l l.length) (l.drop l.length)= true:=by
 rw[List.drop_eq_nil_of_le (Nat.le_refl _)];rw[riseF]
def zM (k:Int) (s:ByteArray) (ns:List ByteArray) (nk:Nat):Bool:=
 if k= 2 then !wordB s && (z0g s && ((ns.length:Int) ==0))
 else if k= 18 then z0g s && ((ns.length:Int) ==0)
 else if k= 17 then riseF none ns && (s.toList.isEmpty && ((ns.length:Int) ==(nk:Int)))
 else s.toList.isEmpty && ((ns.length:Int) ==0)
theorem zee (p o:Nat) (sx:ByteArray) (v0 v1 v2 v3 v4 v5:Value) (A K:Option Addr) (c nk kc:Nat) (l:List ByteArray) (w:World) (hr:w.rangeAt p o [.int .i64 18,.string sx,v0,v1,v2,v3,v4,v5,.slice A l.length c,.slice K nk kc]) (hv:SlAt w w.heap.size 1 StrR (.slice A l.length c) l):
  Calls Tryz.prog 127 #[.pointer (some ⟨p,o,none⟩)] w fun e w'=>e= .returned (.bool (zM (18) sx l nk))/\Below w.heap.size w w':=by
 have d0:w.cell? ⟨p,o,none⟩= some (.int .i64 18):=hr 0 _ rfl;have d1:w.cell? ⟨p,o+1,none⟩= some (.string sx):=hr 1 _ rfl;have d8:w.cell? ⟨p,o+8,none⟩= some (.slice A l.length c):=hr 8 _ rfl;have d9:w.cell? ⟨p,o+9,none⟩= some (.slice K nk kc):=hr 9 _ rfl;have F:Hid (p < w.heap.size):=I (z2b d0);have O:=I d8;clear hr hv d8;have d8:=O.o;have g:=I (fun w=>z3n sx w);cases hf:z0g sx with
 |false=>
  have N:Hid (zM 18 sx l nk= false):=I (by unfold zM;rw[if_neg (by decide),if_pos rfl];rw[hf];rfl);rw[hf] at g
  skip
  clear hf;go_enter Tryz.func127,Tryz.ntmps127;go_wp2_with (go_at_call 145;refine(g.o _).mono ?_;rintro e z ⟨rfl,C⟩;have G:=I C;have e8:=(C.cell (p:=⟨p,o+8,none⟩) F.o).trans O.o;clear C);go_ret;exact⟨z8 N.o.symm,G.o⟩
 |true=>
  cases hl:((l.length:Int) ==0) with
  |true=>
   have N:Hid (zM 18 sx l nk= true):=I (by unfold zM;rw[if_neg (by decide),if_pos rfl];rw[hf,hl];rfl);rw[hf] at g
   skip
   clear hf;go_enter Tryz.func127,Tryz.ntmps127;go_wp2_with (go_at_call 145;refine(g.o _).mono ?_;rintro e z ⟨rfl,C⟩;have G:=I C;have e8:=(C.cell (p:=⟨p,o+8,none⟩) F.o).trans O.o;clear C);go_ret;exact⟨z8 N.o.symm,G.o⟩
  |false=>
   have N:Hid (zM 18 sx l nk= false):=I (by unfold zM;rw[if_neg (by decide),if_pos rfl];rw[hf,hl];rfl);rw[hf] at g
   skip
   clear hf;go_enter Tryz.func127,Tryz.ntmps127;go_wp2_with (go_at_call 145;refine(g.o _).mono ?_;rintro e z ⟨rfl,C⟩;have G:=I C;have e8:=(C.cell (p:=⟨p,o+8,none⟩) F.o).trans O.o;clear C);go_ret;exact⟨z8 N.o.symm,G.o⟩
theorem zeT (p o:Nat) (sx:ByteArray) (v0 v1 v2 v3 v4 v5:Value) (A K:Option Addr) (c nk kc:Nat) (l:List ByteArray) (w:World) (hr:w.rangeAt p o [.int .i64 2,.string sx,v0,v1,v2,v3,v4,v5,.slice A l.length c,.slice K nk kc]) (hv:SlAt w w.heap.size 1 StrR (.slice A l.length c) l):
  Calls Tryz.prog 127 #[.pointer (some ⟨p,o,none⟩)] w fun e w'=>e= .returned (.bool (zM (2) sx l nk))/\Below w.heap.size w w':=by
 have d0:w.cell? ⟨p,o,none⟩= some (.int .i64 2):=hr 0 _ rfl;have d1:w.cell? ⟨p,o+1,none⟩= some (.string sx):=hr 1 _ rfl;have d8:w.cell? ⟨p,o+8,none⟩= some (.slice A l.length c):=hr 8 _ rfl;have d9:w.cell? ⟨p,o+9,none⟩= some (.slice K nk kc):=hr 9 _ rfl;have G:Hid (p < w.heap.size):=I (z2b d0);have X:=I d8;clear hr hv d8;have d8:=X.o;have g:=I (fun w=>z6G sx w);cases hw:wordB sx with
 |true=>
  have N:Hid (zM 2 sx l nk= false):=I (by unfold zM;rw[if_pos rfl,hw];rfl);rw[hw] at g;clear hw;go_enter Tryz.func127,Tryz.ntmps127;go_wp2_with (go_at_call 60;refine(g.o _).mono ?_;rintro e z ⟨rfl,rfl⟩);go_ret;exact⟨z8 N.o.symm,Below.refl _ _⟩
 |false=>
  have C:=I (fun w=>z3n sx w);cases hf:z0g sx with
  |false=>
   have N:Hid (zM 2 sx l nk= false):=I (by unfold zM;rw[if_pos rfl];rw[hw,hf];rfl);rw[hf] at C;rw[hw] at g;clear hf hw;go_enter Tryz.func127,Tryz.ntmps127;go_wp2_with (first|(go_at_call 145;refine(C.o _).mono ?_;rintro e z ⟨rfl,F⟩;have O:=I F;have e8:=(F.cell (p:=⟨p,o+8,none⟩) G.o).trans X.o;clear F)|(go_at_call 60;refine(g.o _).mono ?_;rintro e z ⟨rfl,rfl⟩));go_ret;exact⟨z8 N.o.symm,O.o⟩
  |true=>
   cases hl:((l.length:Int) ==0) with
   |true=>
    have N:Hid (zM 2 sx l nk= true):=I (by unfold zM;rw[if_pos rfl];rw[hw,hf,hl];rfl);rw[hf] at C;rw[hw] at g;clear hf hw;go_enter Tryz.func127,Tryz.ntmps127;go_wp2_with (first|(go_at_call 145;refine(C.o _).mono ?_;rintro e z ⟨rfl,F⟩;have O:=I F;have e8:=(F.cell (p:=⟨p,o+8,none⟩) G.o).trans X.o;clear F)|(go_at_call 60;refine(g.o _).mono ?_;rintro e z ⟨rfl,rfl⟩));go_ret;exact⟨z8 N.o.symm,O.o⟩
   |false=>
    have N:Hid (zM 2 sx l nk= false):=I (by unfold zM;rw[if_pos rfl];rw[hw,hf,hl];rfl);rw[hf] at C;rw[hw] at g;clear hf hw;go_enter Tryz.func127,Tryz.ntmps127;go_wp2_with (first|(go_at_call 145;refine(C.o _).mono ?_;rintro e z ⟨rfl,F⟩;have O:=I F;have e8:=(F.cell (p:=⟨p,o+8,none⟩) G.o).trans X.o;clear F)|(go_at_call 60;refine(g.o _).mono ?_;rintro e z ⟨rfl,rfl⟩));go_ret;exact⟨z8 N.o.symm,O.o⟩
theorem zeS (k:Int) (h2:k≠2) (h17:k≠17) (h18:k≠18) (p o:Nat) (sx:ByteArray) (v0 v1 v2 v3 v4 v5:Value) (A K:Option Addr) (c nk kc:Nat) (l:List ByteArray) (w:World) (hr:w.rangeAt p o [.int .i64 k,.string sx,v0,v1,v2,v3,v4,v5,.slice A l.length c,.slice K nk kc]) (hv:SlAt w w.heap.size 1 StrR (.slice A l.length c) l):
  Calls Tryz.prog 127 #[.pointer (some ⟨p,o,none⟩)] w fun e w'=>e= .returned (.bool (zM k sx l nk))/\Below w.heap.size w w':=by
 have d0:w.cell? ⟨p,o,none⟩= some (.int .i64 k):=hr 0 _ rfl;have d1:w.cell? ⟨p,o+1,none⟩= some (.string sx):=hr 1 _ rfl;have d8:w.cell? ⟨p,o+8,none⟩= some (.slice A l.length c):=hr 8 _ rfl;have d9:w.cell? ⟨p,o+9,none⟩= some (.slice K nk kc):=hr 9 _ rfl;have F:Hid (p < w.heap.size):=I (z2b d0);have G:=I d8;have e2:(k ==2)= false:=by rw[beq_eq_false_iff_ne];exact h2
 have e17:(k ==17)= false:=by rw[beq_eq_false_iff_ne];exact h17
 have e18:(k ==18)= false:=by rw[beq_eq_false_iff_ne];exact h18
 have C:Hid (zM k sx l nk=(sx.toList.isEmpty && ((l.length:Int) ==0))):=I (by unfold zM;rw[if_neg h2,if_neg h18,if_neg h17]);clear hr hv h2 h17 h18;cases hs:sx.toList.isEmpty with
 |false=>
  have g:=I (C.o.trans (by rw[hs];rfl:_= false));go_enter Tryz.func127,Tryz.ntmps127;go_wp2;go_ret;exact⟨z8 g.o.symm,Below.refl _ _⟩
 |true=>
  cases hl:((l.length:Int) ==0) with
  |false=>
   have g:=I (C.o.trans (by rw[hs,hl];rfl:_= false));go_enter Tryz.func127,Tryz.ntmps127;go_wp2;go_ret;exact⟨z8 g.o.symm,Below.refl _ _⟩
  |true=>
   have g:=I (C.o.trans (by rw[hs,hl];rfl:_= true));go_enter Tryz.func127,Tryz.ntmps127;go_wp2;go_ret;exact⟨z8 g.o.symm,Below.refl _ _⟩
theorem zed (p o:Nat) (sx:ByteArray) (v0 v1 v2 v3 v4 v5:Value) (A K:Option Addr) (c nk kc:Nat) (l:List ByteArray) (w:World) (hr:w.rangeAt p o [.int .i64 17,.string sx,v0,v1,v2,v3,v4,v5,.slice A l.length c,.slice K nk kc]) (hv:SlAt w w.heap.size 1 StrR (.slice A l.length c) l):
  Calls Tryz.prog 127 #[.pointer (some ⟨p,o,none⟩)] w fun e w'=>e= .returned (.bool (zM (17) sx l nk))/\Below w.heap.size w w':=by
 have d0:w.cell? ⟨p,o,none⟩= some (.int .i64 17):=hr 0 _ rfl;have d1:w.cell? ⟨p,o+1,none⟩= some (.string sx):=hr 1 _ rfl;have d8:w.cell? ⟨p,o+8,none⟩= some (.slice A l.length c):=hr 8 _ rfl;have d9:w.cell? ⟨p,o+9,none⟩= some (.slice K nk kc):=hr 9 _ rfl;have a1:Hid (p < w.heap.size):=I (z2b d0);have D8:=I d8;obtain⟨_,hl,ha⟩:=z1A hv;have HA:=I ha;have H1:=I (fun s=>z8p (l:=l) (s:=s));have H2:=I (fun k p s=>z9B (l:=l) (k:=k) (p:=p) (s:=s));have HE:=I (zbk (l:=l));have HU:Hid (zM 17 sx l nk=(riseF none l && (sx.toList.isEmpty && ((l.length:Int) ==(nk:Int))))):=I (by unfold zM;rw[if_neg (by decide),if_neg (by decide),if_pos rfl]);have H0:Hid (riseF (prevK l 0) (l.drop 0)= riseF none l):=I rfl;have e4:(l.length:Int)<=9223372036854775807:=by omega
 have D1:=I d1;have D9:=I d9;clear ha hv hr;obtain⟨Y,O⟩:∃ Y,riseF none l= Y:=⟨_,rfl⟩;have C:=I O;rw[O] at H0;clear O;go_enter Tryz.func127,Tryz.ntmps127;go_upto_region 9 with (fail);go_loopg [38] l.length (fun q x u=>∃ k:Nat,k+q= l.length/\x= .int .i64 k/\Below w.heap.size w u/\riseF (prevK l k) (l.drop k)= Y);case atStart=>exact⟨0,by omega,rfl,Below.refl _ _,H0.o⟩
 case round=>
  obtain⟨k,hk,rfl,hb,a3⟩:=hrel;have HR:=I a3;have g:=I hb;clear a3 hb;cases gk with
  |zero=>
   obtain rfl:k= l.length:=by omega
   have e2: ¬ ((l.length:Int) <(l.length:Int)):=by omega
   have X:=I (HR.o.symm.trans HE.o);have x1:=(g.o.cell (p:=⟨p,o+1,none⟩) a1.o).trans D1.o;have x8:=(g.o.cell (p:=⟨p,o+8,none⟩) a1.o).trans D8.o;have x9:=(g.o.cell (p:=⟨p,o+9,none⟩) a1.o).trans D9.o;clear HR;cases hs:sx.toList.isEmpty with
   |false=>
    have a2:Hid (zM 17 sx l nk= false):=I (by rw[HU.o,C.o,X.o,hs];rfl);go_upto_region 14 with (fail);go_quiet (fail);go_wp2;go_ret;exact⟨z8 a2.o.symm,g.o.trans ⟨rfl,rfl,rfl,Nat.le_refl _,fun _ _=>rfl⟩⟩
   |true=>
    cases hl:((l.length:Int) ==(nk:Int)) with
    |false=>
     have a2:Hid (zM 17 sx l nk= false):=I (by rw[HU.o,C.o,X.o,hs,hl];rfl);go_upto_region 14 with (fail);go_quiet (fail);go_wp2;go_ret;exact⟨z8 a2.o.symm,g.o.trans ⟨rfl,rfl,rfl,Nat.le_refl _,fun _ _=>rfl⟩⟩
    |true=>
     have a2:Hid (zM 17 sx l nk= true):=I (by rw[HU.o,C.o,X.o,hs,hl];rfl);go_upto_region 14 with (fail);go_quiet (fail);go_wp2;go_ret;exact⟨z8 a2.o.symm,g.o.trans ⟨rfl,rfl,rfl,Nat.le_refl _,fun _ _=>rfl⟩⟩
  |succ q=>
   have e5:(k:Int) <(l.length:Int):=by omega
   obtain⟨s,hs⟩:∃ s,l[k]?= some s:=⟨_,List.getElem?_eq_getElem (by omega)⟩;obtain⟨b,oo,rfl,a5,hc⟩:=HA.o (by omega);have b6:=I (fun i x hx=>(hc i x hx).1);have a9:=I a5;have ds:=(g.o.cell (p:=⟨b,oo+k,none⟩) a5).trans (hc k s hs).1;have a0:=I (z3n s wr);have b1:=I hs;clear hc a5 hs;rcases Nat.eq_zero_or_pos k with b2|b2
   ·subst b2
    have e1:wr.cell? ⟨b,oo,none⟩= some (.string s):=ds;have c7:(0:Int) <(l.length:Int):=by omega
    have X:=I (HR.o.symm.trans (H1.o s b1.o));clear HR;generalize z0g s= nb at*;cases nb with
    |false=>
     have N:Hid (Y= false):=I (X.o.trans (Bool.false_and _));clear X;go_wp2_with (go_at_call 145;refine zi a0.o ?_;intro z F);go_ret;exact⟨z8 (by rw[HU.o,C.o,N.o];rfl),(beT g.o F.o)⟩
    |true=>
     have N:=I (X.o.trans (Bool.true_and _));clear X;go_wp2_with (go_at_call 145;refine zi a0.o ?_;intro z F);go_roundg q;case measure=>omega
     case rel=>exact⟨1,by omega,by go_num,(beT g.o F.o),N.o.symm⟩
   ·obtain⟨j,rfl⟩:∃ j,k= j+1:=⟨k - 1,by omega⟩
    obtain⟨pn,hp⟩:∃ pn,l[j]?= some pn:=⟨_,List.getElem?_eq_getElem (by omega)⟩;have X:=I (HR.o.symm.trans (H2.o j pn s hp b1.o));have b0:=I (b6.o j pn hp);have c8:(0:Int) <((j+1:Nat):Int):=by omega
    have e3:(j:Int) <(l.length:Int):=by omega
    clear HR hp;generalize z0g s= nb at*;cases nb with
    |false=>
     have N:Hid (Y= false):=I (X.o.trans (Bool.false_and _));clear X;go_wp2_with (go_at_call 145;refine zi a0.o ?_;intro z F);go_ret;exact⟨z8 (by rw[HU.o,C.o,N.o];rfl),(beT g.o F.o)⟩
    |true=>
     have N:=I (X.o.trans (Bool.true_and _));clear X;cases hlt3:Op.bytesLess pn.toList s.toList with
     |false=>
      have a4:Hid (Y= false):=I (N.o.trans (by rw[hlt3];exact Bool.false_and _));go_wp2_with (go_at_call 145;refine a0.o.mono ?_;rintro e z ⟨rfl,G⟩;have F:=I G;have x8:=((beT g.o G).cell (p:=⟨p,o+8,none⟩) a1.o).trans D8.o;have dp:=(((beT g.o G).cell (p:=⟨b,oo+j,none⟩) a9.o)).trans b0.o;clear G);go_ret;exact⟨z8 (by rw[HU.o,C.o,a4.o];rfl),(beT g.o F.o)⟩
     |true=>
      have a4:=I (N.o.trans (by rw[hlt3,Bool.true_and]));go_wp2_with (go_at_call 145;refine a0.o.mono ?_;rintro e z ⟨rfl,G⟩;have F:=I G;have x8:=((beT g.o G).cell (p:=⟨p,o+8,none⟩) a1.o).trans D8.o;have dp:=(((beT g.o G).cell (p:=⟨b,oo+j,none⟩) a9.o)).trans b0.o;clear G);go_roundg q;case measure=>omega
      case rel=>exact⟨j+2,by omega,by go_num,(beT g.o F.o),a4.o.symm⟩
theorem zaZ (k:Int) (p o:Nat) (sx:ByteArray) (v0 v1 v2 v3 v4 v5:Value) (A K:Option Addr) (c nk kc:Nat) (l:List ByteArray) (w:World) (hr:w.rangeAt p o [.int .i64 k,.string sx,v0,v1,v2,v3,v4,v5,.slice A l.length c,.slice K nk kc]) (hv:SlAt w w.heap.size 1 StrR (.slice A l.length c) l):
  Calls Tryz.prog 127 #[.pointer (some ⟨p,o,none⟩)] w fun e w'=>e= .returned (.bool (zM k sx l nk))/\Below w.heap.size w w':=by
 rcases Classical.em (k= 2) with rfl|h2
 ·exact zeT p o sx v0 v1 v2 v3 v4 v5 A K c nk kc l w hr hv
 rcases Classical.em (k= 17) with rfl|h17
 ·exact zed p o sx v0 v1 v2 v3 v4 v5 A K c nk kc l w hr hv
 rcases Classical.em (k= 18) with rfl|h18
 ·exact zee p o sx v0 v1 v2 v3 v4 v5 A K c nk kc l w hr hv
 exact zeS k h2 h17 h18 p o sx v0 v1 v2 v3 v4 v5 A K c nk kc l w hr hv
end
section
open Go Go.RowKit
theorem sc3 (a b c:Bool):a= false\/(a= true/\b= false)\/(a= true/\b= true/\c= false)\/(a= true/\b= true/\c= true):=by cases a<;>cases b<;>cases c<;>simp
end
section
open Go Go.RowKit
theorem zf0:∀ (x:TT) (far:Nat) (cs:List Value) (w:World),far<=40->TypAt w w.heap.size cs x->Calls Tryz.prog 28 #[.agg ⟨cs⟩,.int .i64 far] w (zdF w):=by
 intro x
 induction x using TT.ind with
 |h k ns its ih=>
  intro far cs w a9 hv;obtain⟨X,vi,rfl,_,_,_,hi⟩:=hv.inv;obtain⟨A,c,rfl,b9,hA⟩:=z1t hi;have HA:=I hA;have IH:=I ih;clear hA hv ih hi;go_enter Tryz.func28,Tryz.ntmps28;go_upto_region 1 with (fail);have K:=zc w (.cells ⟨[.int .i64 k,X,.slice A its.length c]⟩ 41);have O:=zV w (.cells ⟨[.int .i64 k,X,.slice A its.length c]⟩ 41);have c5:=zH w ⟨[.int .i64 k,X,.slice A its.length c]⟩ 41 2;generalize w.alloc (.cells ⟨[.int .i64 k,X,.slice A its.length c]⟩ 41)= W at*;have Y:=I K;have C5:=I c5;have a2:=I O;clear K c5 O;go_wp2;go_loopg [5,6] its.length (fun g m i wr=>∃ (j:Nat) (x:Int),j+g= its.length/\i= .int .i64 j/\m= .int .i64 x/\Below W.heap.size W wr);case atStart=>exact⟨0,0,by omega,rfl,rfl,Below.refl _ _⟩
  case round=>
   obtain⟨j,x,hj,rfl,rfl,G⟩:=hrel;have C:=I G;have d5:=(G.cell (p:=⟨w.heap.size,2,none⟩) a2.o).trans C5.o;clear G;simp only[List.getElem?_toArray,List.getElem?_cons_succ,List.getElem?_cons_zero] at d5;cases gk with
   |zero=>
    have b8: ¬ ((j:Int) <(its.length:Int)):=by omega
    go_wp2;go_ret;exact⟨_,rfl,(beT Y.o C.o)⟩
   |succ g=>
    have c4:(j:Int) <(its.length:Int):=by omega
    by_cases h0:far= 0
    ·subst h0
     go_wp2;go_ret;exact⟨_,rfl,(beT Y.o C.o)⟩
    ·have b1:(0:Int) <(far:Int):=by omega
     obtain⟨y,hy⟩:∃ y,its[j]?= some y:=⟨_,List.getElem?_eq_getElem (by omega)⟩;obtain⟨b,o,rfl,a4,hc⟩:=HA.o (by omega);obtain⟨cs,hr,hR⟩:=hc j y hy;have F:=(beT Y.o C.o);have HR:=I (zb hr F a4);have HC:=I (IH.o y (List.mem_of_getElem? hy) (far - 1) cs wr (by omega) (hR.next F));have a1:=I (zl hR);have N:((far - 1:Nat):Int)=(far:Int) - 1:=by omega
     clear hc hr hR F hy h0;rw[N] at HC;clear N;go_wp2_with (first|((with_reducible refine za tyK41 _ rfl ?_ HR.o rfl a1.o.1 ?_);exact wA rfl)|(go_at_call 28;refine HC.o.mono ?_;rintro e w' ⟨z,rfl,G⟩;have a0:=I G;clear G));all_goals
      go_roundg g;case measure=>omega
      case rel=>exact⟨j+1,_,by omega,by go_num,rfl,(beT C.o a0.o)⟩
theorem z9L:∀ (t:TT) (m:Nat) (cs:List Value) (w:World),m < 500->TypAt w w.heap.size cs t->
  Calls Tryz.prog 48 #[.agg ⟨cs⟩,.int .i64 m] w fun e w'=>e= .returned (.int .i64 (cntT t m:Nat))/\Below w.heap.size w w':=by
 intro t
 induction t using TT.ind with
 |h k ns its ih=>
  intro m cs w hm hv;have IH:=I ih;obtain⟨vn,vi,rfl,_,_,_,hi⟩:=hv.inv;obtain⟨A,c,rfl,d6,hA⟩:=z1t hi;have HA:=I hA;have HS:=I (fun k m x=>z4R (l:=its) (k:=k) (m:=m) (x:=x));have HE:=I (fun m=>z65 (l:=its) (m:=m));have a5:=I (fun x m hm=>z8H x m hm);have a3:Hid (∀ k m,500<=m->cntTL (its.drop k) m= m):=I (fun k m h=>by
   cases its.drop k with
   |nil=>rw[cntTL]
   |cons a l=>rw[cntTL,if_pos h])
  have H0:Hid (cntTL (its.drop 0) (m+1)= cntT (.mk k ns its) m):=I (by rw[cntT];rfl);clear ih hi hA hv;generalize cntT (.mk k ns its) m= res at*;go_enter Tryz.func48,Tryz.ntmps48;go_upto_region 1 with (fail);have O:=zc w (.cells ⟨[.int .i64 k,vn,.slice A its.length c]⟩ 41);have X:=zV w (.cells ⟨[.int .i64 k,vn,.slice A its.length c]⟩ 41);have c5:=zH w ⟨[.int .i64 k,vn,.slice A its.length c]⟩ 41 2;generalize w.alloc (.cells ⟨[.int .i64 k,vn,.slice A its.length c]⟩ 41)= W at*;have HB:=I O;have C5:=I c5;have a8:=I X;clear O c5 X;have d8:(m:Int) < 500:=by omega
  go_wp2;go_loopg [1,5] its.length (fun g u i wr=>∃ (j m:Nat),j+g= its.length/\i= .int .i64 j/\u= .int .i64 m/\m<=500/\Below W.heap.size W wr/\cntTL (its.drop j) m= res);case atStart=>exact⟨0,m+1,by omega,rfl,by go_num,by omega,Below.refl _ _,H0.o⟩
  case round=>
   obtain⟨j,m,hj,rfl,rfl,d9,hb,F⟩:=hrel;have C:=I hb;have HR:=I F;have d5:=(hb.cell (p:=⟨w.heap.size,2,none⟩) a8.o).trans C5.o;clear hb F;simp only[List.getElem?_toArray,List.getElem?_cons_succ,List.getElem?_cons_zero] at d5;have b9:(m:Int)<=500:=by omega
   cases gk with
   |zero=>
    obtain rfl:j= its.length:=by omega
    have d4: ¬ ((its.length:Int) <(its.length:Int)):=by omega
    have N:=I (HR.o.symm.trans (HE.o m));go_wp2;go_ret;exact⟨by rw[N.o];go_num,(beT HB.o C.o)⟩
   |succ g=>
    have d7:(j:Int) <(its.length:Int):=by omega
    by_cases h0:m < 500
    ·obtain⟨y,Y⟩:∃ y,its[j]?= some y:=⟨_,List.getElem?_eq_getElem (by omega)⟩
     obtain⟨b,o,rfl,b3,hc⟩:=HA.o (by omega);obtain⟨cs,hr,hR⟩:=hc j y Y;have G:=(beT HB.o C.o);have N:=I (HR.o.symm.trans (HS.o j m y Y));have a9:=I (N.o.trans (if_neg (by omega)));have a7:=I (zb hr G b3);have HC:=I (IH.o y (List.mem_of_getElem? Y) m cs wr h0 (hR.next G));have a4:=I (zl hR);have b4:=a5.o y m h0;have b0:(m:Int) < 500:=by omega
     clear hc hr hR G Y N h0;go_wp2_with (first|((with_reducible refine za tyK41 _ rfl ?_ a7.o rfl a4.o.1 ?_);exact wA rfl)|(go_at_call 48;refine zi HC.o ?_;intro w' a2));go_roundg g;case measure=>omega
     case rel=>exact⟨j+1,_,by omega,by go_num,rfl,b4,(beT C.o a2.o),a9.o.symm⟩
    ·have N:=I (HR.o.symm.trans (a3.o j m (by omega)))
     have b0: ¬ ((m:Int) < 500):=by omega
     have K:m= 500:=by omega
     go_wp2;all_goals
      go_ret;exact⟨by rw[N.o,K];rfl,(beT HB.o C.o)⟩
theorem z5x (t:TT) (cs:List Value) (w:World) (hv:TypAt w w.heap.size cs t):Calls Tryz.prog 29 #[.agg ⟨cs⟩] w fun e w'=>e= .returned (.int .i64 (cntT t 0:Nat))/\Below w.heap.size w w':=by
 have A:=I (zl hv);have K:=I hv;clear hv;go_enter Tryz.func29,Tryz.ntmps29;go_upto_region 1 with (fail);have C:=I (zc w (.cells ⟨cs⟩ 41));have G:=I (zL w cs 41);generalize w.alloc (.cells ⟨cs⟩ 41)= W at*;have F:=I (z9L t 0 cs W (by omega) (K.o.next C.o));go_wp2_with (first|((with_reducible refine za tyK41 _ rfl ?_ G.o rfl A.o.1 ?_);exact wA rfl)|(go_at_call 48;refine zi F.o ?_;intro w' g));go_ret;exact⟨rfl,(beT C.o g.o)⟩
theorem zf1 (x:TT) (cs:List Value) (w:World) (hv:TypAt w w.heap.size cs x):Calls Tryz.prog 10 #[.agg ⟨cs⟩] w (zcf w):=by
 have A:=I (zl hv);have HV:=I hv;clear hv;go_enter Tryz.func10,Tryz.ntmps10;go_upto_region 1 with (fail);have O:=I (zc w (.cells ⟨cs⟩ 41));have Y:=I (zL w cs 41);have K:=I (zV w (.cells ⟨cs⟩ 41));generalize w.alloc (.cells ⟨cs⟩ 41)= W at*;have X:=I (zf0 x 40 cs W (by omega) (HV.o.next O.o));go_wp2_with (first|((with_reducible refine za tyK41 _ rfl ?_ Y.o rfl A.o.1 ?_);exact wA rfl)|(go_at_call 28;fail));refine X.o.mono ?_;rintro e w2 ⟨z,rfl,N⟩;have g:=I (beT O.o N);have G:=I (zb Y.o N K.o);have F:=I (z5x x cs w2 (HV.o.next g.o));clear N X;by_cases hz:z<=30
 ·go_wp2_with (first|((with_reducible refine za tyK41 _ rfl ?_ G.o rfl A.o.1 ?_);exact wA rfl)|(go_at_call 29;refine zi F.o ?_;intro w' C))
  all_goals
   go_ret;exact⟨_,rfl,(beT g.o C.o)⟩
 ·go_wp2
  all_goals
   go_ret;exact⟨_,rfl,g.o⟩
theorem z9P:∀ (t:TT) (far d:Nat) (cs:List Value) (w:World),far+d= 13->TypAt w w.heap.size cs t->
  Calls Tryz.prog 53 #[.agg ⟨cs⟩,.int .i64 far] w fun e w'=>e= .returned (.bool (zE t d))/\Below w.heap.size w w':=by
 intro t
 induction t using TT.ind with
 |h k ns its ih=>
  intro far d cs w e9 hv;have IH:=I ih;obtain⟨vn,vi,rfl,_,hn,_,hi⟩:=hv.inv;obtain⟨_,NA,nc,rfl,_⟩:=id hn;obtain⟨A,c,rfl,f0,hA⟩:=z1t hi;have f2:=hn.1;have HN:=I hn;have HA:=I hA;have e3:far<=13:=by omega
  have e4:d= 13 - far:=by omega
  have HO:Hid (zE (.mk k ns its) d= if 12 < d then false
   else if k= 5 then(its.length ==1) && ((ns.length ==0) && z0a its (d+1))
   else if k= 6 then(ns.length ==its.length) && (riseB none ns && z0a its (d+1))
   else if k= 1\/k= 2\/k= 3\/k= 4\/k= 7 then(ns.length ==0) && (its.length ==0)
   else false):=I (by rw[zE])
  generalize a0:zE (.mk k ns its) d= res at*;have O:=I (zc w (.cells ⟨[.int .i64 k,.slice NA ns.length nc,.slice A its.length c]⟩ 41));have c6:=I (zV w (.cells ⟨[.int .i64 k,.slice NA ns.length nc,.slice A its.length c]⟩ 41));have g:=I (zL w [.int .i64 k,.slice NA ns.length nc,.slice A its.length c] 41);clear ih hv hn hi hA a0;by_cases hdeep:far= 0
  ·subst hdeep
   have N:Hid (res= false):=I (HO.o.trans (if_pos (by omega)));have t1:((0:Nat):Int) < 1:=by omega
   clear HO
   (try clear hi0);(try clear C);(try clear F)
   go_enter Tryz.func53,Tryz.ntmps53;go_upto_region 1 with (fail);generalize w.alloc (.cells ⟨[.int .i64 k,.slice NA ns.length nc,.slice A its.length c]⟩ 41)= W at*;have d0:W.cell? ⟨w.heap.size,0,none⟩= some (.int .i64 k):=by have:=g.o 0 _ rfl;simpa using this
   have d1:W.cell? ⟨w.heap.size,1,none⟩= some (.slice NA ns.length nc):=by have:=g.o 1 _ rfl;simpa using this
   have d2:W.cell? ⟨w.heap.size,2,none⟩= some (.slice A its.length c):=by have:=g.o 2 _ rfl;simpa using this
   go_wp2;go_ret;exact⟨z8 N.o.symm,O.o⟩
  have t1: ¬ ((far:Int) < 1):=by omega
  have b4:=I (HO.o.trans (if_neg (by omega)));clear HO;by_cases k5:k= 5
  ·subst k5
   have X:=I (b4.o.trans (if_pos rfl));clear b4;by_cases F:its.length= 1
   ·have j1:((its.length:Int) ==1)= true:=by rw[F];rfl
    have b2:(its.length ==1)= true:=by rw[F];rfl
    have j2:((its.length:Int) !=1)= false:=by rw[F];rfl
    by_cases C:ns.length= 0
    ·have m1:((ns.length:Int) ==0)= true:=by rw[C];rfl
     have K:(ns.length ==0)= true:=by rw[C];rfl
     have m2:((ns.length:Int) !=0)= false:=by rw[C];rfl
     have d5:=I C;have d4:=I F;have N:Hid (res= z0a its (d+1)):=I (by rw[X.o];simp[K,b2]);clear m1 K m2 j1 b2 j2
     (try clear hi0);(try clear C);(try clear F)
     go_enter Tryz.func53,Tryz.ntmps53;go_upto_region 1 with (fail);generalize w.alloc (.cells ⟨[.int .i64 5,.slice NA ns.length nc,.slice A its.length c]⟩ 41)= W at*;have d0:W.cell? ⟨w.heap.size,0,none⟩= some (.int .i64 5):=by have:=g.o 0 _ rfl;simpa using this
     have d1:W.cell? ⟨w.heap.size,1,none⟩= some (.slice NA ns.length nc):=by have:=g.o 1 _ rfl;simpa using this
     have d2:W.cell? ⟨w.heap.size,2,none⟩= some (.slice A its.length c):=by have:=g.o 2 _ rfl;simpa using this
     have D5:=I d2;have C:=d5.o;rw[C] at d1;have F:=d4.o;rw[F] at d2;clear C F;go_wp2;clear d2;go_loopg [5] its.length (fun q x u=>∃ j:Nat,j+q= its.length/\x= .int .i64 j/\Below W.heap.size W u/\z0a (its.drop j) (d+1)= res);case atStart=>exact⟨0,by omega,rfl,Below.refl _ _,N.o.symm⟩
     case round=>
      obtain⟨j,hj,rfl,hb,a0⟩:=hrel;have a9:=I a0;have a3:=I hb;have d6:=(hb.cell (p:=⟨w.heap.size,2,none⟩) c6.o).trans D5.o;clear a0 hb;cases gk with
      |zero=>
       obtain rfl:j= its.length:=by omega
       have d7: ¬ ((its.length:Int) <(its.length:Int)):=by omega
       have b9:=I (a9.o.symm.trans z3l);go_wp2;go_ret;exact⟨z8 b9.o.symm,(beT O.o a3.o)⟩
      |succ q=>
       have d8:(j:Int) <(its.length:Int):=by omega
       obtain⟨x,hx⟩:∃ x,its[j]?= some x:=⟨_,List.getElem?_eq_getElem (by omega)⟩;obtain⟨b,o',rfl,c5,hc⟩:=HA.o (by omega);obtain⟨ks,b1,a6⟩:=hc j x hx;have a1:=I (a9.o.symm.trans (z2I hx));have a4:=I (beT O.o a3.o);have a8:=I (zb b1 a4.o c5);have a7:=I (zl a6);have HC:=I (IH.o x (List.mem_of_getElem? hx) (far - 1) (d+1) ks wr (by omega) (a6.next a4.o));have b0:((far - 1:Nat):Int)=(far:Int) - 1:=by omega
       rw[b0] at HC;clear hc b1 a6 hx b0;generalize zE x (d+1)= rx at*;cases rx with
       |true=>
        have a5:=I (a1.o.trans (Bool.true_and _));clear a1;go_wp2_with (first|((with_reducible refine za tyK41 _ rfl ?_ a8.o rfl a7.o.1 ?_);exact wA rfl)|(go_at_call 53;refine zi HC.o ?_;intro z a2));go_roundg q;case measure=>omega
        case rel=>exact⟨j+1,by omega,by go_num,(beT a3.o a2.o),a5.o.symm⟩
       |false=>
        have a5:Hid (res= false):=I (a1.o.trans (Bool.false_and _));clear a1;go_wp2_with (first|((with_reducible refine za tyK41 _ rfl ?_ a8.o rfl a7.o.1 ?_);exact wA rfl)|(go_at_call 53;refine zi HC.o ?_;intro z a2));go_ret;exact⟨z8 a5.o.symm,(beT a4.o a2.o)⟩
    ·have m1:((ns.length:Int) ==0)= false:=by rw[beq_eq_false_iff_ne];omega
     have K:(ns.length ==0)= false:=by simpa using C
     have m2:((ns.length:Int) !=0)= true:=by rw[bne_iff_ne];omega
     have N:Hid (res= false):=I (by rw[X.o];simp[K,b2])
     (try clear hi0);(try clear C);(try clear F)
     go_enter Tryz.func53,Tryz.ntmps53;go_upto_region 1 with (fail);generalize w.alloc (.cells ⟨[.int .i64 5,.slice NA ns.length nc,.slice A its.length c]⟩ 41)= W at*;have d0:W.cell? ⟨w.heap.size,0,none⟩= some (.int .i64 5):=by have:=g.o 0 _ rfl;simpa using this
     have d1:W.cell? ⟨w.heap.size,1,none⟩= some (.slice NA ns.length nc):=by have:=g.o 1 _ rfl;simpa using this
     have d2:W.cell? ⟨w.heap.size,2,none⟩= some (.slice A its.length c):=by have:=g.o 2 _ rfl;simpa using this
     go_wp2;go_ret;exact⟨z8 N.o.symm,O.o⟩
   ·have b2:(its.length ==1)= false:=by simpa using F
    have j2:((its.length:Int) !=1)= true:=by rw[bne_iff_ne];omega
    have N:Hid (res= false):=I (by rw[X.o];simp[b2])
    (try clear hi0);(try clear C);(try clear F)
    go_enter Tryz.func53,Tryz.ntmps53;go_upto_region 1 with (fail);generalize w.alloc (.cells ⟨[.int .i64 5,.slice NA ns.length nc,.slice A its.length c]⟩ 41)= W at*;have d0:W.cell? ⟨w.heap.size,0,none⟩= some (.int .i64 5):=by have:=g.o 0 _ rfl;simpa using this
    have d1:W.cell? ⟨w.heap.size,1,none⟩= some (.slice NA ns.length nc):=by have:=g.o 1 _ rfl;simpa using this
    have d2:W.cell? ⟨w.heap.size,2,none⟩= some (.slice A its.length c):=by have:=g.o 2 _ rfl;simpa using this
    go_wp2;go_ret;exact⟨z8 N.o.symm,O.o⟩
  have b5:=I (b4.o.trans (if_neg k5));clear b4;by_cases k6:k= 6
  ·subst k6
   have X:=I (b5.o.trans (if_pos rfl));clear b5;have b3:=I (fun z (hz:Below w.heap.size w z)=>z9C (.slice NA ns.length nc) ns its.length z ((HN.o.below hz fun _ _ _ h=>h).more hz.size));cases hnm:(riseB none ns && (ns.length ==its.length)) with
   |true=>
    have hq:=hnm;rw[Bool.and_eq_true] at hq;obtain⟨q1,q2⟩:=hq;rw[hnm] at b3;have N:Hid (res= z0a its (d+1)):=I (by rw[X.o,q1,q2];simp);clear q1 q2
    (try clear hi0);(try clear C);(try clear F)
    go_enter Tryz.func53,Tryz.ntmps53;go_upto_region 1 with (fail);generalize w.alloc (.cells ⟨[.int .i64 6,.slice NA ns.length nc,.slice A its.length c]⟩ 41)= W at*;have d0:W.cell? ⟨w.heap.size,0,none⟩= some (.int .i64 6):=by have:=g.o 0 _ rfl;simpa using this
    have d1:W.cell? ⟨w.heap.size,1,none⟩= some (.slice NA ns.length nc):=by have:=g.o 1 _ rfl;simpa using this
    have d2:W.cell? ⟨w.heap.size,2,none⟩= some (.slice A its.length c):=by have:=g.o 2 _ rfl;simpa using this
    have D5:=I d2;go_wp2_with (go_at_call 75;refine zi (b3.o _ O.o) ?_;intro z2 b7);clear d2;go_loopg [5] its.length (fun q x u=>∃ j:Nat,j+q= its.length/\x= .int .i64 j/\Below W.heap.size W u/\z0a (its.drop j) (d+1)= res);case atStart=>exact⟨0,by omega,rfl,b7.o,N.o.symm⟩
    case round=>
     obtain⟨j,hj,rfl,hb,a0⟩:=hrel;have a9:=I a0;have a3:=I hb;have d6:=(hb.cell (p:=⟨w.heap.size,2,none⟩) c6.o).trans D5.o;clear a0 hb;cases gk with
     |zero=>
      obtain rfl:j= its.length:=by omega
      have d7: ¬ ((its.length:Int) <(its.length:Int)):=by omega
      have b9:=I (a9.o.symm.trans z3l);go_wp2;go_ret;exact⟨z8 b9.o.symm,(beT O.o a3.o)⟩
     |succ q=>
      have d8:(j:Int) <(its.length:Int):=by omega
      obtain⟨x,hx⟩:∃ x,its[j]?= some x:=⟨_,List.getElem?_eq_getElem (by omega)⟩;obtain⟨b,o',rfl,c5,hc⟩:=HA.o (by omega);obtain⟨ks,b1,a6⟩:=hc j x hx;have a1:=I (a9.o.symm.trans (z2I hx));have a4:=I (beT O.o a3.o);have a8:=I (zb b1 a4.o c5);have a7:=I (zl a6);have HC:=I (IH.o x (List.mem_of_getElem? hx) (far - 1) (d+1) ks wr (by omega) (a6.next a4.o));have b0:((far - 1:Nat):Int)=(far:Int) - 1:=by omega
      rw[b0] at HC;clear hc b1 a6 hx b0;generalize zE x (d+1)= rx at*;cases rx with
      |true=>
       have a5:=I (a1.o.trans (Bool.true_and _));clear a1;go_wp2_with (first|((with_reducible refine za tyK41 _ rfl ?_ a8.o rfl a7.o.1 ?_);exact wA rfl)|(go_at_call 53;refine zi HC.o ?_;intro z a2));go_roundg q;case measure=>omega
       case rel=>exact⟨j+1,by omega,by go_num,(beT a3.o a2.o),a5.o.symm⟩
      |false=>
       have a5:Hid (res= false):=I (a1.o.trans (Bool.false_and _));clear a1;go_wp2_with (first|((with_reducible refine za tyK41 _ rfl ?_ a8.o rfl a7.o.1 ?_);exact wA rfl)|(go_at_call 53;refine zi HC.o ?_;intro z a2));go_ret;exact⟨z8 a5.o.symm,(beT a4.o a2.o)⟩
   |false=>
    rw[hnm] at b3;have N:Hid (res= false):=I (by
     rw[X.o];cases h1:riseB none ns with
     |false=>simp
     |true=>rw[h1,Bool.true_and] at hnm;rw[hnm];simp)
    (try clear hi0);(try clear C);(try clear F)
    go_enter Tryz.func53,Tryz.ntmps53;go_upto_region 1 with (fail);generalize w.alloc (.cells ⟨[.int .i64 6,.slice NA ns.length nc,.slice A its.length c]⟩ 41)= W at*;have d0:W.cell? ⟨w.heap.size,0,none⟩= some (.int .i64 6):=by have:=g.o 0 _ rfl;simpa using this
    have d1:W.cell? ⟨w.heap.size,1,none⟩= some (.slice NA ns.length nc):=by have:=g.o 1 _ rfl;simpa using this
    have d2:W.cell? ⟨w.heap.size,2,none⟩= some (.slice A its.length c):=by have:=g.o 2 _ rfl;simpa using this
    go_wp2_with (go_at_call 75;refine zi (b3.o _ O.o) ?_;intro z2 b7);go_ret;exact⟨z8 N.o.symm,(beT O.o b7.o)⟩
  have Y:=I (b5.o.trans (if_neg k6));clear b5;by_cases k1:k= 1
  ·subst k1
   have X:=I (Y.o.trans (if_pos (by decide)));clear Y;by_cases hi0:its.length= 0
   ·have i1:((its.length:Int) ==0)= true:=by rw[hi0];rfl
    have G:(its.length ==0)= true:=by rw[hi0];rfl
    by_cases C:ns.length= 0
    ·have m1:((ns.length:Int) ==0)= true:=by rw[C];rfl
     have K:(ns.length ==0)= true:=by rw[C];rfl
     have m2:((ns.length:Int) !=0)= false:=by rw[C];rfl
     have N:Hid (res= true):=I (by rw[X.o];simp[K,G])
     (try clear hi0);(try clear C);(try clear F)
     go_enter Tryz.func53,Tryz.ntmps53;go_upto_region 1 with (fail);generalize w.alloc (.cells ⟨[.int .i64 1,.slice NA ns.length nc,.slice A its.length c]⟩ 41)= W at*;have d0:W.cell? ⟨w.heap.size,0,none⟩= some (.int .i64 1):=by have:=g.o 0 _ rfl;simpa using this
     have d1:W.cell? ⟨w.heap.size,1,none⟩= some (.slice NA ns.length nc):=by have:=g.o 1 _ rfl;simpa using this
     have d2:W.cell? ⟨w.heap.size,2,none⟩= some (.slice A its.length c):=by have:=g.o 2 _ rfl;simpa using this
     go_wp2;go_ret;exact⟨z8 N.o.symm,O.o⟩
    ·have m1:((ns.length:Int) ==0)= false:=by rw[beq_eq_false_iff_ne];omega
     have K:(ns.length ==0)= false:=by simpa using C
     have m2:((ns.length:Int) !=0)= true:=by rw[bne_iff_ne];omega
     have N:Hid (res= false):=I (by rw[X.o];simp[K,G])
     (try clear hi0);(try clear C);(try clear F)
     go_enter Tryz.func53,Tryz.ntmps53;go_upto_region 1 with (fail);generalize w.alloc (.cells ⟨[.int .i64 1,.slice NA ns.length nc,.slice A its.length c]⟩ 41)= W at*;have d0:W.cell? ⟨w.heap.size,0,none⟩= some (.int .i64 1):=by have:=g.o 0 _ rfl;simpa using this
     have d1:W.cell? ⟨w.heap.size,1,none⟩= some (.slice NA ns.length nc):=by have:=g.o 1 _ rfl;simpa using this
     have d2:W.cell? ⟨w.heap.size,2,none⟩= some (.slice A its.length c):=by have:=g.o 2 _ rfl;simpa using this
     go_wp2;go_ret;exact⟨z8 N.o.symm,O.o⟩
   ·have i1:((its.length:Int) ==0)= false:=by rw[beq_eq_false_iff_ne];omega
    have G:(its.length ==0)= false:=by simpa using hi0
    have N:Hid (res= false):=I (by rw[X.o];simp[G])
    (try clear hi0);(try clear C);(try clear F)
    go_enter Tryz.func53,Tryz.ntmps53;go_upto_region 1 with (fail);generalize w.alloc (.cells ⟨[.int .i64 1,.slice NA ns.length nc,.slice A its.length c]⟩ 41)= W at*;have d0:W.cell? ⟨w.heap.size,0,none⟩= some (.int .i64 1):=by have:=g.o 0 _ rfl;simpa using this
    have d1:W.cell? ⟨w.heap.size,1,none⟩= some (.slice NA ns.length nc):=by have:=g.o 1 _ rfl;simpa using this
    have d2:W.cell? ⟨w.heap.size,2,none⟩= some (.slice A its.length c):=by have:=g.o 2 _ rfl;simpa using this
    go_wp2;go_ret;exact⟨z8 N.o.symm,O.o⟩
  by_cases k2:k= 2
  ·subst k2
   have X:=I (Y.o.trans (if_pos (by decide)));clear Y;by_cases hi0:its.length= 0
   ·have i1:((its.length:Int) ==0)= true:=by rw[hi0];rfl
    have G:(its.length ==0)= true:=by rw[hi0];rfl
    by_cases C:ns.length= 0
    ·have m1:((ns.length:Int) ==0)= true:=by rw[C];rfl
     have K:(ns.length ==0)= true:=by rw[C];rfl
     have m2:((ns.length:Int) !=0)= false:=by rw[C];rfl
     have N:Hid (res= true):=I (by rw[X.o];simp[K,G])
     (try clear hi0);(try clear C);(try clear F)
     go_enter Tryz.func53,Tryz.ntmps53;go_upto_region 1 with (fail);generalize w.alloc (.cells ⟨[.int .i64 2,.slice NA ns.length nc,.slice A its.length c]⟩ 41)= W at*;have d0:W.cell? ⟨w.heap.size,0,none⟩= some (.int .i64 2):=by have:=g.o 0 _ rfl;simpa using this
     have d1:W.cell? ⟨w.heap.size,1,none⟩= some (.slice NA ns.length nc):=by have:=g.o 1 _ rfl;simpa using this
     have d2:W.cell? ⟨w.heap.size,2,none⟩= some (.slice A its.length c):=by have:=g.o 2 _ rfl;simpa using this
     go_wp2;go_ret;exact⟨z8 N.o.symm,O.o⟩
    ·have m1:((ns.length:Int) ==0)= false:=by rw[beq_eq_false_iff_ne];omega
     have K:(ns.length ==0)= false:=by simpa using C
     have m2:((ns.length:Int) !=0)= true:=by rw[bne_iff_ne];omega
     have N:Hid (res= false):=I (by rw[X.o];simp[K,G])
     (try clear hi0);(try clear C);(try clear F)
     go_enter Tryz.func53,Tryz.ntmps53;go_upto_region 1 with (fail);generalize w.alloc (.cells ⟨[.int .i64 2,.slice NA ns.length nc,.slice A its.length c]⟩ 41)= W at*;have d0:W.cell? ⟨w.heap.size,0,none⟩= some (.int .i64 2):=by have:=g.o 0 _ rfl;simpa using this
     have d1:W.cell? ⟨w.heap.size,1,none⟩= some (.slice NA ns.length nc):=by have:=g.o 1 _ rfl;simpa using this
     have d2:W.cell? ⟨w.heap.size,2,none⟩= some (.slice A its.length c):=by have:=g.o 2 _ rfl;simpa using this
     go_wp2;go_ret;exact⟨z8 N.o.symm,O.o⟩
   ·have i1:((its.length:Int) ==0)= false:=by rw[beq_eq_false_iff_ne];omega
    have G:(its.length ==0)= false:=by simpa using hi0
    have N:Hid (res= false):=I (by rw[X.o];simp[G])
    (try clear hi0);(try clear C);(try clear F)
    go_enter Tryz.func53,Tryz.ntmps53;go_upto_region 1 with (fail);generalize w.alloc (.cells ⟨[.int .i64 2,.slice NA ns.length nc,.slice A its.length c]⟩ 41)= W at*;have d0:W.cell? ⟨w.heap.size,0,none⟩= some (.int .i64 2):=by have:=g.o 0 _ rfl;simpa using this
    have d1:W.cell? ⟨w.heap.size,1,none⟩= some (.slice NA ns.length nc):=by have:=g.o 1 _ rfl;simpa using this
    have d2:W.cell? ⟨w.heap.size,2,none⟩= some (.slice A its.length c):=by have:=g.o 2 _ rfl;simpa using this
    go_wp2;go_ret;exact⟨z8 N.o.symm,O.o⟩
  by_cases k3:k= 3
  ·subst k3
   have X:=I (Y.o.trans (if_pos (by decide)));clear Y;by_cases hi0:its.length= 0
   ·have i1:((its.length:Int) ==0)= true:=by rw[hi0];rfl
    have G:(its.length ==0)= true:=by rw[hi0];rfl
    by_cases C:ns.length= 0
    ·have m1:((ns.length:Int) ==0)= true:=by rw[C];rfl
     have K:(ns.length ==0)= true:=by rw[C];rfl
     have m2:((ns.length:Int) !=0)= false:=by rw[C];rfl
     have N:Hid (res= true):=I (by rw[X.o];simp[K,G])
     (try clear hi0);(try clear C);(try clear F)
     go_enter Tryz.func53,Tryz.ntmps53;go_upto_region 1 with (fail);generalize w.alloc (.cells ⟨[.int .i64 3,.slice NA ns.length nc,.slice A its.length c]⟩ 41)= W at*;have d0:W.cell? ⟨w.heap.size,0,none⟩= some (.int .i64 3):=by have:=g.o 0 _ rfl;simpa using this
     have d1:W.cell? ⟨w.heap.size,1,none⟩= some (.slice NA ns.length nc):=by have:=g.o 1 _ rfl;simpa using this
     have d2:W.cell? ⟨w.heap.size,2,none⟩= some (.slice A its.length c):=by have:=g.o 2 _ rfl;simpa using this
     go_wp2;go_ret;exact⟨z8 N.o.symm,O.o⟩
    ·have m1:((ns.length:Int) ==0)= false:=by rw[beq_eq_false_iff_ne];omega
     have K:(ns.length ==0)= false:=by simpa using C
     have m2:((ns.length:Int) !=0)= true:=by rw[bne_iff_ne];omega
     have N:Hid (res= false):=I (by rw[X.o];simp[K,G])
     (try clear hi0);(try clear C);(try clear F)
     go_enter Tryz.func53,Tryz.ntmps53;go_upto_region 1 with (fail);generalize w.alloc (.cells ⟨[.int .i64 3,.slice NA ns.length nc,.slice A its.length c]⟩ 41)= W at*;have d0:W.cell? ⟨w.heap.size,0,none⟩= some (.int .i64 3):=by have:=g.o 0 _ rfl;simpa using this
     have d1:W.cell? ⟨w.heap.size,1,none⟩= some (.slice NA ns.length nc):=by have:=g.o 1 _ rfl;simpa using this
     have d2:W.cell? ⟨w.heap.size,2,none⟩= some (.slice A its.length c):=by have:=g.o 2 _ rfl;simpa using this
     go_wp2;go_ret;exact⟨z8 N.o.symm,O.o⟩
   ·have i1:((its.length:Int) ==0)= false:=by rw[beq_eq_false_iff_ne];omega
    have G:(its.length ==0)= false:=by simpa using hi0
    have N:Hid (res= false):=I (by rw[X.o];simp[G])
    (try clear hi0);(try clear C);(try clear F)
    go_enter Tryz.func53,Tryz.ntmps53;go_upto_region 1 with (fail);generalize w.alloc (.cells ⟨[.int .i64 3,.slice NA ns.length nc,.slice A its.length c]⟩ 41)= W at*;have d0:W.cell? ⟨w.heap.size,0,none⟩= some (.int .i64 3):=by have:=g.o 0 _ rfl;simpa using this
    have d1:W.cell? ⟨w.heap.size,1,none⟩= some (.slice NA ns.length nc):=by have:=g.o 1 _ rfl;simpa using this
    have d2:W.cell? ⟨w.heap.size,2,none⟩= some (.slice A its.length c):=by have:=g.o 2 _ rfl;simpa using this
    go_wp2;go_ret;exact⟨z8 N.o.symm,O.o⟩
  by_cases k4:k= 4
  ·subst k4
   have X:=I (Y.o.trans (if_pos (by decide)));clear Y;by_cases hi0:its.length= 0
   ·have i1:((its.length:Int) ==0)= true:=by rw[hi0];rfl
    have G:(its.length ==0)= true:=by rw[hi0];rfl
    by_cases C:ns.length= 0
    ·have m1:((ns.length:Int) ==0)= true:=by rw[C];rfl
     have K:(ns.length ==0)= true:=by rw[C];rfl
     have m2:((ns.length:Int) !=0)= false:=by rw[C];rfl
     have N:Hid (res= true):=I (by rw[X.o];simp[K,G])
     (try clear hi0);(try clear C);(try clear F)
     go_enter Tryz.func53,Tryz.ntmps53;go_upto_region 1 with (fail);generalize w.alloc (.cells ⟨[.int .i64 4,.slice NA ns.length nc,.slice A its.length c]⟩ 41)= W at*;have d0:W.cell? ⟨w.heap.size,0,none⟩= some (.int .i64 4):=by have:=g.o 0 _ rfl;simpa using this
     have d1:W.cell? ⟨w.heap.size,1,none⟩= some (.slice NA ns.length nc):=by have:=g.o 1 _ rfl;simpa using this
     have d2:W.cell? ⟨w.heap.size,2,none⟩= some (.slice A its.length c):=by have:=g.o 2 _ rfl;simpa using this
     go_wp2;go_ret;exact⟨z8 N.o.symm,O.o⟩
    ·have m1:((ns.length:Int) ==0)= false:=by rw[beq_eq_false_iff_ne];omega
     have K:(ns.length ==0)= false:=by simpa using C
     have m2:((ns.length:Int) !=0)= true:=by rw[bne_iff_ne];omega
     have N:Hid (res= false):=I (by rw[X.o];simp[K,G])
     (try clear hi0);(try clear C);(try clear F)
     go_enter Tryz.func53,Tryz.ntmps53;go_upto_region 1 with (fail);generalize w.alloc (.cells ⟨[.int .i64 4,.slice NA ns.length nc,.slice A its.length c]⟩ 41)= W at*;have d0:W.cell? ⟨w.heap.size,0,none⟩= some (.int .i64 4):=by have:=g.o 0 _ rfl;simpa using this
     have d1:W.cell? ⟨w.heap.size,1,none⟩= some (.slice NA ns.length nc):=by have:=g.o 1 _ rfl;simpa using this
     have d2:W.cell? ⟨w.heap.size,2,none⟩= some (.slice A its.length c):=by have:=g.o 2 _ rfl;simpa using this
     go_wp2;go_ret;exact⟨z8 N.o.symm,O.o⟩
   ·have i1:((its.length:Int) ==0)= false:=by rw[beq_eq_false_iff_ne];omega
    have G:(its.length ==0)= false:=by simpa using hi0
    have N:Hid (res= false):=I (by rw[X.o];simp[G])
    (try clear hi0);(try clear C);(try clear F)
    go_enter Tryz.func53,Tryz.ntmps53;go_upto_region 1 with (fail);generalize w.alloc (.cells ⟨[.int .i64 4,.slice NA ns.length nc,.slice A its.length c]⟩ 41)= W at*;have d0:W.cell? ⟨w.heap.size,0,none⟩= some (.int .i64 4):=by have:=g.o 0 _ rfl;simpa using this
    have d1:W.cell? ⟨w.heap.size,1,none⟩= some (.slice NA ns.length nc):=by have:=g.o 1 _ rfl;simpa using this
    have d2:W.cell? ⟨w.heap.size,2,none⟩= some (.slice A its.length c):=by have:=g.o 2 _ rfl;simpa using this
    go_wp2;go_ret;exact⟨z8 N.o.symm,O.o⟩
  by_cases k7:k= 7
  ·subst k7
   have X:=I (Y.o.trans (if_pos (by decide)));clear Y;by_cases hi0:its.length= 0
   ·have i1:((its.length:Int) ==0)= true:=by rw[hi0];rfl
    have G:(its.length ==0)= true:=by rw[hi0];rfl
    by_cases C:ns.length= 0
    ·have m1:((ns.length:Int) ==0)= true:=by rw[C];rfl
     have K:(ns.length ==0)= true:=by rw[C];rfl
     have m2:((ns.length:Int) !=0)= false:=by rw[C];rfl
     have N:Hid (res= true):=I (by rw[X.o];simp[K,G])
     (try clear hi0);(try clear C);(try clear F)
     go_enter Tryz.func53,Tryz.ntmps53;go_upto_region 1 with (fail);generalize w.alloc (.cells ⟨[.int .i64 7,.slice NA ns.length nc,.slice A its.length c]⟩ 41)= W at*;have d0:W.cell? ⟨w.heap.size,0,none⟩= some (.int .i64 7):=by have:=g.o 0 _ rfl;simpa using this
     have d1:W.cell? ⟨w.heap.size,1,none⟩= some (.slice NA ns.length nc):=by have:=g.o 1 _ rfl;simpa using this
     have d2:W.cell? ⟨w.heap.size,2,none⟩= some (.slice A its.length c):=by have:=g.o 2 _ rfl;simpa using this
     go_wp2;go_ret;exact⟨z8 N.o.symm,O.o⟩
    ·have m1:((ns.length:Int) ==0)= false:=by rw[beq_eq_false_iff_ne];omega
     have K:(ns.length ==0)= false:=by simpa using C
     have m2:((ns.length:Int) !=0)= true:=by rw[bne_iff_ne];omega
     have N:Hid (res= false):=I (by rw[X.o];simp[K,G])
     (try clear hi0);(try clear C);(try clear F)
     go_enter Tryz.func53,Tryz.ntmps53;go_upto_region 1 with (fail);generalize w.alloc (.cells ⟨[.int .i64 7,.slice NA ns.length nc,.slice A its.length c]⟩ 41)= W at*;have d0:W.cell? ⟨w.heap.size,0,none⟩= some (.int .i64 7):=by have:=g.o 0 _ rfl;simpa using this
     have d1:W.cell? ⟨w.heap.size,1,none⟩= some (.slice NA ns.length nc):=by have:=g.o 1 _ rfl;simpa using this
     have d2:W.cell? ⟨w.heap.size,2,none⟩= some (.slice A its.length c):=by have:=g.o 2 _ rfl;simpa using this
     go_wp2;go_ret;exact⟨z8 N.o.symm,O.o⟩
   ·have i1:((its.length:Int) ==0)= false:=by rw[beq_eq_false_iff_ne];omega
    have G:(its.length ==0)= false:=by simpa using hi0
    have N:Hid (res= false):=I (by rw[X.o];simp[G])
    (try clear hi0);(try clear C);(try clear F)
    go_enter Tryz.func53,Tryz.ntmps53;go_upto_region 1 with (fail);generalize w.alloc (.cells ⟨[.int .i64 7,.slice NA ns.length nc,.slice A its.length c]⟩ 41)= W at*;have d0:W.cell? ⟨w.heap.size,0,none⟩= some (.int .i64 7):=by have:=g.o 0 _ rfl;simpa using this
    have d1:W.cell? ⟨w.heap.size,1,none⟩= some (.slice NA ns.length nc):=by have:=g.o 1 _ rfl;simpa using this
    have d2:W.cell? ⟨w.heap.size,2,none⟩= some (.slice A its.length c):=by have:=g.o 2 _ rfl;simpa using this
    go_wp2;go_ret;exact⟨z8 N.o.symm,O.o⟩
  have N:=I (Y.o.trans (if_neg (by omega)));clear Y;by_cases k0:k < 1
  ·have c1:decide (k < 1)= true:=decide_eq_true k0
   clear k1 k2 k3 k4 k5 k6 k7 k0
   (try clear hi0);(try clear C);(try clear F)
   go_enter Tryz.func53,Tryz.ntmps53;go_upto_region 1 with (fail);generalize w.alloc (.cells ⟨[.int .i64 k,.slice NA ns.length nc,.slice A its.length c]⟩ 41)= W at*;have d0:W.cell? ⟨w.heap.size,0,none⟩= some (.int .i64 k):=by have:=g.o 0 _ rfl;simpa using this
   have d1:W.cell? ⟨w.heap.size,1,none⟩= some (.slice NA ns.length nc):=by have:=g.o 1 _ rfl;simpa using this
   have d2:W.cell? ⟨w.heap.size,2,none⟩= some (.slice A its.length c):=by have:=g.o 2 _ rfl;simpa using this
   go_wp2;go_ret;exact⟨z8 N.o.symm,O.o⟩
  ·have c1:decide (k < 1)= false:=decide_eq_false k0
   have c2:decide (7 < k)= true:=decide_eq_true (by omega);clear k1 k2 k3 k4 k5 k6 k7 k0
   (try clear hi0);(try clear C);(try clear F)
   go_enter Tryz.func53,Tryz.ntmps53;go_upto_region 1 with (fail);generalize w.alloc (.cells ⟨[.int .i64 k,.slice NA ns.length nc,.slice A its.length c]⟩ 41)= W at*;have d0:W.cell? ⟨w.heap.size,0,none⟩= some (.int .i64 k):=by have:=g.o 0 _ rfl;simpa using this
   have d1:W.cell? ⟨w.heap.size,1,none⟩= some (.slice NA ns.length nc):=by have:=g.o 1 _ rfl;simpa using this
   have d2:W.cell? ⟨w.heap.size,2,none⟩= some (.slice A its.length c):=by have:=g.o 2 _ rfl;simpa using this
   go_wp2;go_ret;exact⟨z8 N.o.symm,O.o⟩
theorem z5U (t:TT) (cs:List Value) (w:World) (hv:TypAt w w.heap.size cs t):Calls Tryz.prog 32 #[.agg ⟨cs⟩] w fun e w'=>e= .returned (.bool (decide (cntT t 0<=200) && zE t 1))/\Below w.heap.size w w':=by
 have g:=I (zc w (.cells ⟨cs⟩ 41));have X:=I (zV w (.cells ⟨cs⟩ 41));have C:=I (zL w cs 41);have N:=I (zl hv);have HV:=I (hv.next g.o);clear hv;go_enter Tryz.func32,Tryz.ntmps32;go_upto_region 1 with (fail);generalize w.alloc (.cells ⟨cs⟩ 41)= W at*;have Y:=I (z5x t cs W HV.o);by_cases hc:cntT t 0<=200
 ·have t1:((cntT t 0:Nat):Int)<=200:=by omega
  have K:Hid ((decide (cntT t 0<=200) && zE t 1)= zE t 1):=I (by rw[decide_eq_true hc];exact Bool.true_and _);go_wp2_with (first|((with_reducible refine za tyK41 _ rfl ?_ C.o rfl N.o.1 ?_);exact wA rfl)|(go_at_call 29;refine Y.o.mono ?_;rintro e z ⟨rfl,F⟩;have A:=I F;have O:=I (zb C.o F X.o);clear F)|((with_reducible refine za tyK41 _ rfl ?_ O.o rfl N.o.1 ?_);exact wA rfl)|(go_at_call 53;refine zi (z9P t 12 1 cs _ (by decide) (HV.o.next A.o)) ?_;intro z2 G));go_ret;exact⟨z8 K.o.symm,g.o.trans ((beT A.o G.o).mono g.o.size)⟩
 ·have t1: ¬ (((cntT t 0:Nat):Int)<=200):=by omega
  have K:Hid ((decide (cntT t 0<=200) && zE t 1)= false):=I (by rw[decide_eq_false hc];exact Bool.false_and _);go_wp2_with (first|((with_reducible refine za tyK41 _ rfl ?_ C.o rfl N.o.1 ?_);exact wA rfl)|(go_at_call 29;refine zi Y.o ?_;intro z A));go_ret;first|exact⟨z8 K.o.symm,(beT g.o A.o)⟩|exact⟨rfl,(beT g.o A.o)⟩
end
section
open Go Go.RowKit
theorem z3g (u v:Value) (l r:List ByteArray) (w:World) (hu:SlAt w w.heap.size 1 StrR u l) (hv:SlAt w w.heap.size 1 StrR v r):
  Calls Tryz.prog 81 #[u,v] w fun e w'=>e= .returned (.bool (decide (l= r)))/\∃ m,w'= w.drewN m:=by
 obtain⟨_,A,C,rfl,_⟩:=id hu;obtain⟨_,D,cb,rfl,_⟩:=id hv;obtain⟨_,N,F⟩:=z1A hu;obtain⟨_,O,G⟩:=z1A hv;by_cases hlen:l.length= r.length
 ·by_cases h0:l.length= 0
  ·have e1:l=[]:=List.eq_nil_of_length_eq_zero h0
   have e2:r=[]:=List.eq_nil_of_length_eq_zero (by omega);subst e1 e2;refine(Tryz.slices_Equal_string_empty A D C 0 cb w (by omega)).mono ?_;rintro e z ⟨rfl,rfl⟩;exact⟨by simp,0,rfl⟩
  ·have p1:0 < l.length:=by omega
   have p2:0 < r.length:=by omega
   obtain⟨b1,o1,rfl,_,c1⟩:=F p1;obtain⟨b2,o2,rfl,_,c2⟩:=G p2;refine(Tryz.slices_Equal_string b1 o1 l.length C b2 o2 r.length cb l r w (Nat.le_refl _) (Nat.le_refl _) N O (fun j hj=> ?_) (fun j hj=> ?_)).mono ?_
   ·obtain⟨x,g⟩:∃ x,l[j]?= some x:=⟨_,List.getElem?_eq_getElem hj⟩
    rw[(c1 j x g).1];simp[List.getD,g]
   ·obtain⟨x,g⟩:∃ x,r[j]?= some x:=⟨_,List.getElem?_eq_getElem hj⟩
    rw[(c2 j x g).1];simp[List.getD,g]
   ·rintro e z ⟨rfl,h⟩
    exact⟨by rw[List.take_length,List.take_length],h⟩
 ·have K:Hid (decide (l= r)= false):=I (decide_eq_false fun h=>hlen (by rw[h]))
  have t1:((l.length:Int) !=(r.length:Int))= true:=by rw[bne_iff_ne];omega
  clear F G hu hv hlen;go_enter Tryz.func81,Tryz.ntmps81;go_wp2;go_ret;exact⟨z8 K.o.symm,0,rfl⟩
end
section
open Go Go.RowKit
mutual
def fitsV:VT->TT->Bool
 | .mk k n f s ns its,.mk k' ns' ts=>(k ==k') && (if k= 5 then fitsA its ts else if k= 6 then decide (ns= ns') && fitsL its ts else true)
def fitsA:List VT->List TT->Bool
 |[],_=>true
 |a::l,t::r=>fitsV a t && fitsA l (t::r)
 |_::_,[]=>true
def fitsL:List VT->List TT->Bool
 |[],_=>true
 |a::l,t::r=>fitsV a t && fitsL l r
 |_::_,[]=>true
end
theorem z9e {l:List VT} {r:List TT} {k:Nat} {x:VT} {t:TT} (hx:l[k]?= some x) (ht:r[0]?= some t):fitsA (l.drop k) r=(fitsV x t && fitsA (l.drop (k+1)) r):=by
 cases r with
 |nil=>simp at ht
 |cons y r=>
  obtain rfl:y= t:=by simpa using ht
  rw[z0c hx,fitsA]
theorem zaz {l:List VT} {r:List TT}:fitsA (l.drop l.length) r= true:=by
 rw[List.drop_eq_nil_of_le (Nat.le_refl _),fitsA]
theorem z9f {l:List VT} {r:List TT} {k:Nat} {x:VT} {t:TT} (hx:l[k]?= some x) (ht:r[k]?= some t):fitsL (l.drop k) (r.drop k)=(fitsV x t && fitsL (l.drop (k+1)) (r.drop (k+1))):=by
 rw[z0c hx,z0c ht,fitsL]
theorem zaA {l:List VT} {r:List TT}:fitsL (l.drop l.length) (r.drop l.length)= true:=by
 rw[List.drop_eq_nil_of_le (Nat.le_refl _),fitsL]
theorem z3b:∀ {l:List VT} {d:Nat},zN l d= true->∀ x∈l,zw x d= true
 |[],_,_,x,hx=>by cases hx
 |a::l,d,h,x,hx=>by
  rw[zN,Bool.and_eq_true] at h
  rcases List.mem_cons.1 hx with rfl|hx
  ·exact h.1
  ·exact z3b h.2 x hx
theorem z0X:∀ {l:List TT} {d:Nat},z0a l d= true->∀ x∈l,zE x d= true
 |[],_,_,x,hx=>by cases hx
 |a::l,d,h,x,hx=>by
  rw[z0a,Bool.and_eq_true] at h
  rcases List.mem_cons.1 hx with rfl|hx
  ·exact h.1
  ·exact z0X h.2 x hx
theorem z9z {n:Int} {f:Nat} {s:ByteArray} {ns:List ByteArray} {its:List VT} {d:Nat} (h:zw (.mk 5 n f s ns its) d= true):∀ x∈its,zw x (d+1)= true:=by
 rw[zw] at h;by_cases hd:12 < d
 ·rw[if_pos hd] at h;cases h
 ·rw[if_neg hd] at h
  simp only[show ¬ ((5:Int)= 1) by decide,show ¬ ((5:Int)= 2) by decide,show ¬ ((5:Int)= 3) by decide,show ¬ ((5:Int)= 4) by decide,show ¬ ((5:Int)= 6) by decide,if_false,if_true,Bool.and_eq_true] at h;exact z3b h.2.2
theorem z6t {n:Int} {f:Nat} {s:ByteArray} {ns:List ByteArray} {its:List VT} {d:Nat} (h:zw (.mk 6 n f s ns its) d= true):ns.length= its.length/\∀ x∈its,zw x (d+1)= true:=by
 rw[zw] at h;by_cases hd:12 < d
 ·rw[if_pos hd] at h;cases h
 ·rw[if_neg hd] at h
  simp only[show ¬ ((6:Int)= 1) by decide,show ¬ ((6:Int)= 2) by decide,show ¬ ((6:Int)= 3) by decide,show ¬ ((6:Int)= 4) by decide,if_false,if_true,Bool.and_eq_true,beq_iff_eq] at h;exact⟨h.1,z3b h.2.2.2⟩
theorem z1C {ns:List ByteArray} {its:List TT} {d:Nat} (h:zE (.mk 5 ns its) d= true):its.length= 1/\∀ x∈its,zE x (d+1)= true:=by
 rw[zE] at h;by_cases hd:12 < d
 ·rw[if_pos hd] at h;cases h
 ·rw[if_neg hd,if_pos rfl] at h
  simp only[Bool.and_eq_true,beq_iff_eq] at h;exact⟨h.1,z0X h.2.2⟩
theorem z6F {ns:List ByteArray} {its:List TT} {d:Nat} (h:zE (.mk 6 ns its) d= true):ns.length= its.length/\∀ x∈its,zE x (d+1)= true:=by
 rw[zE] at h;by_cases hd:12 < d
 ·rw[if_pos hd] at h;cases h
 ·rw[if_neg hd,if_neg (by decide),if_pos rfl] at h
  simp only[Bool.and_eq_true,beq_iff_eq] at h;exact⟨h.1,z0X h.2.2⟩
theorem zcV:∀ (x:VT) (t:TT) (d e:Nat) (cs cs':List Value) (p o q r:Nat) (w:World),zw x d= true->zE t e= true->w.rangeAt p o cs->w.rangeAt q r cs'->ValAt w w.heap.size cs x->TypAt w w.heap.size cs' t->
  Calls Tryz.prog 62 #[.pointer (some ⟨p,o,none⟩),.pointer (some ⟨q,r,none⟩)] w fun en w'=>en= .returned (.bool (fitsV x t))/\∃ m,w'= w.drewN m:=by
 intro x
 induction x using VT.ind with
 |h k n f s ns its ih=>
  intro t d e cs cs' p o q r w e8 e9 hr b7 hv f0;cases t with
  |mk k' ns' ts=>
  have IH:=I ih;obtain⟨vn,vi,rfl,_,_,_,_,hn,_,hi⟩:=hv.inv;obtain⟨A,c,rfl,h6,hA⟩:=z1J hi;obtain⟨c7,h8,rfl,_,e7,_,e5⟩:=f0.inv;obtain⟨A',c',rfl,h2,e3⟩:=z1t e5;have HN:=I hn;have g2:=I e7;have HA:=I hA;have d7:=I e3;have d0:w.cell? ⟨p,o,none⟩= some (.int .i64 k):=hr 0 _ rfl;have D4:=I (hr 4 _ rfl);have D5:=I (hr 5 _ rfl);have e0:w.cell? ⟨q,r,none⟩= some (.int .i64 k'):=b7 0 _ rfl;have E1:=I (b7 1 _ rfl);have E2:=I (b7 2 _ rfl);have HO:Hid (fitsV (.mk k n f s ns its) (.mk k' ns' ts)=((k ==k') && (if k= 5 then fitsA its ts else if k= 6 then decide (ns= ns') && fitsL its ts else true))):=I (by rw[fitsV]);generalize K:fitsV (.mk k n f s ns its) (.mk k' ns' ts)= res at*;have c9:=I e8;have a2:=I e9;clear ih hr b7 hv f0 hn e7 hi e5 hA e3 K e8 e9;by_cases hck:k= k';case neg=>
   have HR:Hid (res= false):=I (HO.o.trans (by rw[beq_eq_false_iff_ne.2 hck];exact Bool.false_and _));have t2:(k !=k')= true:=by simpa using hck
   clear hck HO;go_enter Tryz.func62,Tryz.ntmps62;go_wp2;go_quiet (fail);go_wp2;go_ret;exact⟨z8 HR.o.symm,_,rfl⟩
  subst hck;have b4:=I (HO.o.trans (by rw[beq_self_eq_true,Bool.true_and]));clear HO;by_cases k5:k= 5
  ·subst k5
   have HR:Hid (res= fitsA its ts):=I (b4.o.trans (if_pos rfl));clear b4;go_enter Tryz.func62,Tryz.ntmps62;go_wp2;go_quiet (fail);obtain⟨w1,C⟩:∃ w1,w.drewN nq= w1:=⟨_,rfl⟩;have c0:w1.cell? ⟨p,o,none⟩= some (.int .i64 5):=by rw[← C];exact d0
   have c4:w1.cell? ⟨p,o+4,none⟩= some vn:=by rw[← C];exact D4.o
   have c5:w1.cell? ⟨p,o+5,none⟩= some (.slice A its.length c):=by rw[← C];exact D5.o
   have f1:w1.cell? ⟨q,r+1,none⟩= some c7:=by rw[← C];exact E1.o
   have f2:w1.cell? ⟨q,r+2,none⟩= some (.slice A' ts.length c'):=by rw[← C];exact E2.o
   have F:=I C;rw[C];clear C d0 e0;go_wp2;go_loopg [27] its.length (fun g x u=>∃ j m:Nat,j+g= its.length/\x= .int .i64 j/\u= w.drewN m/\fitsA (its.drop j) ts= res);case atStart=>exact⟨0,_,by omega,rfl,(by first|exact F.o.symm|exact e1.o.symm),HR.o.symm⟩
   case round=>
    obtain⟨j,m,hj,rfl,rfl,K⟩:=hrel;have a5:=I K;clear K;cases gk with
    |zero=>
     obtain rfl:j= its.length:=by omega
     have g3: ¬ ((its.length:Int) <(its.length:Int)):=by omega
     have d1:=I (a5.o.symm.trans zaz);go_wp2;go_ret;exact⟨z8 d1.o.symm,_,rfl⟩
    |succ g=>
     have g6:(j:Int) <(its.length:Int):=by omega
     obtain⟨x,hx⟩:∃ x,its[j]?= some x:=⟨_,List.getElem?_eq_getElem (by omega)⟩;obtain⟨b,o',rfl,d2,hc⟩:=HA.o (by omega);obtain⟨ks,a9,b1⟩:=hc j x hx;obtain⟨y,hy⟩:∃ y,ts[0]?= some y:=⟨_,List.getElem?_eq_getElem (by have:=(z1C a2.o).1;omega)⟩;obtain⟨b',a3,rfl,a7,a8⟩:=d7.o (by have:=(z1C a2.o).1;omega);obtain⟨c6,c8,b2⟩:=a8 0 y hy;have X:w.rangeAt b' a3 c6:=by simpa using c8
     have e6:(0:Int) <(ts.length:Int):=by have:=(z1C a2.o).1;omega
     have O:=I (a5.o.symm.trans (z9e hx hy));obtain⟨wm,G⟩:∃ wm,w.drewN m= wm:=⟨_,rfl⟩;have N:Hid (Below w.heap.size w wm):=I (by rw[← G];exact zj (Below.refl _ w) m);have a4:Hid (∀ q,∃ m',wm.drewN q= w.drewN m'):=I fun q=>⟨m+q,by rw[← G,World.drewN_drewN]⟩;have c5:wm.cell? ⟨p,o+5,none⟩= some (.slice (some ⟨b,o',none⟩) its.length c):=by rw[← G];exact D5.o
     have f2:wm.cell? ⟨q,r+2,none⟩= some (.slice (some ⟨b',a3,none⟩) ts.length c'):=by rw[← G];exact E2.o
     have HS:=I (fun nq=>IH.o x (List.mem_of_getElem? hx) y (d+1) (e+1) ks c6 b (o'+j*6) b' a3 (wm.drewN nq) (z9z c9.o x (List.mem_of_getElem? hx)) ((z1C a2.o).2 y (List.mem_of_getElem? hy)) (zb a9 (zj N.o nq) d2) (zb X (zj N.o nq) a7) (b1.next (zj N.o nq)) (b2.next (zj N.o nq)));rw[G];clear hc a9 b1 hx G a8 c8 X b2 hy;generalize fitsV x y= rx at*;cases rx with
     |true=>
      have Y:=I (O.o.trans (Bool.true_and _));clear O;go_upto_region 8 with (fail);go_quiet ((go_at_call 62;exact Calls.quiet_of (HS.o _)));obtain⟨m',a0⟩:=a4.o nq;rw[a0];go_wp2;go_roundg g;case measure=>omega
      case rel=>exact⟨j+1,_,by omega,by go_num,rfl,Y.o.symm⟩
     |false=>
      have Y:Hid (res= false):=I (O.o.trans (Bool.false_and _));clear O;go_upto_region 8 with (fail);go_quiet ((go_at_call 62;exact Calls.quiet_of (HS.o _)));obtain⟨m',a0⟩:=a4.o nq;rw[a0];go_wp2;go_ret;exact⟨z8 Y.o.symm,_,rfl⟩
  have b5:=I (b4.o.trans (if_neg k5));clear b4;by_cases k6:k= 6
  ·subst k6
   have HV:Hid (res=(decide (ns= ns') && fitsL its ts)):=I (b5.o.trans (if_pos rfl));clear b5;go_enter Tryz.func62,Tryz.ntmps62;go_wp2;go_quiet (fail);obtain⟨w1,C⟩:∃ w1,w.drewN nq= w1:=⟨_,rfl⟩;have c0:w1.cell? ⟨p,o,none⟩= some (.int .i64 6):=by rw[← C];exact d0
   have c4:w1.cell? ⟨p,o+4,none⟩= some vn:=by rw[← C];exact D4.o
   have c5:w1.cell? ⟨p,o+5,none⟩= some (.slice A its.length c):=by rw[← C];exact D5.o
   have f1:w1.cell? ⟨q,r+1,none⟩= some c7:=by rw[← C];exact E1.o
   have f2:w1.cell? ⟨q,r+2,none⟩= some (.slice A' ts.length c'):=by rw[← C];exact E2.o
   have F:=I C;rw[C];clear C d0 e0;have a6:=I (fun z=>z3g vn c7 ns ns' (w1.drewN z) ((HN.o.below (by rw[← F.o];exact zj (zj (Below.refl _ w) _) _) fun _ _ _ h=>h).more (by rw[← F.o];exact Nat.le_refl _)) ((g2.o.below (by rw[← F.o];exact zj (zj (Below.refl _ w) _) _) fun _ _ _ h=>h).more (by rw[← F.o];exact Nat.le_refl _)));have d8:Hid (∀ z,∃ m,w1.drewN z= w.drewN m):=I fun z=>⟨nq+z,by rw[← F.o,World.drewN_drewN]⟩;by_cases hnn:ns= ns'
   ·have HR:Hid (res= fitsL its ts):=I (HV.o.trans (by rw[decide_eq_true hnn];exact Bool.true_and _))
    have g1:Hid (its.length= ts.length):=I (by rw[← (z6t c9.o).1,← (z6F a2.o).1,hnn]);rw[decide_eq_true hnn] at a6;clear hnn HV;go_upto_region 12 with (fail)
    revert F
    clear d8;obtain⟨n1,b0⟩:∃ n1,nq= n1:=⟨_,rfl⟩;rw[b0];clear b0 nq;intro F;go_quiet ((go_at_call 81;exact Calls.quiet_of (a6.o _)));obtain⟨w2,b8⟩:∃ w2,w1.drewN nq= w2:=⟨_,rfl⟩;have e1:Hid (w.drewN (n1+nq)= w2):=I (by rw[← b8,← F.o,World.drewN_drewN]);have g5:w2.cell? ⟨p,o+5,none⟩= some (.slice A its.length c):=by rw[← b8];exact c5
    rw[b8];clear b8 F c0 c4 c5 f1 f2 a6;go_wp2;clear g5;go_loopg [61] its.length (fun g x u=>∃ j m:Nat,j+g= its.length/\x= .int .i64 j/\u= w.drewN m/\fitsL (its.drop j) (ts.drop j)= res);case atStart=>exact⟨0,_,by omega,rfl,(by first|exact F.o.symm|exact e1.o.symm),HR.o.symm⟩
    case round=>
     obtain⟨j,m,hj,rfl,rfl,K⟩:=hrel;have a5:=I K;clear K;cases gk with
     |zero=>
      obtain rfl:j= its.length:=by omega
      have g3: ¬ ((its.length:Int) <(its.length:Int)):=by omega
      have d1:=I (a5.o.symm.trans zaA);go_wp2;go_ret;exact⟨z8 d1.o.symm,_,rfl⟩
     |succ g=>
      have g6:(j:Int) <(its.length:Int):=by omega
      obtain⟨x,hx⟩:∃ x,its[j]?= some x:=⟨_,List.getElem?_eq_getElem (by omega)⟩;obtain⟨b,o',rfl,d2,hc⟩:=HA.o (by omega);obtain⟨ks,a9,b1⟩:=hc j x hx;have g4:j < ts.length:=g1.o▸ (by omega:j < its.length);have e6:(j:Int) <(ts.length:Int):=by omega
      obtain⟨y,hy⟩:∃ y,ts[j]?= some y:=⟨_,List.getElem?_eq_getElem g4⟩;obtain⟨b',a3,rfl,a7,a8⟩:=d7.o (by omega);obtain⟨c6,X,b2⟩:=a8 j y hy;have O:=I (a5.o.symm.trans (z9f hx hy));obtain⟨wm,G⟩:∃ wm,w.drewN m= wm:=⟨_,rfl⟩;have N:Hid (Below w.heap.size w wm):=I (by rw[← G];exact zj (Below.refl _ w) m);have a4:Hid (∀ q,∃ m',wm.drewN q= w.drewN m'):=I fun q=>⟨m+q,by rw[← G,World.drewN_drewN]⟩;have c5:wm.cell? ⟨p,o+5,none⟩= some (.slice (some ⟨b,o',none⟩) its.length c):=by rw[← G];exact D5.o
      have f2:wm.cell? ⟨q,r+2,none⟩= some (.slice (some ⟨b',a3,none⟩) ts.length c'):=by rw[← G];exact E2.o
      have HS:=I (fun nq=>IH.o x (List.mem_of_getElem? hx) y (d+1) (e+1) ks c6 b (o'+j*6) b' (a3+j*3) (wm.drewN nq) ((z6t c9.o).2 x (List.mem_of_getElem? hx)) ((z6F a2.o).2 y (List.mem_of_getElem? hy)) (zb a9 (zj N.o nq) d2) (zb X (zj N.o nq) a7) (b1.next (zj N.o nq)) (b2.next (zj N.o nq)));rw[G];clear hc a9 b1 hx G a8 X b2 hy;generalize fitsV x y= rx at*;cases rx with
      |true=>
       have Y:=I (O.o.trans (Bool.true_and _));clear O;go_upto_region 17 with (fail);go_quiet ((go_at_call 62;exact Calls.quiet_of (HS.o _)));obtain⟨m',a0⟩:=a4.o nq;rw[a0];go_wp2;go_roundg g;case measure=>omega
       case rel=>exact⟨j+1,_,by omega,by go_num,rfl,Y.o.symm⟩
      |false=>
       have Y:Hid (res= false):=I (O.o.trans (Bool.false_and _));clear O;go_upto_region 17 with (fail);go_quiet ((go_at_call 62;exact Calls.quiet_of (HS.o _)));obtain⟨m',a0⟩:=a4.o nq;rw[a0];go_wp2;go_ret;exact⟨z8 Y.o.symm,_,rfl⟩
   ·have HR:Hid (res= false):=I (HV.o.trans (by rw[decide_eq_false hnn];exact Bool.false_and _))
    rw[decide_eq_false hnn] at a6;clear hnn HV;go_upto_region 12 with (fail)
    revert F
    clear d8;obtain⟨n1,b0⟩:∃ n1,nq= n1:=⟨_,rfl⟩;rw[b0];clear b0 nq;intro F;go_quiet ((go_at_call 81;exact Calls.quiet_of (a6.o _)));go_wp2;go_ret;exact⟨z8 HR.o.symm,_,(by rw[← F.o];exact World.drewN_drewN ..)⟩
  have HR:Hid (res= true):=I (b5.o.trans (if_neg k6));have s5:(k ==5)= false:=by simpa using k5
  have s6:(k ==6)= false:=by simpa using k6
  clear b5 k5 k6;go_enter Tryz.func62,Tryz.ntmps62;go_wp2;go_quiet (fail);obtain⟨w1,C⟩:∃ w1,w.drewN nq= w1:=⟨_,rfl⟩;have c0:w1.cell? ⟨p,o,none⟩= some (.int .i64 k):=by rw[← C];exact d0
  have c4:w1.cell? ⟨p,o+4,none⟩= some vn:=by rw[← C];exact D4.o
  have c5:w1.cell? ⟨p,o+5,none⟩= some (.slice A its.length c):=by rw[← C];exact D5.o
  have f1:w1.cell? ⟨q,r+1,none⟩= some c7:=by rw[← C];exact E1.o
  have f2:w1.cell? ⟨q,r+2,none⟩= some (.slice A' ts.length c'):=by rw[← C];exact E2.o
  have F:=I C;rw[C];clear C d0 e0;go_wp2;go_ret;exact⟨z8 HR.o.symm,_,F.o.symm⟩
end
section
open Go Go.RowKit
def z2N (x:VT):Bool:=decide (cntV x 0<=200) && zw x 1
def typeT (t:TT):Bool:=decide (cntT t 0<=200) && zE t 1
def fitT (x:VT) (t:TT):Bool:=z2N x && (typeT t && fitsV x t)
theorem z7e (x:VT) (t:TT) (cs cs':List Value) (w:World) (hv:ValAt w w.heap.size cs x) (hv':TypAt w w.heap.size cs' t):
  Calls Tryz.prog 43 #[.agg ⟨cs⟩,.agg ⟨cs'⟩] w fun en w'=>en= .returned (.bool (fitT x t))/\Below w.heap.size w w':=by
 have HV:=I hv;have a8:=I hv';have HL:=I (zp hv);have a4:=I (zl hv');have HO:Hid (fitT x t=(z2N x && (typeT t && fitsV x t))):=I rfl;generalize hres:fitT x t= res at*;clear hv hv' hres;go_enter Tryz.func43,Tryz.ntmps43;go_upto_region 1 with (fail);have a1:=I (zL w cs 52);have a3:=I (zc w (.cells ⟨cs⟩ 52));have Y:=I (zV w (.cells ⟨cs⟩ 52));have a7:Hid ((w.alloc (.cells ⟨cs⟩ 52)).heap.size= w.heap.size+1):=I (by simp);generalize w.alloc (.cells ⟨cs⟩ 52)= W1 at*;have HB:=I (zL W1 cs' 41);have X:=I (zc W1 (.cells ⟨cs'⟩ 41));have K:=I (zV W1 (.cells ⟨cs'⟩ 41));generalize W1.alloc (.cells ⟨cs'⟩ 41)= W at*;have O:=I (zb a1.o X.o Y.o);have A:=I (beT a3.o X.o);have b6:=I (Nat.lt_of_lt_of_le Y.o X.o.size);rw[a7.o] at HB K;obtain⟨pb,a0⟩:∃ pb,w.heap.size+1= pb:=⟨_,rfl⟩;rw[a0] at HB K;rw[a0];clear a1 a3 Y a7 X a0;have a9:=I (HV.o.next A.o);have C:=I (z1s x cs W a9.o);change Hid (Calls _ _ _ _ fun e w'=>e= .returned (.bool (z2N x))/\_) at C;have G:=I (fun(z:World) (hz:Below W.heap.size W z)=>z0D t cs' z (a8.o.next (beT A.o hz)));change Hid (∀ z:World,_->Calls _ _ _ _ fun e w'=>e= .returned (.bool (typeT t))/\_) at G;cases hr1:z2N x with
 |false=>
  have HR:Hid (res= false):=I (HO.o.trans (by simp[hr1]));rw[hr1] at C;go_wp2_with (first|((with_reducible refine za tyK52 _ rfl ?_ O.o rfl HL.o.1 ?_);exact wA rfl)|(go_at_call 61;refine zi C.o ?_;intro z1 g));go_ret;first|exact⟨z8 HR.o.symm,(beT A.o g.o)⟩|exact⟨rfl,(beT A.o g.o)⟩
 |true=>
  have a5:Hid (res=(typeT t && fitsV x t)):=I (by rw[HO.o,hr1,Bool.true_and]);rw[hr1] at C;cases ht2:typeT t with
  |false=>
   have HR:Hid (res= false):=I (a5.o.trans (by simp[ht2]));rw[ht2] at G;go_wp2_with (first|((with_reducible refine za tyK52 _ rfl ?_ O.o rfl HL.o.1 ?_);exact wA rfl)|(go_at_call 61;refine zi C.o ?_;intro z1 g)|((with_reducible refine za tyK41 _ rfl ?_ (zb HB.o g.o K.o) rfl a4.o.1 ?_);exact wA rfl)|(go_at_call 30;refine(G.o _ g.o).mono ?_;rintro e z2 ⟨rfl,N⟩;have F:=I (beT g.o N);clear N));go_ret;first|exact⟨z8 HR.o.symm,(beT A.o F.o)⟩|exact⟨rfl,(beT A.o F.o)⟩
  |true=>
   have HR:Hid (res= fitsV x t):=I (a5.o.trans (by rw[ht2];exact Bool.true_and _));rw[ht2] at G;have b1:zw x 1= true:=by unfold z2N at hr1;rw[Bool.and_eq_true] at hr1;exact hr1.2
   have b0:zE t 1= true:=by unfold typeT at ht2;rw[Bool.and_eq_true] at ht2;exact ht2.2
   have b4:=I (fun(z:World) (hz:Below W.heap.size W z)=>zcV x t 1 1 cs cs' w.heap.size 0 pb 0 z b1 b0 (zb O.o hz b6.o) (zb HB.o hz K.o) (a9.o.next hz) (a8.o.next (beT A.o hz)));clear b1 b0 hr1 ht2;go_wp2_with (first|((with_reducible refine za tyK52 _ rfl ?_ O.o rfl HL.o.1 ?_);exact wA rfl)|(go_at_call 61;refine zi C.o ?_;intro z1 g)|((with_reducible refine za tyK41 _ rfl ?_ (zb HB.o g.o K.o) rfl a4.o.1 ?_);exact wA rfl)|(go_at_call 30;refine(G.o _ g.o).mono ?_;rintro e z2 ⟨rfl,N⟩;have F:=I (beT g.o N);clear N)|(go_at_call 62;refine(b4.o _ F.o).mono ?_;rintro e z3 ⟨rfl,b2⟩;have b3:Hid (Below W.heap.size W z3):=I (by obtain⟨m,rfl⟩:=b2;exact zj F.o _);clear b2));go_ret;exact⟨z8 HR.o.symm,(beT A.o b3.o)⟩
end
section
open Go Go.RowKit
theorem zdY (l r:List _) (u v:Value) (w:World) (hu:SlAt w w.heap.size 3 (TypAt w w.heap.size) u l) (hv:SlAt w w.heap.size 3 (TypAt w w.heap.size) v r)
  (hF:∀ x∈l,∀ y cs cs' z,TypAt z z.heap.size cs x->TypAt z z.heap.size cs' y->Calls Tryz.prog 87 #[.agg ⟨cs⟩,.agg ⟨cs'⟩] z fun e w'=>e= .returned (.bool (sameT x y))/\Below z.heap.size z w'):
  Calls Tryz.prog 113 #[u,v,.func (.func 87) #[] #[]] w fun e w'=>e= .returned (.bool (z0j l r))/\Below w.heap.size w w':=by
 obtain⟨A,ca,rfl,hl,ha⟩:=z1t hu;obtain⟨D,cb,rfl,hr,hb⟩:=z1t hv;by_cases hlen:l.length= r.length;case neg=>
  have HR:=I (z5r hlen);have t1:((l.length:Int) !=(r.length:Int))= true:=by rw[bne_iff_ne];omega
  clear hlen ha hb hu hv hF;go_enter Tryz.func113,Tryz.ntmps113;go_wp2;go_ret;exact⟨z8 HR.o.symm,Below.refl _ w⟩
 have t1:((l.length:Int) !=(r.length:Int))= false:=by rw[hlen];exact bne_self_eq_false _
 have b6:=I hlen;have HA:=I ha;have HB:=I hb;have HF:=I hF;have HS:=I (fun k x y=>zbn (l:=l) (r:=r) (k:=k) (x:=x) (y:=y));have HT:=I (z9F hlen);have H0:Hid (z0j (l.drop 0) (r.drop 0)= z0j l r):=I rfl;have e7:(l.length:Int)<=9223372036854775807:=by omega
 have e9:(r.length:Int)<=9223372036854775807:=by omega
 clear ha hb hu hv hF hlen;generalize z0j l r= res at H0 ⊢;go_enter Tryz.func113,Tryz.ntmps113;go_wp2;go_loopg [17] l.length (fun q x u=>∃ k:Nat,k+q= l.length/\x= .int .i64 k/\Below w.heap.size w u/\z0j (l.drop k) (r.drop k)= res);case atStart=>exact⟨0,by omega,rfl,Below.refl _ _,H0.o⟩
 case round=>
  obtain⟨k,hk,rfl,hb,a4⟩:=hrel;have HR:=I a4;have C:=I hb;clear a4 hb;cases gk with
  |zero=>
   obtain rfl:k= l.length:=by omega
   have e6: ¬ ((l.length:Int) <(l.length:Int)):=by omega
   have HV:=I ((HR.o).symm.trans HT.o);clear HR;go_wp2;go_ret;exact⟨z8 HV.o.symm,C.o⟩
  |succ q=>
   have e8:(k:Int) <(l.length:Int):=by omega
   have c8:k < r.length:=by have:=b6.o;omega
   obtain⟨x,hx⟩:∃ x,l[k]?= some x:=⟨_,List.getElem?_eq_getElem (by omega)⟩;obtain⟨b1,o1,rfl,d4,c1⟩:=HA.o (by omega);obtain⟨cs,N,b0⟩:=c1 k x hx;have b9:=I (zb N C.o d4);have c5:=I ((b0.under C.o).more C.o.size);have F:=I (zl b0);have d2:=I (List.mem_of_getElem? hx);have d1:=I hx;clear c1 N b0 hx;go_upto_region 6 with (first|((with_reducible refine za tyK41 _ rfl ?_ b9.o rfl F.o.1 ?_);exact wA rfl)|((with_reducible refine zW tyK41 _ _ rfl ?_ wr F.o.1 F.o.2 rfl ?_ ?_ ?_ ?_);exact wA rfl;rfl;rfl;rfl;intro Z HX));have O:=I (beT C.o HX.o.below);have a6:=I HX.o.range;have a1:=I ((c5.o.under HX.o.below).more HX.o.below.size);obtain⟨pa,X⟩:∃ pa,wr.heap.size= pa:=⟨_,rfl⟩;rw[X] at a6;have b7:Hid (pa < Z.heap.size):=I (X▸HX.o.size);rw[X];clear X b9 c5 HX;obtain⟨y,hy⟩:∃ y,r[k]?= some y:=⟨_,List.getElem?_eq_getElem c8⟩;obtain⟨b2,o2,rfl,d5,c2⟩:=HB.o (by omega);obtain⟨cs',N,b3⟩:=c2 k y hy;have c4:=I (zb N O.o d5);have c6:=I ((b3.under O.o).more O.o.size);have G:=I (zl b3);have d9:(k:Int) <(r.length:Int):=by omega
   have HV:=I ((HR.o).symm.trans (HS.o k x y d1.o hy));clear c2 N b3 hy c8;go_upto_region 7 with (first|((with_reducible refine za tyK41 _ rfl ?_ c4.o rfl G.o.1 ?_);exact wA rfl)|((with_reducible refine zW tyK41 _ _ rfl ?_ Z G.o.1 G.o.2 rfl ?_ ?_ ?_ ?_);exact wA rfl;rfl;rfl;rfl;intro Z2 g));have Y:=I (beT O.o g.o.below);have a0:=I (zb a6.o g.o.below b7.o);have K:=I g.o.range;have a2:=I ((a1.o.under g.o.below).more g.o.below.size);have a3:=I ((c6.o.under g.o.below).more g.o.below.size);obtain⟨pb,a9⟩:∃ pb,Z.heap.size= pb:=⟨_,rfl⟩;rw[a9] at K;rw[a9];have HC:=I (HF.o x d2.o y cs cs' Z2 a2.o a3.o);clear a9 g c4 a1 c6 a6 b7 a2 a3;obtain⟨cv,c7⟩:∃ b,sameT x y= b:=⟨_,rfl⟩;rw[c7] at HC HV;clear c7;cases cv with
   |true=>
    have a8:Hid (res= z0j (l.drop (k+1)) (r.drop (k+1))):=I (HV.o.trans (Bool.true_and _));clear HV;go_wp2_with (first|((with_reducible refine za tyK41 _ rfl ?_ a0.o rfl F.o.1 ?_);exact wA rfl)|((with_reducible refine za tyK41 _ rfl ?_ K.o rfl G.o.1 ?_);exact wA rfl)|(go_at_call 87;refine zi (HC.o) ?_;intro z a5));go_roundg q;case measure=>omega
    case rel=>exact⟨k+1,by omega,by go_num,(beT Y.o a5.o),a8.o.symm⟩
   |false=>
    have a8:Hid (res= false):=I (HV.o.trans (Bool.false_and _));clear HV;go_wp2_with (first|((with_reducible refine za tyK41 _ rfl ?_ a0.o rfl F.o.1 ?_);exact wA rfl)|((with_reducible refine za tyK41 _ rfl ?_ K.o rfl G.o.1 ?_);exact wA rfl)|(go_at_call 87;refine zi (HC.o) ?_;intro z a5));go_ret;exact⟨z8 a8.o.symm,(beT Y.o a5.o)⟩
theorem zbX:∀ (t t':TT) (cs cs':List Value) (w:World),TypAt w w.heap.size cs t->TypAt w w.heap.size cs' t'->
  Calls Tryz.prog 87 #[.agg ⟨cs⟩,.agg ⟨cs'⟩] w fun e w'=>e= .returned (.bool (sameT t t'))/\Below w.heap.size w w':=by
 intro t
 induction t using TT.ind with
 |h k ns its ih=>
  intro t' cs cs' w hv a5;cases t' with
  |mk k' ns' its'=>
  obtain⟨vn,vi,rfl,_,a4,_,hi⟩:=hv.inv;obtain⟨b8,b7,rfl,_,C,_,a3⟩:=a5.inv;have HO:Hid (sameT (.mk k ns its) (.mk k' ns' its')=((k ==k') && (eqN ns ns' && z0j its its'))):=I (by rw[sameT]);generalize sameT (.mk k ns its) (.mk k' ns' its')= res at HO ⊢;have b2:=I a4;have Y:=I C;have b1:=I hi;have O:=I a3;obtain⟨_,NA,nc,rfl,_⟩:=a4;obtain⟨_,NB,nd,rfl,_⟩:=C;obtain⟨_,A,c,rfl,_⟩:=hi;obtain⟨_,D,d,rfl,_⟩:=a3;have b0:=I (fun x (hx:x∈its) y cs cs' z h h'=>ih x hx y cs cs' z h h');clear ih hv a5;have g1:=zc w (.cells ⟨[.int .i64 k,.slice NA ns.length nc,.slice A its.length c]⟩ 41);have hA:=Whole.new w [.int .i64 k,.slice NA ns.length nc,.slice A its.length c] 41;go_enter Tryz.func87,Tryz.ntmps87;go_upto_region 1 with (fail);have N:(w.alloc (.cells ⟨[.int .i64 k,.slice NA ns.length nc,.slice A its.length c]⟩ 41)).heap.size= w.heap.size+1:=by simp
  generalize w.alloc (.cells ⟨[.int .i64 k,.slice NA ns.length nc,.slice A its.length c]⟩ 41)= W1 at*;have g2:=zc W1 (.cells ⟨[.int .i64 k',.slice NB ns'.length nd,.slice D its'.length d]⟩ 41);have hB:=Whole.new W1 [.int .i64 k',.slice NB ns'.length nd,.slice D its'.length d] 41;generalize W1.alloc (.cells ⟨[.int .i64 k',.slice NB ns'.length nd,.slice D its'.length d]⟩ 41)= W at*;rw[N] at hB
  (try rw[N])
  obtain⟨pb,K⟩:∃ pb,w.heap.size+1= pb:=⟨_,rfl⟩;rw[K] at hB;rw[K];have a2:=hA.keep (g2.block _ (by have:=hA.lt;omega));have g:=I (beT g1 g2);have F:=I a2;have G:=I hB;clear g1 g2 hA hB a2 N K;have d0:W.cell? ⟨w.heap.size,0,none⟩= some (.int .i64 k):=F.o.range 0 _ rfl;have d1:W.cell? ⟨w.heap.size,1,none⟩= some (.slice NA ns.length nc):=F.o.range 1 _ rfl;have e0:W.cell? ⟨pb,0,none⟩= some (.int .i64 k'):=G.o.range 0 _ rfl;have e1:W.cell? ⟨pb,1,none⟩= some (.slice NB ns'.length nd):=G.o.range 1 _ rfl;cases hk:(k ==k') with
  |false=>
   have HV:Hid (res= false):=I (by rw[HO.o,hk];rfl);go_wp2;go_ret;exact⟨z8 HV.o.symm,g.o⟩
  |true=>
  have X:=I (z3g (.slice NA ns.length nc) (.slice NB ns'.length nd) ns ns' W ((b2.o.below g.o (fun _ _ _ h=>h)).more g.o.size) ((Y.o.below g.o (fun _ _ _ h=>h)).more g.o.size));rw[z5I] at X;cases hn:eqN ns ns' with
  |false=>
   have HV:Hid (res= false):=I (by rw[HO.o,hk,hn];rfl);rw[hn] at X;clear hn;go_wp2_with (go_at_call 81;refine(X.o).mono ?_;rintro e z ⟨rfl,q,rfl⟩;skip);go_ret;exact⟨z8 HV.o.symm,zj g.o _⟩
  |true=>
   have HV:Hid (res= z0j its its'):=I (by rw[HO.o,hk,hn];rfl);rw[hn] at X;clear hn;have HQ:Hid (∀ q,Calls Tryz.prog 113 #[.slice A its.length c,.slice D its'.length d,.func (.func 87) #[] #[]] (W.drewN q) fun e w'=>e= .returned (.bool (z0j its its'))/\Below (W.drewN q).heap.size (W.drewN q) w'):=I fun q=>zdY its its' _ _ _ (by have h:=zj g.o q;exact(b1.o.below h (fun _ _ _ h2=>(h2.under h).more h.size)).more h.size) (by have h:=zj g.o q;exact(O.o.below h (fun _ _ _ h2=>(h2.under h).more h.size)).more h.size) b0.o;go_wp2_with (first|(go_at_call 81;refine(X.o).mono ?_;rintro e z ⟨rfl,q,rfl⟩;have d2:(W.drewN q).cell? ⟨w.heap.size,2,none⟩= some (.slice A its.length c):=F.o.range 2 _ rfl;have e2:(W.drewN q).cell? ⟨pb,2,none⟩= some (.slice D its'.length d):=G.o.range 2 _ rfl)|(go_at_call 113;refine zi (HQ.o _) ?_;intro z a9));go_ret;exact⟨z8 HV.o.symm,(zj g.o _).trans (a9.o.mono (zj g.o _).size)⟩
end
section
open Go Go.RowKit
theorem z8M {w:World} {v:Value} {l:List ET} (h:SlAt w w.heap.size 10 (ExpAt w w.heap.size) v l):∃ A c,v= .slice A l.length c/\l.length<=9223372036854775807/\
  (0 < l.length->∃ b o,A= some ⟨b,o,none⟩/\b < w.heap.size/\∀ (i:Nat) x,l[i]?= some x->∃ cs:List Value,w.rangeAt b (o+i*10) cs/\ExpAt w w.heap.size cs x):=by
 obtain⟨h0,A,c,h1,h2⟩:=h;refine⟨A,c,h1,h0,fun hp=> ?_⟩;obtain⟨b,o,h3,h4,h5⟩:=h2 hp;refine⟨b,o,h3,h4,fun i x hx=> ?_⟩;obtain⟨cs,_,h7,h8⟩:=h5 i x hx;exact⟨cs,h7,h8⟩
theorem z8L {w:World} {B:Nat} {cs:List Value} {t:ET} (h:ExpAt w B cs t):cs.length= 10/\∀ u∈cs,u.oneCell'= true:=by
 cases t with
 |mk k s v ns its=>
  have h9:=h.one;obtain⟨c0,c1,c2,c3,c4,c5,vn,vi,rfl,_⟩:=h.inv;exact⟨rfl,h9⟩
theorem zc6 {w:World} {p o i:Nat} {cs ds:List Value} (h:w.rangeAt p o cs) (hd:∀ j v,ds[j]?= some v->cs[i+j]?= some v):w.rangeAt p (o+i) ds:=fun j v hv=>by
 have:=h (i+j) v (hd j v hv)
 rw[show o+i+j= o+ (i+j) by omega];exact this
theorem zdZ (l r:List _) (u v:Value) (w:World) (hu:SlAt w w.heap.size 10 (ExpAt w w.heap.size) u l) (hv:SlAt w w.heap.size 10 (ExpAt w w.heap.size) v r)
  (hF:∀ x∈l,∀ y cs cs' z,ExpAt z z.heap.size cs x->ExpAt z z.heap.size cs' y->Calls Tryz.prog 83 #[.agg ⟨cs⟩,.agg ⟨cs'⟩] z fun e w'=>e= .returned (.bool (sameE x y))/\Below z.heap.size z w'):
  Calls Tryz.prog 105 #[u,v,.func (.func 83) #[] #[]] w fun e w'=>e= .returned (.bool (z0f l r))/\Below w.heap.size w w':=by
 obtain⟨A,ca,rfl,hl,ha⟩:=z8M hu;obtain⟨D,cb,rfl,hr,hb⟩:=z8M hv;by_cases hlen:l.length= r.length;case neg=>
  have HR:=I (z3d hlen);have t1:((l.length:Int) !=(r.length:Int))= true:=by rw[bne_iff_ne];omega
  clear hlen ha hb hu hv hF;go_enter Tryz.func105,Tryz.ntmps105;go_wp2;go_ret;exact⟨z8 HR.o.symm,Below.refl _ w⟩
 have t1:((l.length:Int) !=(r.length:Int))= false:=by rw[hlen];exact bne_self_eq_false _
 have b6:=I hlen;have HA:=I ha;have HB:=I hb;have HF:=I hF;have HS:=I (fun k x y=>zbm (l:=l) (r:=r) (k:=k) (x:=x) (y:=y));have HT:=I (z9D hlen);have H0:Hid (z0f (l.drop 0) (r.drop 0)= z0f l r):=I rfl;have e7:(l.length:Int)<=9223372036854775807:=by omega
 have e9:(r.length:Int)<=9223372036854775807:=by omega
 clear ha hb hu hv hF hlen;generalize z0f l r= res at H0 ⊢;go_enter Tryz.func105,Tryz.ntmps105;go_wp2;go_loopg [17] l.length (fun q x u=>∃ k:Nat,k+q= l.length/\x= .int .i64 k/\Below w.heap.size w u/\z0f (l.drop k) (r.drop k)= res);case atStart=>exact⟨0,by omega,rfl,Below.refl _ _,H0.o⟩
 case round=>
  obtain⟨k,hk,rfl,hb,a4⟩:=hrel;have HR:=I a4;have C:=I hb;clear a4 hb;cases gk with
  |zero=>
   obtain rfl:k= l.length:=by omega
   have e6: ¬ ((l.length:Int) <(l.length:Int)):=by omega
   have HV:=I ((HR.o).symm.trans HT.o);clear HR;go_wp2;go_ret;exact⟨z8 HV.o.symm,C.o⟩
  |succ q=>
   have e8:(k:Int) <(l.length:Int):=by omega
   have c8:k < r.length:=by have:=b6.o;omega
   obtain⟨x,hx⟩:∃ x,l[k]?= some x:=⟨_,List.getElem?_eq_getElem (by omega)⟩;obtain⟨b1,o1,rfl,d4,c1⟩:=HA.o (by omega);obtain⟨cs,N,b0⟩:=c1 k x hx;have b9:=I (zb N C.o d4);have c5:=I ((b0.under C.o).more C.o.size);have F:=I (z8L b0);have d2:=I (List.mem_of_getElem? hx);have d1:=I hx;clear c1 N b0 hx;go_upto_region 6 with (first|((with_reducible refine za tyK54 _ rfl ?_ b9.o rfl F.o.1 ?_);exact wA rfl)|((with_reducible refine zW tyK54 _ _ rfl ?_ wr F.o.1 F.o.2 rfl ?_ ?_ ?_ ?_);exact wA rfl;rfl;rfl;rfl;intro Z HX));have O:=I (beT C.o HX.o.below);have a6:=I HX.o.range;have a1:=I ((c5.o.under HX.o.below).more HX.o.below.size);obtain⟨pa,X⟩:∃ pa,wr.heap.size= pa:=⟨_,rfl⟩;rw[X] at a6;have b7:Hid (pa < Z.heap.size):=I (X▸HX.o.size);rw[X];clear X b9 c5 HX;obtain⟨y,hy⟩:∃ y,r[k]?= some y:=⟨_,List.getElem?_eq_getElem c8⟩;obtain⟨b2,o2,rfl,d5,c2⟩:=HB.o (by omega);obtain⟨cs',N,b3⟩:=c2 k y hy;have c4:=I (zb N O.o d5);have c6:=I ((b3.under O.o).more O.o.size);have G:=I (z8L b3);have d9:(k:Int) <(r.length:Int):=by omega
   have HV:=I ((HR.o).symm.trans (HS.o k x y d1.o hy));clear c2 N b3 hy c8;go_upto_region 7 with (first|((with_reducible refine za tyK54 _ rfl ?_ c4.o rfl G.o.1 ?_);exact wA rfl)|((with_reducible refine zW tyK54 _ _ rfl ?_ Z G.o.1 G.o.2 rfl ?_ ?_ ?_ ?_);exact wA rfl;rfl;rfl;rfl;intro Z2 g));have Y:=I (beT O.o g.o.below);have a0:=I (zb a6.o g.o.below b7.o);have K:=I g.o.range;have a2:=I ((a1.o.under g.o.below).more g.o.below.size);have a3:=I ((c6.o.under g.o.below).more g.o.below.size);obtain⟨pb,a9⟩:∃ pb,Z.heap.size= pb:=⟨_,rfl⟩;rw[a9] at K;rw[a9];have HC:=I (HF.o x d2.o y cs cs' Z2 a2.o a3.o);clear a9 g c4 a1 c6 a6 b7 a2 a3;obtain⟨cv,c7⟩:∃ b,sameE x y= b:=⟨_,rfl⟩;rw[c7] at HC HV;clear c7;cases cv with
   |true=>
    have a8:Hid (res= z0f (l.drop (k+1)) (r.drop (k+1))):=I (HV.o.trans (Bool.true_and _));clear HV;go_wp2_with (first|((with_reducible refine za tyK54 _ rfl ?_ a0.o rfl F.o.1 ?_);exact wA rfl)|((with_reducible refine za tyK54 _ rfl ?_ K.o rfl G.o.1 ?_);exact wA rfl)|(go_at_call 83;refine zi (HC.o) ?_;intro z a5));go_roundg q;case measure=>omega
    case rel=>exact⟨k+1,by omega,by go_num,(beT Y.o a5.o),a8.o.symm⟩
   |false=>
    have a8:Hid (res= false):=I (HV.o.trans (Bool.false_and _));clear HV;go_wp2_with (first|((with_reducible refine za tyK54 _ rfl ?_ a0.o rfl F.o.1 ?_);exact wA rfl)|((with_reducible refine za tyK54 _ rfl ?_ K.o rfl G.o.1 ?_);exact wA rfl)|(go_at_call 83;refine zi (HC.o) ?_;intro z a5));go_ret;exact⟨z8 a8.o.symm,(beT Y.o a5.o)⟩
theorem zbb:∀ (t t':ET) (cs cs':List Value) (w:World),ExpAt w w.heap.size cs t->ExpAt w w.heap.size cs' t'->
  Calls Tryz.prog 83 #[.agg ⟨cs⟩,.agg ⟨cs'⟩] w fun e w'=>e= .returned (.bool (sameE t t'))/\Below w.heap.size w w':=by
 intro t
 induction t using ET.ind with
 |h k s v ns its ih=>
  intro t' cs cs' w hv b5;cases t' with
  |mk k' s' v' ns' its'=>
  obtain⟨v0,v1,v2,v3,v4,v5,vn,vi,rfl,_,_,b6,b4,_,hi⟩:=hv.inv;obtain⟨u0,u1,u2,u3,u4,u5,d5,d4,rfl,_,_,a0,Y,_,b3⟩:=b5.inv;have HO:=I (z9E (k:=k) (k':=k') (s:=s) (s':=s') (v:=v) (v':=v') (ns:=ns) (ns':=ns') (its:=its) (its':=its'));generalize sameE (.mk k s v ns its) (.mk k' s' v' ns' its')= res at HO ⊢;have c5:=I b4;have b0:=I Y;have c4:=I hi;have a9:=I b3;have c6:=I b6;have b1:=I a0;obtain⟨_,NA,nc,rfl,_⟩:=b4;obtain⟨_,NB,nd,rfl,_⟩:=Y;obtain⟨_,A,c,rfl,_⟩:=hi;obtain⟨_,D,d,rfl,_⟩:=b3;have b9:=I (fun x (hx:x∈its) y cs cs' z h h'=>ih x hx y cs cs' z h h');clear ih hv b5 b6 a0;have g1:=zc w (.cells ⟨[.int .i64 k,.string s,v0,v1,v2,v3,v4,v5,.slice NA ns.length nc,.slice A its.length c]⟩ 54);have hA:=Whole.new w [.int .i64 k,.string s,v0,v1,v2,v3,v4,v5,.slice NA ns.length nc,.slice A its.length c] 54;go_enter Tryz.func83,Tryz.ntmps83;go_upto_region 1 with (fail);have a4:(w.alloc (.cells ⟨[.int .i64 k,.string s,v0,v1,v2,v3,v4,v5,.slice NA ns.length nc,.slice A its.length c]⟩ 54)).heap.size= w.heap.size+1:=by simp
  generalize w.alloc (.cells ⟨[.int .i64 k,.string s,v0,v1,v2,v3,v4,v5,.slice NA ns.length nc,.slice A its.length c]⟩ 54)= W1 at*;have g2:=zc W1 (.cells ⟨[.int .i64 k',.string s',u0,u1,u2,u3,u4,u5,.slice NB ns'.length nd,.slice D its'.length d]⟩ 54);have hB:=Whole.new W1 [.int .i64 k',.string s',u0,u1,u2,u3,u4,u5,.slice NB ns'.length nd,.slice D its'.length d] 54;generalize W1.alloc (.cells ⟨[.int .i64 k',.string s',u0,u1,u2,u3,u4,u5,.slice NB ns'.length nd,.slice D its'.length d]⟩ 54)= W at*;rw[a4] at hB
  (try rw[a4])
  obtain⟨pb,a3⟩:∃ pb,w.heap.size+1= pb:=⟨_,rfl⟩;rw[a3] at hB;rw[a3];have b2:=hA.keep (g2.block _ (by have:=hA.lt;omega));have g:=I (beT g1 g2);have F:=I b2;have G:=I hB;clear g1 g2 hA hB b2 a4 a3;have d0:W.cell? ⟨w.heap.size,0,none⟩= some (.int .i64 k):=F.o.range 0 _ rfl;have d1:W.cell? ⟨w.heap.size,1,none⟩= some (.string s):=F.o.range 1 _ rfl;have e0:W.cell? ⟨pb,0,none⟩= some (.int .i64 k'):=G.o.range 0 _ rfl;have e1:W.cell? ⟨pb,1,none⟩= some (.string s'):=G.o.range 1 _ rfl;have a1:Hid (W.rangeAt w.heap.size 2 [v0,v1,v2,v3,v4,v5]):=I (by have:=zc6 (i:=2) (ds:=[v0,v1,v2,v3,v4,v5]) F.o.range (fun j v h=>match j,h with|0,h=>h|1,h=>h|2,h=>h|3,h=>h|4,h=>h|5,h=>h|j+6,h=>by simp at h);simpa using this);have a2:Hid (W.rangeAt pb 2 [u0,u1,u2,u3,u4,u5]):=I (by have:=zc6 (i:=2) (ds:=[u0,u1,u2,u3,u4,u5]) G.o.range (fun j v h=>match j,h with|0,h=>h|1,h=>h|2,h=>h|3,h=>h|4,h=>h|5,h=>h|j+6,h=>by simp at h);simpa using this);cases hk:(k ==k') with
  |false=>
   have X:Hid (res= false):=I (by rw[HO.o,hk];rfl);go_wp2;go_ret;exact⟨z8 X.o.symm,g.o⟩
  |true=>
  cases hs:(s.toList ==s'.toList) with
  |false=>
   have X:Hid (res= false):=I (by rw[HO.o,hk,hs];rfl);go_wp2;go_ret;exact⟨z8 X.o.symm,g.o⟩
  |true=>
  have O:=I (vsame v v' [v0,v1,v2,v3,v4,v5] [u0,u1,u2,u3,u4,u5] W ((c6.o.under g.o).more g.o.size) ((b1.o.under g.o).more g.o.size));obtain⟨sv,N⟩:∃ b,(ordV v v' ==0)= b:=⟨_,rfl⟩;rw[N] at O;cases sv with
  |false=>
   have X:Hid (res= false):=I (by rw[HO.o,hk,hs,N];rfl);clear N;go_wp2_with (first|(first|((with_reducible refine za tyK52 _ rfl ?_ a1.o rfl ?_ ?_);exact wA rfl;rfl)|((with_reducible refine za tyK52 _ rfl ?_ a2.o rfl ?_ ?_);exact wA rfl;rfl))|(go_at_call 104;refine zi (O.o) ?_;intro w2 C));go_ret;exact⟨z8 X.o.symm,(beT g.o C.o)⟩
  |true=>
  have HN:Hid (∀ z,Below W.heap.size W z->Calls Tryz.prog 81 #[.slice NA ns.length nc,.slice NB ns'.length nd] z fun e w'=>e= .returned (.bool (eqN ns ns'))/\∃ m,w'= z.drewN m):=I fun z hz=>by
   have h:=(beT g.o hz);rw[← z5I];exact z3g _ _ ns ns' z ((c5.o.below h (fun _ _ _ h=>h)).more h.size) ((b0.o.below h (fun _ _ _ h=>h)).more h.size)
  cases hn:eqN ns ns' with
  |false=>
   have X:Hid (res= false):=I (by rw[HO.o,hk,hs,N,hn];rfl);rw[hn] at HN;clear hn N;go_wp2_with (first|(first|((with_reducible refine za tyK52 _ rfl ?_ a1.o rfl ?_ ?_);exact wA rfl;rfl)|((with_reducible refine za tyK52 _ rfl ?_ a2.o rfl ?_ ?_);exact wA rfl;rfl))|(go_at_call 104;refine(O.o).mono ?_;rintro e w2 ⟨rfl,K⟩;have C:=I K;have d8:w2.cell? ⟨w.heap.size,8,none⟩= some (.slice NA ns.length nc):=(K.cell (p:=⟨w.heap.size,8,none⟩) F.o.lt).trans (F.o.range 8 _ rfl);have e8:w2.cell? ⟨pb,8,none⟩= some (.slice NB ns'.length nd):=(K.cell (p:=⟨pb,8,none⟩) G.o.lt).trans (G.o.range 8 _ rfl);clear K)|(go_at_call 81;refine((HN.o _ C.o)).mono ?_;rintro e z ⟨rfl,q,rfl⟩;skip));go_ret;exact⟨z8 X.o.symm,zj (beT g.o C.o) _⟩
  |true=>
   have X:Hid (res= z0f its its'):=I (by rw[HO.o,hk,hs,N,hn];rfl);rw[hn] at HN;clear hn N;have HQ:Hid (∀ z,Below W.heap.size W z->Calls Tryz.prog 105 #[.slice A its.length c,.slice D its'.length d,.func (.func 83) #[] #[]] z fun e w'=>e= .returned (.bool (z0f its its'))/\Below z.heap.size z w'):=I fun z hz=>by
    have h:=(beT g.o hz);exact zdZ its its' _ _ z ((c4.o.below h (fun _ _ _ h2=>(h2.under h).more h.size)).more h.size) ((a9.o.below h (fun _ _ _ h2=>(h2.under h).more h.size)).more h.size) b9.o
   go_wp2_with (first|(first|((with_reducible refine za tyK52 _ rfl ?_ a1.o rfl ?_ ?_);exact wA rfl;rfl)|((with_reducible refine za tyK52 _ rfl ?_ a2.o rfl ?_ ?_);exact wA rfl;rfl))|(go_at_call 104;refine(O.o).mono ?_;rintro e w2 ⟨rfl,K⟩;have C:=I K;have d8:w2.cell? ⟨w.heap.size,8,none⟩= some (.slice NA ns.length nc):=(K.cell (p:=⟨w.heap.size,8,none⟩) F.o.lt).trans (F.o.range 8 _ rfl);have e8:w2.cell? ⟨pb,8,none⟩= some (.slice NB ns'.length nd):=(K.cell (p:=⟨pb,8,none⟩) G.o.lt).trans (G.o.range 8 _ rfl);clear K)|(go_at_call 81;refine((HN.o _ C.o)).mono ?_;rintro e z ⟨rfl,q,rfl⟩;have d9:(w2.drewN q).cell? ⟨w.heap.size,9,none⟩= some (.slice A its.length c):=(C.o.cell (p:=⟨w.heap.size,9,none⟩) F.o.lt).trans (F.o.range 9 _ rfl);have e9:(w2.drewN q).cell? ⟨pb,9,none⟩= some (.slice D its'.length d):=(C.o.cell (p:=⟨pb,9,none⟩) G.o.lt).trans (G.o.range 9 _ rfl))|(go_at_call 105;refine zi ((HQ.o _ (zj C.o _))) ?_;intro z b8));go_ret;have hB:=zj (beT g.o C.o) q;exact⟨z8 X.o.symm,(beT hB b8.o)⟩
end
end Go.Proofs.YtdjfpcmlffekkaaGreatDoor
