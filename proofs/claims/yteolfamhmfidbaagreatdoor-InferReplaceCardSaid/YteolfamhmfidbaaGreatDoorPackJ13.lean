/- Parts of a proof: RName, ELeaf, ENamed, RRight, Typ, RTyp, Rows4, RSmallE. -/
import Derived.Test.YteolfamhmfidbaaGreatDoorPackJ3
import Derived.Test.YteolfamhmfidbaaGreatDoorPackJ7
import Derived.Test.YteolfamhmfidbaaGreatDoorPackJ9
import Derived.Test.YteolfamhmfidbaaGreatDoorPackJ11
set_option maxHeartbeats 8000000
set_option maxRecDepth 100000
set_option linter.unusedVariables false
set_option linter.unusedSimpArgs false
namespace Go.Proofs.YteolfamhmfidbaaGreatDoor
section
open Go Go.RowKit
theorem zfz {s:ByteArray} {k:Nat} {c:UInt8} (h:s.data.toList[k]?= some c) (hk:k < s.size):s[k]'hk= c:=by
 have h2:s.data[k]?= some c:=by simpa using h
 obtain⟨h3,h4⟩:=Array.getElem?_eq_some_iff.1 h2
 exact h4
theorem z4e (s:ByteArray) (w:World):Calls Tryz.prog 80 #[.string s] w fun e w'=>e= .returned (.bool (nameB s))/\w'= w:=by
 have HN:Hid (nameB s=(decide (0 < s.size) && decide (s.size<=30) && zO s.data.toList 0)):=I rfl
 have HL:Hid (s.data.toList.length= s.size):=I (by cases s;rfl)
 by_cases h0:s.size= 0
 ·have t1:(s.size:Int) < 1:=by omega
  have HR:Hid (nameB s= false):=I (by rw[HN.o,h0];rfl)
  clear h0
  go_enter Tryz.func80,Tryz.ntmps80
  go_wp2
  go_ret
  exact⟨z6 HR.o.symm,rfl⟩
 have t1: ¬ ((s.size:Int) < 1):=by omega
 by_cases h1:s.size<=30
 ·have t2: ¬ ((30:Int) <(s.size:Int)):=by omega
  have HR:Hid (nameB s= zO s.data.toList 0):=I (by rw[HN.o,decide_eq_true (by omega),decide_eq_true h1];rfl)
  have HS:=I (fun k c=>z4K (l:=s.data.toList) (k:=k) (c:=c))
  have HE:Hid (∀ k,zO (s.data.toList.drop s.size) k= true):=I fun k=>by rw[List.drop_eq_nil_of_le (by rw[HL.o];exact Nat.le_refl _)];rfl
  have H0:Hid (zO (s.data.toList.drop 0) 0= zO s.data.toList 0):=I rfl
  generalize zO s.data.toList 0= res at*
  go_enter Tryz.func80,Tryz.ntmps80
  go_wp2
  go_loopg [3] s.size (fun q x u=>∃ k:Nat,k+q= s.size/\x= .int .i64 k/\u= w/\zO (s.data.toList.drop k) k= res)
  case atStart=>exact⟨0,by omega,rfl,rfl,H0.o⟩
  case round=>
   obtain⟨k,hk,rfl,rfl,hres⟩:=hrel
   have HR2:=I hres
   clear hres
   cases gk with
   |zero=>
    obtain rfl:k= s.size:=by omega
    have hge: ¬ ((s.size:Int) <(s.size:Int)):=by omega
    have HV:=I (HR2.o.symm.trans (HE.o s.size))
    go_wp2
    go_ret
    exact⟨z6 (HR.o.trans HV.o).symm,rfl⟩
   |succ q=>
    have hlt:(k:Int) <(s.size:Int):=by omega
    obtain⟨c,hc⟩:∃ c,s.data.toList[k]?= some c:=⟨_,List.getElem?_eq_getElem (by rw[HL.o];omega)⟩
    have dk:=fun h=>zfz (k:=k) (c:=c) hc h
    have HKC:=I hc
    clear hc
    by_cases h97:97<=c.toNat
    ·have d97:decide (97<=c.toNat)= true:=decide_eq_true (by omega)
     have f97:97<=(c.toNat:Int):=by omega
     by_cases h122:c.toNat<=122
     ·have d122:decide (c.toNat<=122)= true:=decide_eq_true (by omega)
      have f122:(c.toNat:Int)<=122:=by omega
      have hok:okC k c= true:=by unfold okC;simp only[d97,d122,Bool.true_and,Bool.and_true,Bool.or_true,Bool.true_or,Bool.false_or,Bool.or_false,Bool.and_false,Bool.false_and]
      have HV:Hid (res= zO (s.data.toList.drop (k+1)) (k+1)):=I (HR2.o.symm.trans ((HS.o k c HKC.o).trans (by rw[hok];exact Bool.true_and _)))
      clear hok
      go_wp2
      go_roundg q
      case measure=>omega
      case rel=>exact⟨k+1,by omega,by go_num,rfl,HV.o.symm⟩
     ·have d122:decide (c.toNat<=122)= false:=decide_eq_false (by omega)
      have f122: ¬ ((c.toNat:Int)<=122):=by omega
      by_cases hk0:k= 0
      ·subst hk0
       have dk0:decide ((0:Nat) < 0)= false:=rfl
       have hok:okC 0 c= false:=by unfold okC;simp only[d97,d122,dk0,Bool.true_and,Bool.and_true,Bool.or_true,Bool.true_or,Bool.false_or,Bool.or_false,Bool.and_false,Bool.false_and]
       have HV:Hid (res= false):=I (HR2.o.symm.trans ((HS.o 0 c HKC.o).trans (by rw[hok];exact Bool.false_and _)))
       clear hok
       go_wp2
       go_ret
       exact⟨z6 (HR.o.trans HV.o).symm,rfl⟩
      ·have dk0:decide (0 < k)= true:=decide_eq_true (by omega)
       have k0':((k:Int) ==0)= false:=by rw[beq_eq_false_iff_ne];omega
       have k0i: ¬ ((k:Int)= 0):=by omega
       by_cases h48:48<=c.toNat
       ·have d48:decide (48<=c.toNat)= true:=decide_eq_true (by omega)
        have f48:48<=(c.toNat:Int):=by omega
        by_cases h57:c.toNat<=57
        ·have d57:decide (c.toNat<=57)= true:=decide_eq_true (by omega)
         have f57:(c.toNat:Int)<=57:=by omega
         have hok:okC k c= true:=by unfold okC;simp only[d97,d122,dk0,d48,d57,Bool.true_and,Bool.and_true,Bool.or_true,Bool.true_or,Bool.false_or,Bool.or_false,Bool.and_false,Bool.false_and]
         have HV:Hid (res= zO (s.data.toList.drop (k+1)) (k+1)):=I (HR2.o.symm.trans ((HS.o k c HKC.o).trans (by rw[hok];exact Bool.true_and _)))
         clear hok
         go_wp2
         go_roundg q
         case measure=>omega
         case rel=>exact⟨k+1,by omega,by go_num,rfl,HV.o.symm⟩
        ·have d57:decide (c.toNat<=57)= false:=decide_eq_false (by omega)
         have f57: ¬ ((c.toNat:Int)<=57):=by omega
         by_cases h95:c.toNat= 95
         ·have e1:(c.toNat ==95)= true:=by simpa using h95
          have e2:((c.toNat:Int) ==95)= true:=by rw[beq_iff_eq];omega
          have e3:((c.toNat:Int) !=95)= false:=by rw[h95];rfl
          have hok:okC k c= true:=by unfold okC;simp only[d97,d122,dk0,d48,d57,e1,Bool.true_and,Bool.and_true,Bool.or_true,Bool.true_or,Bool.false_or,Bool.or_false,Bool.and_false,Bool.false_and]
          have HV:Hid (res= zO (s.data.toList.drop (k+1)) (k+1)):=I (HR2.o.symm.trans ((HS.o k c HKC.o).trans (by rw[hok];exact Bool.true_and _)))
          clear hok
          go_wp2
          go_roundg q
          case measure=>omega
          case rel=>exact⟨k+1,by omega,by go_num,rfl,HV.o.symm⟩
         ·have e1:(c.toNat ==95)= false:=by simpa using h95
          have e2:((c.toNat:Int) ==95)= false:=by rw[beq_eq_false_iff_ne];omega
          have e3:((c.toNat:Int) !=95)= true:=by rw[bne_iff_ne];omega
          have hok:okC k c= false:=by unfold okC;simp only[d97,d122,dk0,d48,d57,e1,Bool.true_and,Bool.and_true,Bool.or_true,Bool.true_or,Bool.false_or,Bool.or_false,Bool.and_false,Bool.false_and]
          have HV:Hid (res= false):=I (HR2.o.symm.trans ((HS.o k c HKC.o).trans (by rw[hok];exact Bool.false_and _)))
          clear hok
          go_wp2
          go_ret
          exact⟨z6 (HR.o.trans HV.o).symm,rfl⟩
       ·have d48:decide (48<=c.toNat)= false:=decide_eq_false (by omega)
        have f48: ¬ (48<=(c.toNat:Int)):=by omega
        have h95:c.toNat≠95:=by omega
        have e1:(c.toNat ==95)= false:=by simpa using h95
        have e2:((c.toNat:Int) ==95)= false:=by rw[beq_eq_false_iff_ne];omega
        have e3:((c.toNat:Int) !=95)= true:=by rw[bne_iff_ne];omega
        have hok:okC k c= false:=by unfold okC;simp only[d97,d122,dk0,d48,e1,Bool.true_and,Bool.and_true,Bool.or_true,Bool.true_or,Bool.false_or,Bool.or_false,Bool.and_false,Bool.false_and]
        have HV:Hid (res= false):=I (HR2.o.symm.trans ((HS.o k c HKC.o).trans (by rw[hok];exact Bool.false_and _)))
        clear hok
        go_wp2
        go_ret
        exact⟨z6 (HR.o.trans HV.o).symm,rfl⟩
    ·have d97:decide (97<=c.toNat)= false:=decide_eq_false (by omega)
     have f97: ¬ (97<=(c.toNat:Int)):=by omega
     by_cases hk0:k= 0
     ·subst hk0
      have dk0:decide ((0:Nat) < 0)= false:=rfl
      have hok:okC 0 c= false:=by unfold okC;simp only[d97,dk0,Bool.true_and,Bool.and_true,Bool.or_true,Bool.true_or,Bool.false_or,Bool.or_false,Bool.and_false,Bool.false_and]
      have HV:Hid (res= false):=I (HR2.o.symm.trans ((HS.o 0 c HKC.o).trans (by rw[hok];exact Bool.false_and _)))
      clear hok
      go_wp2
      go_ret
      exact⟨z6 (HR.o.trans HV.o).symm,rfl⟩
     ·have dk0:decide (0 < k)= true:=decide_eq_true (by omega)
      have k0':((k:Int) ==0)= false:=by rw[beq_eq_false_iff_ne];omega
      have k0i: ¬ ((k:Int)= 0):=by omega
      by_cases h48:48<=c.toNat
      ·have d48:decide (48<=c.toNat)= true:=decide_eq_true (by omega)
       have f48:48<=(c.toNat:Int):=by omega
       by_cases h57:c.toNat<=57
       ·have d57:decide (c.toNat<=57)= true:=decide_eq_true (by omega)
        have f57:(c.toNat:Int)<=57:=by omega
        have hok:okC k c= true:=by unfold okC;simp only[d97,dk0,d48,d57,Bool.true_and,Bool.and_true,Bool.or_true,Bool.true_or,Bool.false_or,Bool.or_false,Bool.and_false,Bool.false_and]
        have HV:Hid (res= zO (s.data.toList.drop (k+1)) (k+1)):=I (HR2.o.symm.trans ((HS.o k c HKC.o).trans (by rw[hok];exact Bool.true_and _)))
        clear hok
        go_wp2
        go_roundg q
        case measure=>omega
        case rel=>exact⟨k+1,by omega,by go_num,rfl,HV.o.symm⟩
       ·have d57:decide (c.toNat<=57)= false:=decide_eq_false (by omega)
        have f57: ¬ ((c.toNat:Int)<=57):=by omega
        by_cases h95:c.toNat= 95
        ·have e1:(c.toNat ==95)= true:=by simpa using h95
         have e2:((c.toNat:Int) ==95)= true:=by rw[beq_iff_eq];omega
         have e3:((c.toNat:Int) !=95)= false:=by rw[h95];rfl
         have hok:okC k c= true:=by unfold okC;simp only[d97,dk0,d48,d57,e1,Bool.true_and,Bool.and_true,Bool.or_true,Bool.true_or,Bool.false_or,Bool.or_false,Bool.and_false,Bool.false_and]
         have HV:Hid (res= zO (s.data.toList.drop (k+1)) (k+1)):=I (HR2.o.symm.trans ((HS.o k c HKC.o).trans (by rw[hok];exact Bool.true_and _)))
         clear hok
         go_wp2
         go_roundg q
         case measure=>omega
         case rel=>exact⟨k+1,by omega,by go_num,rfl,HV.o.symm⟩
        ·have e1:(c.toNat ==95)= false:=by simpa using h95
         have e2:((c.toNat:Int) ==95)= false:=by rw[beq_eq_false_iff_ne];omega
         have e3:((c.toNat:Int) !=95)= true:=by rw[bne_iff_ne];omega
         have hok:okC k c= false:=by unfold okC;simp only[d97,dk0,d48,d57,e1,Bool.true_and,Bool.and_true,Bool.or_true,Bool.true_or,Bool.false_or,Bool.or_false,Bool.and_false,Bool.false_and]
         have HV:Hid (res= false):=I (HR2.o.symm.trans ((HS.o k c HKC.o).trans (by rw[hok];exact Bool.false_and _)))
         clear hok
         go_wp2
         go_ret
         exact⟨z6 (HR.o.trans HV.o).symm,rfl⟩
      ·have d48:decide (48<=c.toNat)= false:=decide_eq_false (by omega)
       have f48: ¬ (48<=(c.toNat:Int)):=by omega
       have h95:c.toNat≠95:=by omega
       have e1:(c.toNat ==95)= false:=by simpa using h95
       have e2:((c.toNat:Int) ==95)= false:=by rw[beq_eq_false_iff_ne];omega
       have e3:((c.toNat:Int) !=95)= true:=by rw[bne_iff_ne];omega
       have hok:okC k c= false:=by unfold okC;simp only[d97,dk0,d48,e1,Bool.true_and,Bool.and_true,Bool.or_true,Bool.true_or,Bool.false_or,Bool.or_false,Bool.and_false,Bool.false_and]
       have HV:Hid (res= false):=I (HR2.o.symm.trans ((HS.o k c HKC.o).trans (by rw[hok];exact Bool.false_and _)))
       clear hok
       go_wp2
       go_ret
       exact⟨z6 (HR.o.trans HV.o).symm,rfl⟩
 ·have t2:(30:Int) <(s.size:Int):=by omega
  have HR:Hid (nameB s= false):=I (by rw[HN.o,decide_eq_false h1,Bool.and_false];rfl)
  go_enter Tryz.func80,Tryz.ntmps80
  go_wp2
  go_ret
  exact⟨z6 HR.o.symm,rfl⟩
theorem za8 (v:Value) (l:List ByteArray) (n:Nat) (w:World) (hv:SlAt w w.heap.size 1 StrR v l):
  Calls Tryz.prog 63 #[v,.int .i64 n] w fun e w'=>e= .returned (.bool (riseB none l && (l.length ==n)))/\Below w.heap.size w w':=by
 obtain⟨_,A,c,rfl,_⟩:=id hv
 obtain⟨_,hl,ha⟩:=z1o hv
 have HA:=I ha
 have H1:=I (fun s=>z5Z (l:=l) (s:=s))
 have H2:=I (fun k p s=>z6L (l:=l) (k:=k) (p:=p) (s:=s))
 have HE:=I (z8G (l:=l))
 have H0:Hid (riseB (prevK l 0) (l.drop 0)= riseB none l):=I rfl
 have hl2:(l.length:Int)<=9223372036854775807:=by omega
 have HT:Hid ((l.length ==n)=((l.length:Int) ==(n:Int))):=I (by
  by_cases h:l.length= n
  ·subst h;simp
  ·rw[beq_eq_false_iff_ne.2 h,beq_eq_false_iff_ne.2];omega)
 clear ha hv
 generalize riseB none l= res at*
 go_enter Tryz.func63,Tryz.ntmps63
 go_wp2
 go_loopg [5] l.length (fun q x u=>∃ k:Nat,k+q= l.length/\x= .int .i64 k/\Below w.heap.size w u/\riseB (prevK l k) (l.drop k)= res)
 case atStart=>exact⟨0,by omega,rfl,Below.refl _ _,H0.o⟩
 case round=>
  obtain⟨k,hk,rfl,hb,hres⟩:=hrel
  have HR:=I hres
  have HBK:=I hb
  clear hres hb
  cases gk with
  |zero=>
   obtain rfl:k= l.length:=by omega
   have hge: ¬ ((l.length:Int) <(l.length:Int)):=by omega
   have HV:=I (HR.o.symm.trans HE.o)
   have HV2:Hid ((res && (l.length ==n))=((l.length:Int) ==(n:Int))):=I (by rw[HV.o,HT.o];exact Bool.true_and _)
   clear HR
   go_wp2
   go_ret
   exact⟨z6 HV2.o.symm,HBK.o⟩
  |succ q=>
   have hlt:(k:Int) <(l.length:Int):=by omega
   obtain⟨s,hs⟩:∃ s,l[k]?= some s:=⟨_,List.getElem?_eq_getElem (by omega)⟩
   obtain⟨b,o,rfl,hbl,hc⟩:=HA.o (by omega)
   have HCC:=I (fun i x hx=>(hc i x hx).1)
   have HBL:=I hbl
   have ds:=(HBK.o.cell (p:=⟨b,o+k,none⟩) hbl).trans (hc k s hs).1
   have HNM:=I (z4e s)
   have HSK:=I hs
   clear hc hbl hs
   rcases Nat.eq_zero_or_pos k with hk0|hk0
   ·subst hk0
    have ds0:wr.cell? ⟨b,o,none⟩= some (.string s):=ds
    have hlt0:(0:Int) <(l.length:Int):=by omega
    have HV:=I (HR.o.symm.trans (H1.o s HSK.o))
    clear HR
    generalize nameB s= nb at*
    cases nb with
    |false=>
     have HV2:Hid ((res && (l.length ==n))= false):=I (by rw[HV.o,Bool.false_and,Bool.false_and])
     clear HV
     go_wp2
     go_quiet ((go_at_call 80;exact Calls.quiet_of_same ((HNM.o _).mono fun e w' h=>⟨h.1,h.2⟩)))
     go_wp2
     go_ret
     exact⟨z6 HV2.o.symm,zr HBK.o _⟩
    |true=>
     have HV2:=I (HV.o.trans (Bool.true_and _))
     clear HV
     go_wp2
     go_quiet ((go_at_call 80;exact Calls.quiet_of_same ((HNM.o _).mono fun e w' h=>⟨h.1,h.2⟩)))
     go_wp2
     go_roundg q
     case measure=>omega
     case rel=>exact⟨1,by omega,by go_num,zr HBK.o _,HV2.o.symm⟩
   ·obtain⟨j,rfl⟩:∃ j,k= j+1:=⟨k - 1,by omega⟩
    obtain⟨p,hp⟩:∃ p,l[j]?= some p:=⟨_,List.getElem?_eq_getElem (by omega)⟩
    have HV:=I (HR.o.symm.trans (H2.o j p s hp HSK.o))
    have dp:=(HBK.o.cell (p:=⟨b,o+j,none⟩) HBL.o).trans (HCC.o j p hp)
    have hpos:(0:Int) <((j+1:Nat):Int):=by omega
    have hj2:(j:Int) <(l.length:Int):=by omega
    clear HR hp
    generalize nameB s= nb at*
    cases nb with
    |false=>
     have HV2:Hid ((res && (l.length ==n))= false):=I (by rw[HV.o,Bool.false_and,Bool.false_and])
     clear HV
     go_wp2
     go_quiet ((go_at_call 80;exact Calls.quiet_of_same ((HNM.o _).mono fun e w' h=>⟨h.1,h.2⟩)))
     go_wp2
     go_ret
     exact⟨z6 HV2.o.symm,zr HBK.o _⟩
    |true=>
     have HV2:=I (HV.o.trans (Bool.true_and _))
     clear HV
     cases hlt3:Op.bytesLess p.toList s.toList with
     |false=>
      have HV3:Hid ((res && (l.length ==n))= false):=I (by rw[HV2.o,hlt3,Bool.false_and,Bool.false_and])
      go_wp2
      go_quiet ((go_at_call 80;exact Calls.quiet_of_same ((HNM.o _).mono fun e w' h=>⟨h.1,h.2⟩)))
      go_wp2
      go_ret
      exact⟨z6 HV3.o.symm,zr HBK.o _⟩
     |true=>
      have HV3:=I (HV2.o.trans (by rw[hlt3,Bool.true_and]))
      go_wp2
      go_quiet ((go_at_call 80;exact Calls.quiet_of_same ((HNM.o _).mono fun e w' h=>⟨h.1,h.2⟩)))
      go_wp2
      go_roundg q
      case measure=>omega
      case rel=>exact⟨j+2,by omega,by go_num,zr HBK.o _,HV3.o.symm⟩
end
section
open Go Go.RowKit
def z0e (k:Int):Int:=
 if k= 1\/k= 2 then 0 else if k= 3\/k= 4\/k= 18\/(20<=k/\k<=23) then 1 else if(5<=k/\k<=14)\/k= 19 then 2 else if k= 15 then 3 else if k= 16\/k= 17 then -1 else -2
theorem zee (k:Int) (w:World):Calls Tryz.prog 93 #[.int .i64 k] w fun e w'=>e= .returned (.int .i64 (z0e k))/\w'= w:=by
 by_cases h:k= 1\/k= 2\/k= 3\/k= 4\/k= 5\/k= 6\/k= 7\/k= 8\/k= 9\/k= 10\/k= 11\/k= 12\/k= 13\/k= 14\/k= 15\/k= 16\/k= 17\/k= 18\/k= 19\/k= 20\/k= 21\/k= 22\/k= 23
 ·rcases h with rfl|rfl|rfl|rfl|rfl|rfl|rfl|rfl|rfl|rfl|rfl|rfl|rfl|rfl|rfl|rfl|rfl|rfl|rfl|rfl|rfl|rfl|rfl
  all_goals
   go_enter Tryz.func93,Tryz.ntmps93
   go_wp2
   go_ret
   exact⟨rfl,rfl⟩
 ·have HR:Hid (z0e k= -2):=I (by unfold z0e;rw[if_neg (by omega),if_neg (by omega),if_neg (by omega),if_neg (by omega),if_neg (by omega)])
  by_cases h1:k < 1
  ·have e1:(k ==1)= false:=by rw[beq_eq_false_iff_ne];omega
   have e2:(k ==2)= false:=by rw[beq_eq_false_iff_ne];omega
   have e3:(k ==3)= false:=by rw[beq_eq_false_iff_ne];omega
   have e4:(k ==4)= false:=by rw[beq_eq_false_iff_ne];omega
   have e18:(k ==18)= false:=by rw[beq_eq_false_iff_ne];omega
   have e15:(k ==15)= false:=by rw[beq_eq_false_iff_ne];omega
   have e16:(k ==16)= false:=by rw[beq_eq_false_iff_ne];omega
   have e17:(k ==17)= false:=by rw[beq_eq_false_iff_ne];omega
   have e19:(k ==19)= false:=by rw[beq_eq_false_iff_ne];omega
   have l20: ¬ (20<=k):=by omega
   have l5: ¬ (5<=k):=by omega
   clear h h1
   go_enter Tryz.func93,Tryz.ntmps93
   go_wp2
   go_ret
   exact⟨by rw[HR.o];rfl,rfl⟩
  ·have e1:(k ==1)= false:=by rw[beq_eq_false_iff_ne];omega
   have e2:(k ==2)= false:=by rw[beq_eq_false_iff_ne];omega
   have e3:(k ==3)= false:=by rw[beq_eq_false_iff_ne];omega
   have e4:(k ==4)= false:=by rw[beq_eq_false_iff_ne];omega
   have e18:(k ==18)= false:=by rw[beq_eq_false_iff_ne];omega
   have e15:(k ==15)= false:=by rw[beq_eq_false_iff_ne];omega
   have e16:(k ==16)= false:=by rw[beq_eq_false_iff_ne];omega
   have e17:(k ==17)= false:=by rw[beq_eq_false_iff_ne];omega
   have e19:(k ==19)= false:=by rw[beq_eq_false_iff_ne];omega
   have l20:20<=k:=by omega
   have l23: ¬ (k<=23):=by omega
   have l5:5<=k:=by omega
   have l14: ¬ (k<=14):=by omega
   clear h h1
   go_enter Tryz.func93,Tryz.ntmps93
   go_wp2
   go_ret
   exact⟨by rw[HR.o];rfl,rfl⟩
theorem zcE (k:Int) (w:World):Calls Tryz.prog 77 #[.int .i64 k] w fun e w'=>e= .returned (.int .i64 (z0e k))/\w'= w:=by
 by_cases h:k= 1\/k= 2\/k= 3\/k= 4\/k= 5\/k= 6\/k= 7\/k= 8\/k= 9\/k= 10\/k= 11\/k= 12\/k= 13\/k= 14\/k= 15\/k= 16\/k= 17\/k= 18\/k= 19\/k= 20\/k= 21\/k= 22\/k= 23
 ·rcases h with rfl|rfl|rfl|rfl|rfl|rfl|rfl|rfl|rfl|rfl|rfl|rfl|rfl|rfl|rfl|rfl|rfl|rfl|rfl|rfl|rfl|rfl|rfl
  all_goals
   go_enter Tryz.func77,Tryz.ntmps77
   go_wp2
   go_ret
   exact⟨rfl,rfl⟩
 ·have HR:Hid (z0e k= -2):=I (by unfold z0e;rw[if_neg (by omega),if_neg (by omega),if_neg (by omega),if_neg (by omega),if_neg (by omega)])
  by_cases h1:k < 1
  ·have e1:(k ==1)= false:=by rw[beq_eq_false_iff_ne];omega
   have e2:(k ==2)= false:=by rw[beq_eq_false_iff_ne];omega
   have e3:(k ==3)= false:=by rw[beq_eq_false_iff_ne];omega
   have e4:(k ==4)= false:=by rw[beq_eq_false_iff_ne];omega
   have e18:(k ==18)= false:=by rw[beq_eq_false_iff_ne];omega
   have e15:(k ==15)= false:=by rw[beq_eq_false_iff_ne];omega
   have e16:(k ==16)= false:=by rw[beq_eq_false_iff_ne];omega
   have e17:(k ==17)= false:=by rw[beq_eq_false_iff_ne];omega
   have e19:(k ==19)= false:=by rw[beq_eq_false_iff_ne];omega
   have l20: ¬ (20<=k):=by omega
   have l5: ¬ (5<=k):=by omega
   clear h h1
   go_enter Tryz.func77,Tryz.ntmps77
   go_wp2
   go_ret
   exact⟨by rw[HR.o];rfl,rfl⟩
  ·have e1:(k ==1)= false:=by rw[beq_eq_false_iff_ne];omega
   have e2:(k ==2)= false:=by rw[beq_eq_false_iff_ne];omega
   have e3:(k ==3)= false:=by rw[beq_eq_false_iff_ne];omega
   have e4:(k ==4)= false:=by rw[beq_eq_false_iff_ne];omega
   have e18:(k ==18)= false:=by rw[beq_eq_false_iff_ne];omega
   have e15:(k ==15)= false:=by rw[beq_eq_false_iff_ne];omega
   have e16:(k ==16)= false:=by rw[beq_eq_false_iff_ne];omega
   have e17:(k ==17)= false:=by rw[beq_eq_false_iff_ne];omega
   have e19:(k ==19)= false:=by rw[beq_eq_false_iff_ne];omega
   have l20:20<=k:=by omega
   have l23: ¬ (k<=23):=by omega
   have l5:5<=k:=by omega
   have l14: ¬ (k<=14):=by omega
   clear h h1
   go_enter Tryz.func77,Tryz.ntmps77
   go_wp2
   go_ret
   exact⟨by rw[HR.o];rfl,rfl⟩
def wordB (s:ByteArray):Bool:=((s.toList ==[116,114,117,101]) ||((s.toList ==[102,97,108,115,101]) ||((s.toList ==[110,97,110]) ||((s.toList ==[105,110,102]) ||((s.toList ==[108,101,110]) ||((s.toList ==[102,108,111,97,116]) ||((s.toList ==[105,110,116]) ||(s.toList ==[115,116,114]))))))))
theorem zcj (s:ByteArray) (w:World):Calls Tryz.prog 130 #[.string s] w fun e w'=>e= .returned (.bool (wordB s))/\w'= w:=by
 cases h0:(s.toList ==[116,114,117,101]) with
 |true=>
  have HR:Hid (wordB s= true):=I (by unfold wordB;rw[h0];rfl)
  go_enter Tryz.func130,Tryz.ntmps130
  go_wp2
  go_ret
  exact⟨by rw[HR.o];rfl,rfl⟩
 |false=>
  cases h1:(s.toList ==[102,97,108,115,101]) with
  |true=>
   have HR:Hid (wordB s= true):=I (by unfold wordB;rw[h0,h1];rfl)
   go_enter Tryz.func130,Tryz.ntmps130
   go_wp2
   go_ret
   exact⟨by rw[HR.o];rfl,rfl⟩
  |false=>
   cases h2:(s.toList ==[110,97,110]) with
   |true=>
    have HR:Hid (wordB s= true):=I (by unfold wordB;rw[h0,h1,h2];rfl)
    go_enter Tryz.func130,Tryz.ntmps130
    go_wp2
    go_ret
    exact⟨by rw[HR.o];rfl,rfl⟩
   |false=>
    cases h3:(s.toList ==[105,110,102]) with
    |true=>
     have HR:Hid (wordB s= true):=I (by unfold wordB;rw[h0,h1,h2,h3];rfl)
     go_enter Tryz.func130,Tryz.ntmps130
     go_wp2
     go_ret
     exact⟨by rw[HR.o];rfl,rfl⟩
    |false=>
     cases h4:(s.toList ==[108,101,110]) with
     |true=>
      have HR:Hid (wordB s= true):=I (by unfold wordB;rw[h0,h1,h2,h3,h4];rfl)
      go_enter Tryz.func130,Tryz.ntmps130
      go_wp2
      go_ret
      exact⟨by rw[HR.o];rfl,rfl⟩
     |false=>
      cases h5:(s.toList ==[102,108,111,97,116]) with
      |true=>
       have HR:Hid (wordB s= true):=I (by unfold wordB;rw[h0,h1,h2,h3,h4,h5];rfl)
       go_enter Tryz.func130,Tryz.ntmps130
       go_wp2
       go_ret
       exact⟨by rw[HR.o];rfl,rfl⟩
      |false=>
       cases h6:(s.toList ==[105,110,116]) with
       |true=>
        have HR:Hid (wordB s= true):=I (by unfold wordB;rw[h0,h1,h2,h3,h4,h5,h6];rfl)
        go_enter Tryz.func130,Tryz.ntmps130
        go_wp2
        go_ret
        exact⟨by rw[HR.o];rfl,rfl⟩
       |false=>
        cases h7:(s.toList ==[115,116,114]) with
        |true=>
         have HR:Hid (wordB s= true):=I (by unfold wordB;rw[h0,h1,h2,h3,h4,h5,h6,h7];rfl)
         go_enter Tryz.func130,Tryz.ntmps130
         go_wp2
         go_ret
         exact⟨by rw[HR.o];rfl,rfl⟩
        |false=>
         have HR:Hid (wordB s= false):=I (by unfold wordB;rw[h0,h1,h2,h3,h4,h5,h6,h7];rfl)
         go_enter Tryz.func130,Tryz.ntmps130
         go_wp2
         go_ret
         exact⟨by rw[HR.o];rfl,rfl⟩
theorem zbj (s:ByteArray) (w:World):Calls Tryz.prog 81 #[.string s] w fun e w'=>e= .returned (.bool (wordB s))/\w'= w:=by
 cases h0:(s.toList ==[116,114,117,101]) with
 |true=>
  have HR:Hid (wordB s= true):=I (by unfold wordB;rw[h0];rfl)
  go_enter Tryz.func81,Tryz.ntmps81
  go_wp2
  go_ret
  exact⟨by rw[HR.o];rfl,rfl⟩
 |false=>
  cases h1:(s.toList ==[102,97,108,115,101]) with
  |true=>
   have HR:Hid (wordB s= true):=I (by unfold wordB;rw[h0,h1];rfl)
   go_enter Tryz.func81,Tryz.ntmps81
   go_wp2
   go_ret
   exact⟨by rw[HR.o];rfl,rfl⟩
  |false=>
   cases h2:(s.toList ==[110,97,110]) with
   |true=>
    have HR:Hid (wordB s= true):=I (by unfold wordB;rw[h0,h1,h2];rfl)
    go_enter Tryz.func81,Tryz.ntmps81
    go_wp2
    go_ret
    exact⟨by rw[HR.o];rfl,rfl⟩
   |false=>
    cases h3:(s.toList ==[105,110,102]) with
    |true=>
     have HR:Hid (wordB s= true):=I (by unfold wordB;rw[h0,h1,h2,h3];rfl)
     go_enter Tryz.func81,Tryz.ntmps81
     go_wp2
     go_ret
     exact⟨by rw[HR.o];rfl,rfl⟩
    |false=>
     cases h4:(s.toList ==[108,101,110]) with
     |true=>
      have HR:Hid (wordB s= true):=I (by unfold wordB;rw[h0,h1,h2,h3,h4];rfl)
      go_enter Tryz.func81,Tryz.ntmps81
      go_wp2
      go_ret
      exact⟨by rw[HR.o];rfl,rfl⟩
     |false=>
      cases h5:(s.toList ==[102,108,111,97,116]) with
      |true=>
       have HR:Hid (wordB s= true):=I (by unfold wordB;rw[h0,h1,h2,h3,h4,h5];rfl)
       go_enter Tryz.func81,Tryz.ntmps81
       go_wp2
       go_ret
       exact⟨by rw[HR.o];rfl,rfl⟩
      |false=>
       cases h6:(s.toList ==[105,110,116]) with
       |true=>
        have HR:Hid (wordB s= true):=I (by unfold wordB;rw[h0,h1,h2,h3,h4,h5,h6];rfl)
        go_enter Tryz.func81,Tryz.ntmps81
        go_wp2
        go_ret
        exact⟨by rw[HR.o];rfl,rfl⟩
       |false=>
        cases h7:(s.toList ==[115,116,114]) with
        |true=>
         have HR:Hid (wordB s= true):=I (by unfold wordB;rw[h0,h1,h2,h3,h4,h5,h6,h7];rfl)
         go_enter Tryz.func81,Tryz.ntmps81
         go_wp2
         go_ret
         exact⟨by rw[HR.o];rfl,rfl⟩
        |false=>
         have HR:Hid (wordB s= false):=I (by unfold wordB;rw[h0,h1,h2,h3,h4,h5,h6,h7];rfl)
         go_enter Tryz.func81,Tryz.ntmps81
         go_wp2
         go_ret
         exact⟨by rw[HR.o];rfl,rfl⟩
def zE (s:ByteArray):Bool:=nameB s && (!(s.toList ==[110,97,110]) && !(s.toList ==[105,110,102]))
theorem z3C (s:ByteArray) (w:World):Calls Tryz.prog 131 #[.string s] w fun e w'=>e= .returned (.bool (zE s))/\Below w.heap.size w w':=by
 have HN:=I (z87 s w)
 cases h0:nameB s with
 |false=>
  have HR:Hid (zE s= false):=I (by unfold zE;rw[h0];rfl)
  rw[h0] at HN
  clear h0
  go_enter Tryz.func131,Tryz.ntmps131
  go_wp2_with (go_at_call 136;refine HN.o.mono ?_;rintro e z ⟨rfl,hb⟩;have HB:=I hb;clear hb)
  go_ret
  exact⟨by rw[HR.o];rfl,HB.o⟩
 |true=>
  cases h1:(s.toList ==[110,97,110]) with
  |true=>
   have HR:Hid (zE s= false):=I (by unfold zE;rw[h0,h1];rfl)
   rw[h0] at HN
   clear h0
   go_enter Tryz.func131,Tryz.ntmps131
   go_wp2_with (go_at_call 136;refine HN.o.mono ?_;rintro e z ⟨rfl,hb⟩;have HB:=I hb;clear hb)
   go_ret
   exact⟨by rw[HR.o];rfl,HB.o⟩
  |false=>
   cases h2:(s.toList ==[105,110,102]) with
   |true=>
    have HR:Hid (zE s= false):=I (by unfold zE;rw[h0,h1,h2];rfl)
    rw[h0] at HN
    clear h0
    go_enter Tryz.func131,Tryz.ntmps131
    go_wp2_with (go_at_call 136;refine HN.o.mono ?_;rintro e z ⟨rfl,hb⟩;have HB:=I hb;clear hb)
    go_ret
    exact⟨by rw[HR.o];rfl,HB.o⟩
   |false=>
    have HR:Hid (zE s= true):=I (by unfold zE;rw[h0,h1,h2];rfl)
    rw[h0] at HN
    clear h0
    go_enter Tryz.func131,Tryz.ntmps131
    go_wp2_with (go_at_call 136;refine HN.o.mono ?_;rintro e z ⟨rfl,hb⟩;have HB:=I hb;clear hb)
    go_ret
    exact⟨by rw[HR.o];rfl,HB.o⟩
theorem z5U (s:ByteArray) (w:World):Calls Tryz.prog 82 #[.string s] w fun e w'=>e= .returned (.bool (zE s))/\w'= w:=by
 have HN:=I (z4e s w)
 cases h0:nameB s with
 |false=>
  have HR:Hid (zE s= false):=I (by unfold zE;rw[h0];rfl)
  rw[h0] at HN
  clear h0
  go_enter Tryz.func82,Tryz.ntmps82
  go_wp2_with (go_at_call 80;refine HN.o.mono ?_;rintro e z ⟨rfl,hb⟩;subst hb)
  go_ret
  exact⟨by rw[HR.o];rfl,rfl⟩
 |true=>
  cases h1:(s.toList ==[110,97,110]) with
  |true=>
   have HR:Hid (zE s= false):=I (by unfold zE;rw[h0,h1];rfl)
   rw[h0] at HN
   clear h0
   go_enter Tryz.func82,Tryz.ntmps82
   go_wp2_with (go_at_call 80;refine HN.o.mono ?_;rintro e z ⟨rfl,hb⟩;subst hb)
   go_ret
   exact⟨by rw[HR.o];rfl,rfl⟩
  |false=>
   cases h2:(s.toList ==[105,110,102]) with
   |true=>
    have HR:Hid (zE s= false):=I (by unfold zE;rw[h0,h1,h2];rfl)
    rw[h0] at HN
    clear h0
    go_enter Tryz.func82,Tryz.ntmps82
    go_wp2_with (go_at_call 80;refine HN.o.mono ?_;rintro e z ⟨rfl,hb⟩;subst hb)
    go_ret
    exact⟨by rw[HR.o];rfl,rfl⟩
   |false=>
    have HR:Hid (zE s= true):=I (by unfold zE;rw[h0,h1,h2];rfl)
    rw[h0] at HN
    clear h0
    go_enter Tryz.func82,Tryz.ntmps82
    go_wp2_with (go_at_call 80;refine HN.o.mono ?_;rintro e z ⟨rfl,hb⟩;subst hb)
    go_ret
    exact⟨by rw[HR.o];rfl,rfl⟩
def noneB (k n:Int) (f:Nat) (s:ByteArray) (ns its:Nat):Bool:=(k ==0) && ((n ==0) && ((cmpF f 0 ==0) && (s.toList.isEmpty && (((ns:Int) ==0) && ((its:Int) ==0)))))
theorem z4H (p o:Nat) (k n:Int) (f:Nat) (s:ByteArray) (A D:Option Addr) (ns its ca cd:Nat) (w:World) (hf:f < 2 ^ 64) (h:w.rangeAt p o [.int .i64 k,.int .i64 n,.float .f64 f,.string s,.slice A ns ca,.slice D its cd]):
  Calls Tryz.prog 96 #[.pointer (some ⟨p,o,none⟩)] w fun e w'=>e= .returned (.bool (noneB k n f s ns its))/\w'= w:=by
 have d0:w.cell? ⟨p,o,none⟩= some (.int .i64 k):=h 0 _ rfl
 have d1:=h 1 _ rfl
 have d2:=h 2 _ rfl
 have d3:=h 3 _ rfl
 have d4:=h 4 _ rfl
 have d5:=h 5 _ rfl
 have HFO:=I (fun w=>z0E f 0 hf (by decide) w)
 clear h hf
 cases h0:(k ==0) with
 |false=>
  have HR:Hid (noneB k n f s ns its= false):=I (by unfold noneB;rw[h0];rfl)
  generalize cmpF f 0= cf at*
  go_enter Tryz.func96,Tryz.ntmps96
  go_wp2_with (go_at_call 132;refine(HFO.o _).mono ?_;rintro e z ⟨rfl,rfl⟩)
  go_ret
  exact⟨z6 HR.o.symm,rfl⟩
 |true=>
  cases h1:(n ==0) with
  |false=>
   have HR:Hid (noneB k n f s ns its= false):=I (by unfold noneB;rw[h0,h1];rfl)
   generalize cmpF f 0= cf at*
   go_enter Tryz.func96,Tryz.ntmps96
   go_wp2_with (go_at_call 132;refine(HFO.o _).mono ?_;rintro e z ⟨rfl,rfl⟩)
   go_ret
   exact⟨z6 HR.o.symm,rfl⟩
  |true=>
   cases h2:(cmpF f 0 ==0) with
   |false=>
    have HR:Hid (noneB k n f s ns its= false):=I (by unfold noneB;rw[h0,h1,h2];rfl)
    generalize cmpF f 0= cf at*
    go_enter Tryz.func96,Tryz.ntmps96
    go_wp2_with (go_at_call 132;refine(HFO.o _).mono ?_;rintro e z ⟨rfl,rfl⟩)
    go_ret
    exact⟨z6 HR.o.symm,rfl⟩
   |true=>
    cases h3:s.toList.isEmpty with
    |false=>
     have HR:Hid (noneB k n f s ns its= false):=I (by unfold noneB;rw[h0,h1,h2,h3];rfl)
     generalize cmpF f 0= cf at*
     go_enter Tryz.func96,Tryz.ntmps96
     go_wp2_with (go_at_call 132;refine(HFO.o _).mono ?_;rintro e z ⟨rfl,rfl⟩)
     go_ret
     exact⟨z6 HR.o.symm,rfl⟩
    |true=>
     cases h4:((ns:Int) ==0) with
     |false=>
      have HR:Hid (noneB k n f s ns its= false):=I (by unfold noneB;rw[h0,h1,h2,h3,h4];rfl)
      generalize cmpF f 0= cf at*
      go_enter Tryz.func96,Tryz.ntmps96
      go_wp2_with (go_at_call 132;refine(HFO.o _).mono ?_;rintro e z ⟨rfl,rfl⟩)
      go_ret
      exact⟨z6 HR.o.symm,rfl⟩
     |true=>
      cases h5:((its:Int) ==0) with
      |false=>
       have HR:Hid (noneB k n f s ns its= false):=I (by unfold noneB;rw[h0,h1,h2,h3,h4,h5];rfl)
       generalize cmpF f 0= cf at*
       go_enter Tryz.func96,Tryz.ntmps96
       go_wp2_with (go_at_call 132;refine(HFO.o _).mono ?_;rintro e z ⟨rfl,rfl⟩)
       go_ret
       exact⟨z6 HR.o.symm,rfl⟩
      |true=>
       have HR:Hid (noneB k n f s ns its= true):=I (by unfold noneB;rw[h0,h1,h2,h3,h4,h5];rfl)
       generalize cmpF f 0= cf at*
       go_enter Tryz.func96,Tryz.ntmps96
       go_wp2_with (go_at_call 132;refine(HFO.o _).mono ?_;rintro e z ⟨rfl,rfl⟩)
       go_ret
       exact⟨z6 HR.o.symm,rfl⟩
theorem zex (k n:Int) (f:Nat) (s:ByteArray) (A D:Option Addr) (ns its ca cd:Nat) (w:World) (hf:f < 2 ^ 64):
  Calls Tryz.prog 79 #[.agg ⟨[.int .i64 k,.int .i64 n,.float .f64 f,.string s,.slice A ns ca,.slice D its cd]⟩] w fun e w'=>e= .returned (.bool (noneB k n f s ns its))/\Below w.heap.size w w':=by
 have HFO:=I (fun w=>z5t f hf w)
 have HB1:=I (zc w (.cells ⟨[.int .i64 k,.int .i64 n,.float .f64 f,.string s,.slice A ns ca,.slice D its cd]⟩ 27))
 clear hf
 cases h0:(k ==0) with
 |false=>
  have HR:Hid (noneB k n f s ns its= false):=I (by unfold noneB;rw[h0];rfl)
  generalize (cmpF f 0 ==0)= cf at*
  go_enter Tryz.func79,Tryz.ntmps79
  go_wp2_with (go_at_call 99;refine(HFO.o _).mono ?_;rintro e z ⟨rfl,rfl⟩)
  go_ret
  exact⟨z6 HR.o.symm,HB1.o⟩
 |true=>
  cases h1:(n ==0) with
  |false=>
   have HR:Hid (noneB k n f s ns its= false):=I (by unfold noneB;rw[h0,h1];rfl)
   generalize (cmpF f 0 ==0)= cf at*
   go_enter Tryz.func79,Tryz.ntmps79
   go_wp2_with (go_at_call 99;refine(HFO.o _).mono ?_;rintro e z ⟨rfl,rfl⟩)
   go_ret
   exact⟨z6 HR.o.symm,HB1.o⟩
  |true=>
   cases h2:(cmpF f 0 ==0) with
   |false=>
    have HR:Hid (noneB k n f s ns its= false):=I (by unfold noneB;rw[h0,h1,h2];rfl)
    generalize (cmpF f 0 ==0)= cf at*
    go_enter Tryz.func79,Tryz.ntmps79
    go_wp2_with (go_at_call 99;refine(HFO.o _).mono ?_;rintro e z ⟨rfl,rfl⟩)
    go_ret
    exact⟨z6 HR.o.symm,HB1.o⟩
   |true=>
    cases h3:s.toList.isEmpty with
    |false=>
     have HR:Hid (noneB k n f s ns its= false):=I (by unfold noneB;rw[h0,h1,h2,h3];rfl)
     generalize (cmpF f 0 ==0)= cf at*
     go_enter Tryz.func79,Tryz.ntmps79
     go_wp2_with (go_at_call 99;refine(HFO.o _).mono ?_;rintro e z ⟨rfl,rfl⟩)
     go_ret
     exact⟨z6 HR.o.symm,HB1.o⟩
    |true=>
     cases h4:((ns:Int) ==0) with
     |false=>
      have HR:Hid (noneB k n f s ns its= false):=I (by unfold noneB;rw[h0,h1,h2,h3,h4];rfl)
      generalize (cmpF f 0 ==0)= cf at*
      go_enter Tryz.func79,Tryz.ntmps79
      go_wp2_with (go_at_call 99;refine(HFO.o _).mono ?_;rintro e z ⟨rfl,rfl⟩)
      go_ret
      exact⟨z6 HR.o.symm,HB1.o⟩
     |true=>
      cases h5:((its:Int) ==0) with
      |false=>
       have HR:Hid (noneB k n f s ns its= false):=I (by unfold noneB;rw[h0,h1,h2,h3,h4,h5];rfl)
       generalize (cmpF f 0 ==0)= cf at*
       go_enter Tryz.func79,Tryz.ntmps79
       go_wp2_with (go_at_call 99;refine(HFO.o _).mono ?_;rintro e z ⟨rfl,rfl⟩)
       go_ret
       exact⟨z6 HR.o.symm,HB1.o⟩
      |true=>
       have HR:Hid (noneB k n f s ns its= true):=I (by unfold noneB;rw[h0,h1,h2,h3,h4,h5];rfl)
       generalize (cmpF f 0 ==0)= cf at*
       go_enter Tryz.func79,Tryz.ntmps79
       go_wp2_with (go_at_call 99;refine(HFO.o _).mono ?_;rintro e z ⟨rfl,rfl⟩)
       go_ret
       exact⟨z6 HR.o.symm,HB1.o⟩
end
section
open Go Go.RowKit
def riseF:Option ByteArray->List ByteArray->Bool
 |_,[]=>true
 |none,s::l=>zE s && riseF (some s) l
 |some p,s::l=>zE s && (Op.bytesLess p.toList s.toList && riseF (some s) l)
theorem z4E {l:List ByteArray} {s:ByteArray} (h:l[0]?= some s):riseF (prevK l 0) (l.drop 0)=(zE s && riseF (prevK l 1) (l.drop 1)):=by
 rw[z0j h]
 show(zE s && riseF (some s) (l.drop 1))= _
 unfold prevK
 simp[h]
theorem z5N {l:List ByteArray} {k:Nat} {p s:ByteArray} (hp:l[k]?= some p) (h:l[k+1]?= some s):riseF (prevK l (k+1)) (l.drop (k+1))=(zE s && (Op.bytesLess p.toList s.toList && riseF (prevK l (k+2)) (l.drop (k+2)))):=by
 rw[z0j h]
 have h1:prevK l (k+1)= some p:=by unfold prevK;simp[hp]
 have h2:prevK l (k+2)= some s:=by unfold prevK;simp[h]
 rw[h1,h2]
 rfl
theorem z7t {l:List ByteArray}:riseF (prevK l l.length) (l.drop l.length)= true:=by
 rw[List.drop_eq_nil_of_le (Nat.le_refl _)];rw[riseF]
def zJ (k:Int) (s:ByteArray) (ns:List ByteArray) (nk:Nat):Bool:=
 if k= 2 then !wordB s && (zE s && ((ns.length:Int) ==0))
 else if k= 18 then zE s && ((ns.length:Int) ==0)
 else if k= 17 then riseF none ns && (s.toList.isEmpty && ((ns.length:Int) ==(nk:Int)))
 else s.toList.isEmpty && ((ns.length:Int) ==0)
theorem zeU (p o:Nat) (sx:ByteArray) (v0 v1 v2 v3 v4 v5:Value) (A K:Option Addr) (c nk kc:Nat) (l:List ByteArray) (w:World) (hr:w.rangeAt p o [.int .i64 18,.string sx,v0,v1,v2,v3,v4,v5,.slice A l.length c,.slice K nk kc]) (hv:SlAt w w.heap.size 1 StrR (.slice A l.length c) l):
  Calls Tryz.prog 94 #[.pointer (some ⟨p,o,none⟩)] w fun e w'=>e= .returned (.bool (zJ (18) sx l nk))/\Below w.heap.size w w':=by
 have d0:w.cell? ⟨p,o,none⟩= some (.int .i64 18):=hr 0 _ rfl
 have d1:w.cell? ⟨p,o+1,none⟩= some (.string sx):=hr 1 _ rfl
 have d8:w.cell? ⟨p,o+8,none⟩= some (.slice A l.length c):=hr 8 _ rfl
 have d9:w.cell? ⟨p,o+9,none⟩= some (.slice K nk kc):=hr 9 _ rfl
 have HPL:Hid (p < w.heap.size):=I (z2k d0)
 have D8:=I d8
 clear hr hv d8
 have d8:=D8.o
 have HFD:=I (fun w=>z3C sx w)
 cases hf:zE sx with
 |false=>
  have HR:Hid (zJ 18 sx l nk= false):=I (by unfold zJ;rw[if_neg (by decide),if_pos rfl];rw[hf];rfl)
  rw[hf] at HFD
  skip
  clear hf
  go_enter Tryz.func94,Tryz.ntmps94
  go_wp2_with (go_at_call 131;refine(HFD.o _).mono ?_;rintro e z ⟨rfl,hb⟩;have HB:=I hb;have e8:=(hb.cell (p:=⟨p,o+8,none⟩) HPL.o).trans D8.o;clear hb)
  go_ret
  exact⟨z6 HR.o.symm,HB.o⟩
 |true=>
  cases hl:((l.length:Int) ==0) with
  |true=>
   have HR:Hid (zJ 18 sx l nk= true):=I (by unfold zJ;rw[if_neg (by decide),if_pos rfl];rw[hf,hl];rfl)
   rw[hf] at HFD
   skip
   clear hf
   go_enter Tryz.func94,Tryz.ntmps94
   go_wp2_with (go_at_call 131;refine(HFD.o _).mono ?_;rintro e z ⟨rfl,hb⟩;have HB:=I hb;have e8:=(hb.cell (p:=⟨p,o+8,none⟩) HPL.o).trans D8.o;clear hb)
   go_ret
   exact⟨z6 HR.o.symm,HB.o⟩
  |false=>
   have HR:Hid (zJ 18 sx l nk= false):=I (by unfold zJ;rw[if_neg (by decide),if_pos rfl];rw[hf,hl];rfl)
   rw[hf] at HFD
   skip
   clear hf
   go_enter Tryz.func94,Tryz.ntmps94
   go_wp2_with (go_at_call 131;refine(HFD.o _).mono ?_;rintro e z ⟨rfl,hb⟩;have HB:=I hb;have e8:=(hb.cell (p:=⟨p,o+8,none⟩) HPL.o).trans D8.o;clear hb)
   go_ret
   exact⟨z6 HR.o.symm,HB.o⟩
theorem zg8 (p o:Nat) (sx:ByteArray) (v0 v1 v2 v3 v4 v5:Value) (A K:Option Addr) (c nk kc:Nat) (l:List ByteArray) (w:World) (hr:w.rangeAt p o [.int .i64 2,.string sx,v0,v1,v2,v3,v4,v5,.slice A l.length c,.slice K nk kc]) (hv:SlAt w w.heap.size 1 StrR (.slice A l.length c) l):
  Calls Tryz.prog 94 #[.pointer (some ⟨p,o,none⟩)] w fun e w'=>e= .returned (.bool (zJ (2) sx l nk))/\Below w.heap.size w w':=by
 have d0:w.cell? ⟨p,o,none⟩= some (.int .i64 2):=hr 0 _ rfl
 have d1:w.cell? ⟨p,o+1,none⟩= some (.string sx):=hr 1 _ rfl
 have d8:w.cell? ⟨p,o+8,none⟩= some (.slice A l.length c):=hr 8 _ rfl
 have d9:w.cell? ⟨p,o+9,none⟩= some (.slice K nk kc):=hr 9 _ rfl
 have HPL:Hid (p < w.heap.size):=I (z2k d0)
 have D8:=I d8
 clear hr hv d8
 have d8:=D8.o
 have HWD:=I (fun w=>zcj sx w)
 cases hw:wordB sx with
 |true=>
  have HR:Hid (zJ 2 sx l nk= false):=I (by unfold zJ;rw[if_pos rfl,hw];rfl)
  rw[hw] at HWD
  clear hw
  go_enter Tryz.func94,Tryz.ntmps94
  go_wp2_with (go_at_call 130;refine(HWD.o _).mono ?_;rintro e z ⟨rfl,rfl⟩)
  go_ret
  exact⟨z6 HR.o.symm,Below.refl _ _⟩
 |false=>
  have HFD:=I (fun w=>z3C sx w)
  cases hf:zE sx with
  |false=>
   have HR:Hid (zJ 2 sx l nk= false):=I (by unfold zJ;rw[if_pos rfl];rw[hw,hf];rfl)
   rw[hf] at HFD
   rw[hw] at HWD
   clear hf hw
   go_enter Tryz.func94,Tryz.ntmps94
   go_wp2_with (first|(go_at_call 131;refine(HFD.o _).mono ?_;rintro e z ⟨rfl,hb⟩;have HB:=I hb;have e8:=(hb.cell (p:=⟨p,o+8,none⟩) HPL.o).trans D8.o;clear hb)|(go_at_call 130;refine(HWD.o _).mono ?_;rintro e z ⟨rfl,rfl⟩))
   go_ret
   exact⟨z6 HR.o.symm,HB.o⟩
  |true=>
   cases hl:((l.length:Int) ==0) with
   |true=>
    have HR:Hid (zJ 2 sx l nk= true):=I (by unfold zJ;rw[if_pos rfl];rw[hw,hf,hl];rfl)
    rw[hf] at HFD
    rw[hw] at HWD
    clear hf hw
    go_enter Tryz.func94,Tryz.ntmps94
    go_wp2_with (first|(go_at_call 131;refine(HFD.o _).mono ?_;rintro e z ⟨rfl,hb⟩;have HB:=I hb;have e8:=(hb.cell (p:=⟨p,o+8,none⟩) HPL.o).trans D8.o;clear hb)|(go_at_call 130;refine(HWD.o _).mono ?_;rintro e z ⟨rfl,rfl⟩))
    go_ret
    exact⟨z6 HR.o.symm,HB.o⟩
   |false=>
    have HR:Hid (zJ 2 sx l nk= false):=I (by unfold zJ;rw[if_pos rfl];rw[hw,hf,hl];rfl)
    rw[hf] at HFD
    rw[hw] at HWD
    clear hf hw
    go_enter Tryz.func94,Tryz.ntmps94
    go_wp2_with (first|(go_at_call 131;refine(HFD.o _).mono ?_;rintro e z ⟨rfl,hb⟩;have HB:=I hb;have e8:=(hb.cell (p:=⟨p,o+8,none⟩) HPL.o).trans D8.o;clear hb)|(go_at_call 130;refine(HWD.o _).mono ?_;rintro e z ⟨rfl,rfl⟩))
    go_ret
    exact⟨z6 HR.o.symm,HB.o⟩
theorem zg7 (k:Int) (h2:k≠2) (h17:k≠17) (h18:k≠18) (p o:Nat) (sx:ByteArray) (v0 v1 v2 v3 v4 v5:Value) (A K:Option Addr) (c nk kc:Nat) (l:List ByteArray) (w:World) (hr:w.rangeAt p o [.int .i64 k,.string sx,v0,v1,v2,v3,v4,v5,.slice A l.length c,.slice K nk kc]) (hv:SlAt w w.heap.size 1 StrR (.slice A l.length c) l):
  Calls Tryz.prog 94 #[.pointer (some ⟨p,o,none⟩)] w fun e w'=>e= .returned (.bool (zJ k sx l nk))/\Below w.heap.size w w':=by
 have d0:w.cell? ⟨p,o,none⟩= some (.int .i64 k):=hr 0 _ rfl
 have d1:w.cell? ⟨p,o+1,none⟩= some (.string sx):=hr 1 _ rfl
 have d8:w.cell? ⟨p,o+8,none⟩= some (.slice A l.length c):=hr 8 _ rfl
 have d9:w.cell? ⟨p,o+9,none⟩= some (.slice K nk kc):=hr 9 _ rfl
 have HPL:Hid (p < w.heap.size):=I (z2k d0)
 have D8:=I d8
 have e2:(k ==2)= false:=by rw[beq_eq_false_iff_ne];exact h2
 have e17:(k ==17)= false:=by rw[beq_eq_false_iff_ne];exact h17
 have e18:(k ==18)= false:=by rw[beq_eq_false_iff_ne];exact h18
 have HU:Hid (zJ k sx l nk=(sx.toList.isEmpty && ((l.length:Int) ==0))):=I (by unfold zJ;rw[if_neg h2,if_neg h18,if_neg h17])
 clear hr hv h2 h17 h18
 cases hs:sx.toList.isEmpty with
 |false=>
  have HR:=I (HU.o.trans (by rw[hs];rfl:_= false))
  go_enter Tryz.func94,Tryz.ntmps94
  go_wp2
  go_ret
  exact⟨z6 HR.o.symm,Below.refl _ _⟩
 |true=>
  cases hl:((l.length:Int) ==0) with
  |false=>
   have HR:=I (HU.o.trans (by rw[hs,hl];rfl:_= false))
   go_enter Tryz.func94,Tryz.ntmps94
   go_wp2
   go_ret
   exact⟨z6 HR.o.symm,Below.refl _ _⟩
  |true=>
   have HR:=I (HU.o.trans (by rw[hs,hl];rfl:_= true))
   go_enter Tryz.func94,Tryz.ntmps94
   go_wp2
   go_ret
   exact⟨z6 HR.o.symm,Below.refl _ _⟩
theorem zfD (p o:Nat) (sx:ByteArray) (v0 v1 v2 v3 v4 v5:Value) (A K:Option Addr) (c nk kc:Nat) (l:List ByteArray) (w:World) (hr:w.rangeAt p o [.int .i64 17,.string sx,v0,v1,v2,v3,v4,v5,.slice A l.length c,.slice K nk kc]) (hv:SlAt w w.heap.size 1 StrR (.slice A l.length c) l):
  Calls Tryz.prog 94 #[.pointer (some ⟨p,o,none⟩)] w fun e w'=>e= .returned (.bool (zJ (17) sx l nk))/\Below w.heap.size w w':=by
 have d0:w.cell? ⟨p,o,none⟩= some (.int .i64 17):=hr 0 _ rfl
 have d1:w.cell? ⟨p,o+1,none⟩= some (.string sx):=hr 1 _ rfl
 have d8:w.cell? ⟨p,o+8,none⟩= some (.slice A l.length c):=hr 8 _ rfl
 have d9:w.cell? ⟨p,o+9,none⟩= some (.slice K nk kc):=hr 9 _ rfl
 have HPL:Hid (p < w.heap.size):=I (z2k d0)
 have D8:=I d8
 obtain⟨_,hl,ha⟩:=z1o hv
 have HA:=I ha
 have H1:=I (fun s=>z4E (l:=l) (s:=s))
 have H2:=I (fun k p s=>z5N (l:=l) (k:=k) (p:=p) (s:=s))
 have HE:=I (z7t (l:=l))
 have HU:Hid (zJ 17 sx l nk=(riseF none l && (sx.toList.isEmpty && ((l.length:Int) ==(nk:Int))))):=I (by unfold zJ;rw[if_neg (by decide),if_neg (by decide),if_pos rfl])
 have H0:Hid (riseF (prevK l 0) (l.drop 0)= riseF none l):=I rfl
 have hl2:(l.length:Int)<=9223372036854775807:=by omega
 have D1:=I d1
 have D9:=I d9
 clear ha hv hr
 obtain⟨res,hres0⟩:∃ res,riseF none l= res:=⟨_,rfl⟩
 have HRES:=I hres0
 rw[hres0] at H0
 clear hres0
 go_enter Tryz.func94,Tryz.ntmps94
 go_upto_region 9 with (fail)
 go_loopg [38] l.length (fun q x u=>∃ k:Nat,k+q= l.length/\x= .int .i64 k/\Below w.heap.size w u/\riseF (prevK l k) (l.drop k)= res)
 case atStart=>exact⟨0,by omega,rfl,Below.refl _ _,H0.o⟩
 case round=>
  obtain⟨k,hk,rfl,hb,hres⟩:=hrel
  have HR:=I hres
  have HBK:=I hb
  clear hres hb
  cases gk with
  |zero=>
   obtain rfl:k= l.length:=by omega
   have hge: ¬ ((l.length:Int) <(l.length:Int)):=by omega
   have HV:=I (HR.o.symm.trans HE.o)
   have x1:=(HBK.o.cell (p:=⟨p,o+1,none⟩) HPL.o).trans D1.o
   have x8:=(HBK.o.cell (p:=⟨p,o+8,none⟩) HPL.o).trans D8.o
   have x9:=(HBK.o.cell (p:=⟨p,o+9,none⟩) HPL.o).trans D9.o
   clear HR
   cases hs:sx.toList.isEmpty with
   |false=>
    have HR2:Hid (zJ 17 sx l nk= false):=I (by rw[HU.o,HRES.o,HV.o,hs];rfl)
    go_upto_region 14 with (fail)
    go_quiet (fail)
    go_wp2
    go_ret
    exact⟨z6 HR2.o.symm,HBK.o.trans ⟨rfl,rfl,rfl,Nat.le_refl _,fun _ _=>rfl⟩⟩
   |true=>
    cases hl:((l.length:Int) ==(nk:Int)) with
    |false=>
     have HR2:Hid (zJ 17 sx l nk= false):=I (by rw[HU.o,HRES.o,HV.o,hs,hl];rfl)
     go_upto_region 14 with (fail)
     go_quiet (fail)
     go_wp2
     go_ret
     exact⟨z6 HR2.o.symm,HBK.o.trans ⟨rfl,rfl,rfl,Nat.le_refl _,fun _ _=>rfl⟩⟩
    |true=>
     have HR2:Hid (zJ 17 sx l nk= true):=I (by rw[HU.o,HRES.o,HV.o,hs,hl];rfl)
     go_upto_region 14 with (fail)
     go_quiet (fail)
     go_wp2
     go_ret
     exact⟨z6 HR2.o.symm,HBK.o.trans ⟨rfl,rfl,rfl,Nat.le_refl _,fun _ _=>rfl⟩⟩
  |succ q=>
   have hlt:(k:Int) <(l.length:Int):=by omega
   obtain⟨s,hs⟩:∃ s,l[k]?= some s:=⟨_,List.getElem?_eq_getElem (by omega)⟩
   obtain⟨b,oo,rfl,hbl,hc⟩:=HA.o (by omega)
   have HCC:=I (fun i x hx=>(hc i x hx).1)
   have HBL:=I hbl
   have ds:=(HBK.o.cell (p:=⟨b,oo+k,none⟩) hbl).trans (hc k s hs).1
   have HNM:=I (z3C s wr)
   have HSK:=I hs
   clear hc hbl hs
   rcases Nat.eq_zero_or_pos k with hk0|hk0
   ·subst hk0
    have ds0:wr.cell? ⟨b,oo,none⟩= some (.string s):=ds
    have hlt0:(0:Int) <(l.length:Int):=by omega
    have HV:=I (HR.o.symm.trans (H1.o s HSK.o))
    clear HR
    generalize zE s= nb at*
    cases nb with
    |false=>
     have HV2:Hid (res= false):=I (HV.o.trans (Bool.false_and _))
     clear HV
     go_wp2_with (go_at_call 131;refine HNM.o.mono ?_;rintro e z ⟨rfl,hbz⟩;have HB3:=I hbz;clear hbz)
     go_ret
     exact⟨z6 (by rw[HU.o,HRES.o,HV2.o];rfl),HBK.o.trans (HB3.o.mono HBK.o.size)⟩
    |true=>
     have HV2:=I (HV.o.trans (Bool.true_and _))
     clear HV
     go_wp2_with (go_at_call 131;refine HNM.o.mono ?_;rintro e z ⟨rfl,hbz⟩;have HB3:=I hbz;clear hbz)
     go_roundg q
     case measure=>omega
     case rel=>exact⟨1,by omega,by go_num,HBK.o.trans (HB3.o.mono HBK.o.size),HV2.o.symm⟩
   ·obtain⟨j,rfl⟩:∃ j,k= j+1:=⟨k - 1,by omega⟩
    obtain⟨pn,hp⟩:∃ pn,l[j]?= some pn:=⟨_,List.getElem?_eq_getElem (by omega)⟩
    have HV:=I (HR.o.symm.trans (H2.o j pn s hp HSK.o))
    have HDP:=I (HCC.o j pn hp)
    have hpos:(0:Int) <((j+1:Nat):Int):=by omega
    have hj2:(j:Int) <(l.length:Int):=by omega
    clear HR hp
    generalize zE s= nb at*
    cases nb with
    |false=>
     have HV2:Hid (res= false):=I (HV.o.trans (Bool.false_and _))
     clear HV
     go_wp2_with (go_at_call 131;refine HNM.o.mono ?_;rintro e z ⟨rfl,hbz⟩;have HB3:=I hbz;clear hbz)
     go_ret
     exact⟨z6 (by rw[HU.o,HRES.o,HV2.o];rfl),HBK.o.trans (HB3.o.mono HBK.o.size)⟩
    |true=>
     have HV2:=I (HV.o.trans (Bool.true_and _))
     clear HV
     cases hlt3:Op.bytesLess pn.toList s.toList with
     |false=>
      have HV3:Hid (res= false):=I (HV2.o.trans (by rw[hlt3];exact Bool.false_and _))
      go_wp2_with (go_at_call 131;refine HNM.o.mono ?_;rintro e z ⟨rfl,hbz⟩;have HB3:=I hbz;have x8:=((HBK.o.trans (hbz.mono HBK.o.size)).cell (p:=⟨p,o+8,none⟩) HPL.o).trans D8.o;have dp:=(((HBK.o.trans (hbz.mono HBK.o.size)).cell (p:=⟨b,oo+j,none⟩) HBL.o)).trans HDP.o;clear hbz)
      go_ret
      exact⟨z6 (by rw[HU.o,HRES.o,HV3.o];rfl),HBK.o.trans (HB3.o.mono HBK.o.size)⟩
     |true=>
      have HV3:=I (HV2.o.trans (by rw[hlt3,Bool.true_and]))
      go_wp2_with (go_at_call 131;refine HNM.o.mono ?_;rintro e z ⟨rfl,hbz⟩;have HB3:=I hbz;have x8:=((HBK.o.trans (hbz.mono HBK.o.size)).cell (p:=⟨p,o+8,none⟩) HPL.o).trans D8.o;have dp:=(((HBK.o.trans (hbz.mono HBK.o.size)).cell (p:=⟨b,oo+j,none⟩) HBL.o)).trans HDP.o;clear hbz)
      go_roundg q
      case measure=>omega
      case rel=>exact⟨j+2,by omega,by go_num,HBK.o.trans (HB3.o.mono HBK.o.size),HV3.o.symm⟩
theorem zbE (k:Int) (p o:Nat) (sx:ByteArray) (v0 v1 v2 v3 v4 v5:Value) (A K:Option Addr) (c nk kc:Nat) (l:List ByteArray) (w:World) (hr:w.rangeAt p o [.int .i64 k,.string sx,v0,v1,v2,v3,v4,v5,.slice A l.length c,.slice K nk kc]) (hv:SlAt w w.heap.size 1 StrR (.slice A l.length c) l):
  Calls Tryz.prog 94 #[.pointer (some ⟨p,o,none⟩)] w fun e w'=>e= .returned (.bool (zJ k sx l nk))/\Below w.heap.size w w':=by
 rcases Classical.em (k= 2) with rfl|h2
 ·exact zg8 p o sx v0 v1 v2 v3 v4 v5 A K c nk kc l w hr hv
 rcases Classical.em (k= 17) with rfl|h17
 ·exact zfD p o sx v0 v1 v2 v3 v4 v5 A K c nk kc l w hr hv
 rcases Classical.em (k= 18) with rfl|h18
 ·exact zeU p o sx v0 v1 v2 v3 v4 v5 A K c nk kc l w hr hv
 exact zg7 k h2 h17 h18 p o sx v0 v1 v2 v3 v4 v5 A K c nk kc l w hr hv
end
section
open Go Go.RowKit
theorem zb2:∀ (t:VT) (m:Nat) (cs:List Value) (w:World),m < 500->ValAt w w.heap.size cs t->
  Calls Tryz.prog 61 #[.agg ⟨cs⟩,.int .i64 m] w fun e w'=>e= .returned (.int .i64 (cntV t m:Nat))/\Below w.heap.size w w':=by
 intro t
 induction t using VT.ind with
 |h k n f s ns its ih=>
  intro m cs w hm hv
  have IH:=I ih
  obtain⟨vn,vi,rfl,_,_,_,_,_,_,hi⟩:=hv.inv
  obtain⟨A,c,rfl,hil,hA⟩:=z0K hi
  have HA:=I hA
  have HS:=I (fun k m x=>z7w (l:=its) (k:=k) (m:=m) (x:=x))
  have HE:=I (fun m=>z89 (l:=its) (m:=m))
  have HLE:=I (fun x m hm=>z9R x m hm)
  have HCE:Hid (∀ k m,500<=m->cntL (its.drop k) m= m):=I (fun k m h=>by
   cases its.drop k with
   |nil=>rw[cntL]
   |cons a l=>rw[cntL,if_pos h])
  have H0:Hid (cntL (its.drop 0) (m+1)= cntV (.mk k n f s ns its) m):=I (by rw[cntV];rfl)
  clear ih hi hA hv
  generalize cntV (.mk k n f s ns its) m= res at*
  go_enter Tryz.func61,Tryz.ntmps61
  go_upto_region 1 with (fail)
  have hb0:=zc w (.cells ⟨[.int .i64 k,.int .i64 n,.float .f64 f,.string s,vn,.slice A its.length c]⟩ 27)
  have hz0:=zw w (.cells ⟨[.int .i64 k,.int .i64 n,.float .f64 f,.string s,vn,.slice A its.length c]⟩ 27)
  have c5:=zp w ⟨[.int .i64 k,.int .i64 n,.float .f64 f,.string s,vn,.slice A its.length c]⟩ 27 5
  generalize w.alloc (.cells ⟨[.int .i64 k,.int .i64 n,.float .f64 f,.string s,vn,.slice A its.length c]⟩ 27)= W at*
  have HB:=I hb0
  have C5:=I c5
  have HSZ:=I hz0
  clear hb0 c5 hz0
  have hm2:(m:Int) < 500:=by omega
  go_wp2
  go_loopg [1,5] its.length (fun g u i wr=>∃ (j m:Nat),j+g= its.length/\i= .int .i64 j/\u= .int .i64 m/\m<=500/\Below W.heap.size W wr/\cntL (its.drop j) m= res)
  case atStart=>exact⟨0,m+1,by omega,rfl,by go_num,by omega,Below.refl _ _,H0.o⟩
  case round=>
   obtain⟨j,m,hj,rfl,rfl,hm5,hb,hres⟩:=hrel
   have HB1:=I hb
   have HR:=I hres
   have d5:=(hb.cell (p:=⟨w.heap.size,5,none⟩) HSZ.o).trans C5.o
   clear hb hres
   simp only[List.getElem?_toArray,List.getElem?_cons_succ,List.getElem?_cons_zero] at d5
   have hm5':(m:Int)<=500:=by omega
   cases gk with
   |zero=>
    obtain rfl:j= its.length:=by omega
    have hge: ¬ ((its.length:Int) <(its.length:Int)):=by omega
    have HV:=I (HR.o.symm.trans (HE.o m))
    go_wp2
    go_ret
    exact⟨by rw[HV.o];go_num,HB.o.trans (HB1.o.mono HB.o.size)⟩
   |succ g=>
    have hlt:(j:Int) <(its.length:Int):=by omega
    by_cases h0:m < 500
    ·have hz2:w.heap.size<=wr.heap.size:=Nat.le_trans HB.o.size HB1.o.size
     obtain⟨y,hy⟩:∃ y,its[j]?= some y:=⟨_,List.getElem?_eq_getElem (by omega)⟩
     obtain⟨b,o,rfl,hbb,hc⟩:=HA.o (by omega)
     obtain⟨cs,hr,hR⟩:=hc j y hy
     have hB2:=HB.o.trans (HB1.o.mono HB.o.size)
     have HV:=I (HR.o.symm.trans (HS.o j m y hy))
     have HV2:=I (HV.o.trans (if_neg (by omega)))
     have HR1:=I (za hr hB2 hbb)
     have HC:=I (IH.o y (List.mem_of_getElem? hy) m cs wr h0 (hR.next hB2))
     have HCL:=I (zk hR)
     have hle:=HLE.o y m h0
     have h0':(m:Int) < 500:=by omega
     clear hc hr hR hB2 hy HV h0
     go_wp2_with (first|((with_reducible refine z7 27 _ rfl ?_ b (o+j*6) cs _ rfl HR1.o Tryz.underlying27 rfl ?_ ?_);(exact wA rfl);rw[HCL.o.1];kernel_rfl)|(go_at_call 61;refine HC.o.mono ?_;rintro e w' ⟨rfl,hb⟩;have HB2:=I hb;clear hb))
     go_roundg g
     case measure=>omega
     case rel=>exact⟨j+1,_,by omega,by go_num,rfl,hle,HB1.o.trans (HB2.o.mono HB1.o.size),HV2.o.symm⟩
    ·have HV:=I (HR.o.symm.trans (HCE.o j m (by omega)))
     have h0': ¬ ((m:Int) < 500):=by omega
     have hm500:m= 500:=by omega
     go_wp2
     all_goals
      go_ret
      exact⟨by rw[HV.o,hm500];rfl,HB.o.trans (HB1.o.mono HB.o.size)⟩
theorem zaL (t:VT) (cs:List Value) (w:World) (hv:ValAt w w.heap.size cs t):Calls Tryz.prog 34 #[.agg ⟨cs⟩] w fun e w'=>e= .returned (.int .i64 (cntV t 0:Nat))/\Below w.heap.size w w':=by
 have HCL:=I (vlen hv)
 have HV:=I hv
 clear hv
 go_enter Tryz.func34,Tryz.ntmps34
 go_upto_region 1 with (fail)
 have HB:=I (zc w (.cells ⟨cs⟩ 27))
 have HR:=I (zm w cs 27)
 generalize w.alloc (.cells ⟨cs⟩ 27)= W at*
 have HC:=I (zb2 t 0 cs W (by omega) (HV.o.next HB.o))
 go_wp2_with (first|((with_reducible refine z7 27 _ rfl ?_ w.heap.size 0 cs _ rfl HR.o Tryz.underlying27 rfl ?_ ?_);(exact wA rfl);rw[HCL.o];kernel_rfl)|(go_at_call 61;refine HC.o.mono ?_;rintro e w' ⟨rfl,hb⟩;have HB2:=I hb;clear hb))
 go_ret
 exact⟨rfl,HB.o.trans (HB2.o.mono HB.o.size)⟩
theorem lenB (l:Nat):(((l:Nat):Int) ==0)=(l ==0):=by
 by_cases h:l= 0
 ·subst h;rfl
 ·rw[beq_eq_false_iff_ne.2 h,beq_eq_false_iff_ne];omega
theorem sc2 (a b:Bool):a= false\/(a= true/\b= false)\/(a= true/\b= true):=by cases a<;>cases b<;>simp
theorem sc3 (a b c:Bool):a= false\/(a= true/\b= false)\/(a= true/\b= true/\c= false)\/(a= true/\b= true/\c= true):=by cases a<;>cases b<;>cases c<;>simp
theorem sc4 (a b c d:Bool):a= false\/(a= true/\b= false)\/(a= true/\b= true/\c= false)\/(a= true/\b= true/\c= true/\d= false)\/(a= true/\b= true/\c= true/\d= true):=by cases a<;>cases b<;>cases c<;>cases d<;>simp
theorem sc1 (a b c d e f:Bool):a= false\/(a= true/\b= false)\/(a= true/\b= true/\c= false)\/(a= true/\b= true/\c= true/\d= false)\/(a= true/\b= true/\c= true/\d= true/\e= true)\/(a= true/\b= true/\c= true/\d= true/\e= false/\f= true)\/(a= true/\b= true/\c= true/\d= true/\e= false/\f= false):=by cases a<;>cases b<;>cases c<;>cases d<;>cases e<;>cases f<;>simp
theorem sc5 (a b c d e:Bool):a= false\/(a= true/\b= false)\/(a= true/\b= true/\c= false)\/(a= true/\b= true/\c= true/\d= false)\/(a= true/\b= true/\c= true/\d= true/\e= false)\/(a= true/\b= true/\c= true/\d= true/\e= true):=by cases a<;>cases b<;>cases c<;>cases d<;>cases e<;>simp
theorem zan:∀ (t:VT) (far d:Nat) (cs:List Value) (w:World),far+d= 13->ValAt w w.heap.size cs t->
  Calls Tryz.prog 35 #[.agg ⟨cs⟩,.int .i64 far] w fun e w'=>e= .returned (.bool (zo t d))/\Below w.heap.size w w':=by
 intro t
 induction t using VT.ind with
 |h k n f s ns its ih=>
  intro far d cs w hfd hv
  have IH:=I ih
  obtain⟨vn,vi,rfl,_,_,hf,_,hn,_,hi⟩:=hv.inv
  obtain⟨_,NA,nc,rfl,_⟩:=id hn
  obtain⟨A,c,rfl,hil,hA⟩:=z0K hi
  have hnl:=hn.1
  have HF:=I (wf64 hf)
  have HN:=I hn
  have HA:=I hA
  have hf13:far<=13:=by omega
  have hfd':d= 13 - far:=by omega
  have HO:Hid (zo (.mk k n f s ns its) d= if 12 < d then false
   else if k= 1 then bareB true false false false n f s ns.length its.length && (n / 2 ==0)
   else if k= 2 then bareB true false false false n f s ns.length its.length
   else if k= 3 then bareB false true false false n f s ns.length its.length
   else if k= 4 then bareB false false true false n f s ns.length its.length && decide (s.size<=200)
   else if k= 6 then(ns.length ==its.length) && (riseB none ns && (bareB false false false true n f s ns.length its.length && zA its (d+1)))
   else if k= 5 then bareB false false false true n f s ns.length its.length && ((ns.length ==0) && zA its (d+1))
   else false):=I (by rw[zo])
  generalize hres:zo (.mk k n f s ns its) d= res at*
  have HW:=I (zc w (.cells ⟨[.int .i64 k,.int .i64 n,.float .f64 f,.string s,.slice NA ns.length nc,.slice A its.length c]⟩ 27))
  have HSZ:=I (zw w (.cells ⟨[.int .i64 k,.int .i64 n,.float .f64 f,.string s,.slice NA ns.length nc,.slice A its.length c]⟩ 27))
  have HRG:=I (zm w [.int .i64 k,.int .i64 n,.float .f64 f,.string s,.slice NA ns.length nc,.slice A its.length c] 27)
  clear ih hv hi hA hf hres hn
  go_enter Tryz.func35,Tryz.ntmps35
  go_upto_region 1 with (fail)
  generalize w.alloc (.cells ⟨[.int .i64 k,.int .i64 n,.float .f64 f,.string s,.slice NA ns.length nc,.slice A its.length c]⟩ 27)= W at*
  have d0:W.cell? ⟨w.heap.size,0,none⟩= some (.int .i64 k):=by have:=HRG.o 0 _ rfl;simpa using this
  have d1:W.cell? ⟨w.heap.size,1,none⟩= some (.int .i64 n):=by have:=HRG.o 1 _ rfl;simpa using this
  have d3:W.cell? ⟨w.heap.size,3,none⟩= some (.string s):=by have:=HRG.o 3 _ rfl;simpa using this
  have d4:W.cell? ⟨w.heap.size,4,none⟩= some (.slice NA ns.length nc):=by have:=HRG.o 4 _ rfl;simpa using this
  have d5:W.cell? ⟨w.heap.size,5,none⟩= some (.slice A its.length c):=by have:=HRG.o 5 _ rfl;simpa using this
  have D5:=I d5
  have HB2:=I (Below.refl W.heap.size W)
  have HL6:Hid (∀ a b c d e f:Value,[a,b,c,d,e,f].length= 6):=I fun _ _ _ _ _ _=>rfl
  have HZ:=I (fun k n s vn vi z=>zbF k n f s vn vi HF.o z)
  have HNS:=I (fun z (hz:Below w.heap.size w z)=>za8 (.slice NA ns.length nc) ns its.length z ((HN.o.below hz fun _ _ _ h=>h).more hz.size))
  obtain⟨bi,hbi⟩:∃ b,(its.length ==0)= b:=⟨_,rfl⟩
  obtain⟨bm,hbm⟩:∃ b,(ns.length ==0)= b:=⟨_,rfl⟩
  obtain⟨bz,hcz⟩:∃ b,(cmpF f 0 ==0)= b:=⟨_,rfl⟩
  obtain⟨bs,hbs⟩:∃ b,s.toList.isEmpty= b:=⟨_,rfl⟩
  obtain⟨b0,hb0⟩:∃ b,(n ==0)= b:=⟨_,rfl⟩
  obtain⟨b1,hb1⟩:∃ b,(n ==1)= b:=⟨_,rfl⟩
  obtain⟨bl,hbl⟩:∃ b,decide (s.size<=200)= b:=⟨_,rfl⟩
  obtain⟨bn,hbn⟩:∃ b,(riseB none ns && (ns.length ==its.length))= b:=⟨_,rfl⟩
  have i1:((its.length:Int) ==0)= bi:=(lenB _).trans hbi
  have m1:((ns.length:Int) ==0)= bm:=(lenB _).trans hbm
  have m2:decide ((0:Int) <(ns.length:Int))=!bm:=by
   rw[← hbm]
   by_cases h:ns.length= 0
   ·rw[h];rfl
   ·rw[decide_eq_true (by omega),beq_eq_false_iff_ne.2 h];rfl
  have t2:(n !=0)=!b0:=by rw[← hb0];rfl
  have l1:decide ((s.size:Int)<=200)= bl:=by
   rw[← hbl]
   by_cases h:s.size<=200
   ·rw[decide_eq_true h,decide_eq_true (by omega)]
   ·rw[decide_eq_false h,decide_eq_false (by omega)]
  have t6:(n / 2 ==0)=(b0 || b1):=by
   rw[← hb0,← hb1]
   by_cases h0:n= 0
   ·subst h0;rfl
   ·by_cases h1:n= 1
    ·subst h1;rfl
    ·rw[beq_eq_false_iff_ne.2 h0,beq_eq_false_iff_ne.2 h1,Bool.or_false,beq_eq_false_iff_ne];omega
  rw[hcz] at HZ
  rw[hbn] at HNS
  by_cases hdeep:far= 0
  ·subst hdeep
   have t1:((0:Nat):Int) < 1:=by omega
   have hd12:12 < d:=by omega
   rcases sc2 bi bm with rfl|⟨rfl,rfl⟩|⟨rfl,rfl⟩
   all_goals (go_wp2;go_ret;exact⟨z6 (by rw[HO.o,if_pos hd12]),HW.o⟩)
  have t1: ¬ ((far:Int) < 1):=by omega
  have hd12: ¬ 12 < d:=by omega
  have HO:=I (HO.o.trans (if_neg hd12))
  by_cases k1:k= 1
  ·subst k1
   rcases sc1 bi bm bz bs b0 b1 with rfl|⟨rfl,rfl⟩|⟨rfl,rfl,rfl⟩|⟨rfl,rfl,rfl,rfl⟩|⟨rfl,rfl,rfl,rfl,rfl⟩|⟨rfl,rfl,rfl,rfl,rfl,rfl⟩|⟨rfl,rfl,rfl,rfl,rfl,rfl⟩
   all_goals (go_wp2_with (first|((with_reducible refine z7 27 _ rfl ?_ w.heap.size 0 [.int .i64 1,.int .i64 n,.float .f64 f,.string s,.slice NA ns.length nc,.slice A its.length c] _ rfl HRG.o Tryz.underlying27 rfl ?_ ?_);(exact wA rfl);rw[HL6.o];kernel_rfl)|(go_at_call 62;refine(HZ.o _ _ _ _ _ _).mono ?_;rintro e z ⟨rfl,hb⟩;have HB2:=I (HB2.o.trans (hb.mono HB2.o.size));have d0':=(hb.cell (p:=⟨w.heap.size,0,none⟩) HSZ.o).trans d0;have d1':=(hb.cell (p:=⟨w.heap.size,1,none⟩) HSZ.o).trans d1;have d3':=(hb.cell (p:=⟨w.heap.size,3,none⟩) HSZ.o).trans d3;have d4':=(hb.cell (p:=⟨w.heap.size,4,none⟩) HSZ.o).trans d4;have d5':=(hb.cell (p:=⟨w.heap.size,5,none⟩) HSZ.o).trans d5;clear hb));go_ret;exact⟨z6 (by rw[HO.o];simp[bareB,hbi,hbm,hcz,hbs,hb0,hbl,t6]),HW.o.trans (HB2.o.mono HW.o.size)⟩)
  by_cases k2:k= 2
  ·subst k2
   rcases sc4 bi bm bz bs with rfl|⟨rfl,rfl⟩|⟨rfl,rfl,rfl⟩|⟨rfl,rfl,rfl,rfl⟩|⟨rfl,rfl,rfl,rfl⟩
   all_goals (go_wp2_with (first|((with_reducible refine z7 27 _ rfl ?_ w.heap.size 0 [.int .i64 2,.int .i64 n,.float .f64 f,.string s,.slice NA ns.length nc,.slice A its.length c] _ rfl HRG.o Tryz.underlying27 rfl ?_ ?_);(exact wA rfl);rw[HL6.o];kernel_rfl)|(go_at_call 62;refine(HZ.o _ _ _ _ _ _).mono ?_;rintro e z ⟨rfl,hb⟩;have HB2:=I (HB2.o.trans (hb.mono HB2.o.size));have d0':=(hb.cell (p:=⟨w.heap.size,0,none⟩) HSZ.o).trans d0;have d1':=(hb.cell (p:=⟨w.heap.size,1,none⟩) HSZ.o).trans d1;have d3':=(hb.cell (p:=⟨w.heap.size,3,none⟩) HSZ.o).trans d3;have d4':=(hb.cell (p:=⟨w.heap.size,4,none⟩) HSZ.o).trans d4;have d5':=(hb.cell (p:=⟨w.heap.size,5,none⟩) HSZ.o).trans d5;clear hb));go_ret;exact⟨z6 (by rw[HO.o];simp[bareB,hbi,hbm,hcz,hbs,hb0,hbl,t6]),HW.o.trans (HB2.o.mono HW.o.size)⟩)
  by_cases k3:k= 3
  ·subst k3
   rcases sc4 bi bm b0 bs with rfl|⟨rfl,rfl⟩|⟨rfl,rfl,rfl⟩|⟨rfl,rfl,rfl,rfl⟩|⟨rfl,rfl,rfl,rfl⟩
   all_goals (go_wp2_with (first|((with_reducible refine z7 27 _ rfl ?_ w.heap.size 0 [.int .i64 3,.int .i64 n,.float .f64 f,.string s,.slice NA ns.length nc,.slice A its.length c] _ rfl HRG.o Tryz.underlying27 rfl ?_ ?_);(exact wA rfl);rw[HL6.o];kernel_rfl)|(go_at_call 62;refine(HZ.o _ _ _ _ _ _).mono ?_;rintro e z ⟨rfl,hb⟩;have HB2:=I (HB2.o.trans (hb.mono HB2.o.size));have d0':=(hb.cell (p:=⟨w.heap.size,0,none⟩) HSZ.o).trans d0;have d1':=(hb.cell (p:=⟨w.heap.size,1,none⟩) HSZ.o).trans d1;have d3':=(hb.cell (p:=⟨w.heap.size,3,none⟩) HSZ.o).trans d3;have d4':=(hb.cell (p:=⟨w.heap.size,4,none⟩) HSZ.o).trans d4;have d5':=(hb.cell (p:=⟨w.heap.size,5,none⟩) HSZ.o).trans d5;clear hb));go_ret;exact⟨z6 (by rw[HO.o];simp[bareB,hbi,hbm,hcz,hbs,hb0,hbl,t6]),HW.o.trans (HB2.o.mono HW.o.size)⟩)
  by_cases k4:k= 4
  ·subst k4
   rcases sc5 bi bm bz b0 bl with rfl|⟨rfl,rfl⟩|⟨rfl,rfl,rfl⟩|⟨rfl,rfl,rfl,rfl⟩|⟨rfl,rfl,rfl,rfl,rfl⟩|⟨rfl,rfl,rfl,rfl,rfl⟩
   all_goals (go_wp2_with (first|((with_reducible refine z7 27 _ rfl ?_ w.heap.size 0 [.int .i64 4,.int .i64 n,.float .f64 f,.string s,.slice NA ns.length nc,.slice A its.length c] _ rfl HRG.o Tryz.underlying27 rfl ?_ ?_);(exact wA rfl);rw[HL6.o];kernel_rfl)|(go_at_call 62;refine(HZ.o _ _ _ _ _ _).mono ?_;rintro e z ⟨rfl,hb⟩;have HB2:=I (HB2.o.trans (hb.mono HB2.o.size));have d0':=(hb.cell (p:=⟨w.heap.size,0,none⟩) HSZ.o).trans d0;have d1':=(hb.cell (p:=⟨w.heap.size,1,none⟩) HSZ.o).trans d1;have d3':=(hb.cell (p:=⟨w.heap.size,3,none⟩) HSZ.o).trans d3;have d4':=(hb.cell (p:=⟨w.heap.size,4,none⟩) HSZ.o).trans d4;have d5':=(hb.cell (p:=⟨w.heap.size,5,none⟩) HSZ.o).trans d5;clear hb));go_ret;exact⟨z6 (by rw[HO.o];simp[bareB,hbi,hbm,hcz,hbs,hb0,hbl,t6]),HW.o.trans (HB2.o.mono HW.o.size)⟩)
  by_cases k6:k= 6
  ·subst k6
   have HOK:Hid (res=(bz && (b0 && (bs && (bn && zA its (d+1)))))):=I (by
    rw[HO.o,if_neg (by decide),if_neg (by decide),if_neg (by decide),if_neg (by decide),if_pos rfl,← hbn]
    unfold bareB
    rw[hcz,hbs,hb0]
    generalize zA its (d+1)= z
    generalize riseB none ns= x
    generalize (ns.length ==its.length)= y
    cases x<;>cases y<;>cases z<;>cases b0<;>cases bz<;>cases bs<;>rfl)
   rcases sc2 bi bm with rfl|⟨rfl,rfl⟩|⟨rfl,rfl⟩<;>rcases sc4 bz b0 bs bn with rfl|⟨rfl,rfl⟩|⟨rfl,rfl,rfl⟩|⟨rfl,rfl,rfl,rfl⟩|⟨rfl,rfl,rfl,rfl⟩
   all_goals try simp only[Bool.not_true,Bool.not_false] at m2
   all_goals try simp only[Bool.not_true,Bool.not_false] at t2
   all_goals first
    |(go_wp2_with (first|((with_reducible refine z7 27 _ rfl ?_ w.heap.size 0 [.int .i64 6,.int .i64 n,.float .f64 f,.string s,.slice NA ns.length nc,.slice A its.length c] _ rfl HRG.o Tryz.underlying27 rfl ?_ ?_);(exact wA rfl);rw[HL6.o];kernel_rfl)|(go_at_call 62;refine(HZ.o _ _ _ _ _ _).mono ?_;rintro e z ⟨rfl,hb⟩;have HB2:=I (HB2.o.trans (hb.mono HB2.o.size));have d0':=(hb.cell (p:=⟨w.heap.size,0,none⟩) HSZ.o).trans d0;have d1':=(hb.cell (p:=⟨w.heap.size,1,none⟩) HSZ.o).trans d1;have d3':=(hb.cell (p:=⟨w.heap.size,3,none⟩) HSZ.o).trans d3;have d4':=(hb.cell (p:=⟨w.heap.size,4,none⟩) HSZ.o).trans d4;have d5':=(hb.cell (p:=⟨w.heap.size,5,none⟩) HSZ.o).trans d5;clear hb)|(go_at_call 63;refine(HNS.o _ (HW.o.trans (HB2.o.mono HW.o.size))).mono ?_;rintro e z2 ⟨rfl,hb⟩;have HB2:=I (HB2.o.trans (hb.mono HB2.o.size));clear hb));go_ret;exact⟨z6 (by rw[HOK.o];rfl),HW.o.trans (HB2.o.mono HW.o.size)⟩)
    |skip
   all_goals
    have HR:Hid (res= zA its (d+1)):=I (by rw[HOK.o];rfl)
    go_wp2_with (first|((with_reducible refine z7 27 _ rfl ?_ w.heap.size 0 [.int .i64 6,.int .i64 n,.float .f64 f,.string s,.slice NA ns.length nc,.slice A its.length c] _ rfl HRG.o Tryz.underlying27 rfl ?_ ?_);(exact wA rfl);rw[HL6.o];kernel_rfl)|(go_at_call 62;refine(HZ.o _ _ _ _ _ _).mono ?_;rintro e z ⟨rfl,hb⟩;have HB2:=I (HB2.o.trans (hb.mono HB2.o.size));have d0':=(hb.cell (p:=⟨w.heap.size,0,none⟩) HSZ.o).trans d0;have d1':=(hb.cell (p:=⟨w.heap.size,1,none⟩) HSZ.o).trans d1;have d3':=(hb.cell (p:=⟨w.heap.size,3,none⟩) HSZ.o).trans d3;have d4':=(hb.cell (p:=⟨w.heap.size,4,none⟩) HSZ.o).trans d4;have d5':=(hb.cell (p:=⟨w.heap.size,5,none⟩) HSZ.o).trans d5;clear hb)|(go_at_call 63;refine(HNS.o _ (HW.o.trans (HB2.o.mono HW.o.size))).mono ?_;rintro e z2 ⟨rfl,hb⟩;have HB2:=I (HB2.o.trans (hb.mono HB2.o.size));clear hb))
    go_loopg [6] its.length (fun q x u=>∃ j:Nat,j+q= its.length/\x= .int .i64 j/\Below W.heap.size W u/\zA (its.drop j) (d+1)= res)
    case atStart=>exact⟨0,by omega,rfl,HB2.o,HR.o.symm⟩
    case round=>
     obtain⟨j,hj,rfl,hb,hres⟩:=hrel
     have HR2:=I hres
     have HBK:=I hb
     have d5':=(hb.cell (p:=⟨w.heap.size,5,none⟩) HSZ.o).trans D5.o
     clear hres hb
     cases gk with
     |zero=>
      obtain rfl:j= its.length:=by omega
      have hge: ¬ ((its.length:Int) <(its.length:Int)):=by omega
      have HVE:=I (HR2.o.symm.trans z25)
      go_wp2
      go_ret
      exact⟨z6 HVE.o.symm,HW.o.trans (HBK.o.mono HW.o.size)⟩
     |succ q=>
      have hlt:(j:Int) <(its.length:Int):=by omega
      obtain⟨x,hx⟩:∃ x,its[j]?= some x:=⟨_,List.getElem?_eq_getElem (by omega)⟩
      obtain⟨b,o',rfl,hbl,hc⟩:=HA.o (by omega)
      obtain⟨ks,hks,hvx⟩:=hc j x hx
      have HVS:=I (HR2.o.symm.trans (z1G hx))
      have HBT:=I (HW.o.trans (HBK.o.mono HW.o.size))
      have HKS:=I (za hks HBT.o hbl)
      have HKL:=I (zk hvx)
      have HC:=I (IH.o x (List.mem_of_getElem? hx) (far - 1) (d+1) ks wr (by omega) (hvx.next HBT.o))
      have hd1:((far - 1:Nat):Int)=(far:Int) - 1:=by omega
      rw[hd1] at HC
      clear hc hks hvx hx hd1
      generalize zo x (d+1)= rx at*
      cases rx with
      |true=>
       have HV2:=I (HVS.o.trans (Bool.true_and _))
       clear HVS
       go_wp2_with (first|((with_reducible refine z7 27 _ rfl ?_ b (o'+j*6) ks _ rfl HKS.o Tryz.underlying27 rfl ?_ ?_);(exact wA rfl);rw[HKL.o.1];kernel_rfl)|(go_at_call 35;refine HC.o.mono ?_;rintro e z ⟨rfl,hbz⟩;have HB3:=I hbz;clear hbz))
       go_roundg q
       case measure=>omega
       case rel=>exact⟨j+1,by omega,by go_num,HBK.o.trans (HB3.o.mono HBK.o.size),HV2.o.symm⟩
      |false=>
       have HV2:Hid (res= false):=I (HVS.o.trans (Bool.false_and _))
       clear HVS
       go_wp2_with (first|((with_reducible refine z7 27 _ rfl ?_ b (o'+j*6) ks _ rfl HKS.o Tryz.underlying27 rfl ?_ ?_);(exact wA rfl);rw[HKL.o.1];kernel_rfl)|(go_at_call 35;refine HC.o.mono ?_;rintro e z ⟨rfl,hbz⟩;have HB3:=I hbz;clear hbz))
       go_ret
       exact⟨z6 HV2.o.symm,HBT.o.trans (HB3.o.mono HBT.o.size)⟩
  by_cases k5:k= 5
  ·subst k5
   have HOK:Hid (res=(bz && (b0 && (bs && (bm && zA its (d+1)))))):=I (by
    rw[HO.o,if_neg (by decide),if_neg (by decide),if_neg (by decide),if_neg (by decide),if_neg (by decide),if_pos rfl,hbm]
    unfold bareB
    rw[hcz,hbs,hb0]
    generalize zA its (d+1)= z
    cases bm<;>cases z<;>cases b0<;>cases bz<;>cases bs<;>rfl)
   cases bi<;>cases bm<;>rcases sc3 bz b0 bs with rfl|⟨rfl,rfl⟩|⟨rfl,rfl,rfl⟩|⟨rfl,rfl,rfl⟩
   all_goals try simp only[Bool.not_true,Bool.not_false] at m2
   all_goals try simp only[Bool.not_true,Bool.not_false] at t2
   all_goals try have m3:(0:Int) <(ns.length:Int):=of_decide_eq_true m2
   all_goals try have m4:0 < ns.length:=by omega
   all_goals first
    |(go_wp2_with (first|((with_reducible refine z7 27 _ rfl ?_ w.heap.size 0 [.int .i64 5,.int .i64 n,.float .f64 f,.string s,.slice NA ns.length nc,.slice A its.length c] _ rfl HRG.o Tryz.underlying27 rfl ?_ ?_);(exact wA rfl);rw[HL6.o];kernel_rfl)|(go_at_call 62;refine(HZ.o _ _ _ _ _ _).mono ?_;rintro e z ⟨rfl,hb⟩;have HB2:=I (HB2.o.trans (hb.mono HB2.o.size));have d0':=(hb.cell (p:=⟨w.heap.size,0,none⟩) HSZ.o).trans d0;have d1':=(hb.cell (p:=⟨w.heap.size,1,none⟩) HSZ.o).trans d1;have d3':=(hb.cell (p:=⟨w.heap.size,3,none⟩) HSZ.o).trans d3;have d4':=(hb.cell (p:=⟨w.heap.size,4,none⟩) HSZ.o).trans d4;have d5':=(hb.cell (p:=⟨w.heap.size,5,none⟩) HSZ.o).trans d5;clear hb));go_ret;exact⟨z6 (by rw[HOK.o];rfl),HW.o.trans (HB2.o.mono HW.o.size)⟩)
    |skip
   all_goals
    have hm0:ns.length= 0:=eq_of_beq hbm
    rw[hm0] at d4
    clear hm0
    have HR:Hid (res= zA its (d+1)):=I (by rw[HOK.o];rfl)
    go_wp2_with (first|((with_reducible refine z7 27 _ rfl ?_ w.heap.size 0 [.int .i64 5,.int .i64 n,.float .f64 f,.string s,.slice NA ns.length nc,.slice A its.length c] _ rfl HRG.o Tryz.underlying27 rfl ?_ ?_);(exact wA rfl);rw[HL6.o];kernel_rfl)|(go_at_call 62;refine(HZ.o _ _ _ _ _ _).mono ?_;rintro e z ⟨rfl,hb⟩;have HB2:=I (HB2.o.trans (hb.mono HB2.o.size));have d0':=(hb.cell (p:=⟨w.heap.size,0,none⟩) HSZ.o).trans d0;have d1':=(hb.cell (p:=⟨w.heap.size,1,none⟩) HSZ.o).trans d1;have d3':=(hb.cell (p:=⟨w.heap.size,3,none⟩) HSZ.o).trans d3;have d4':=(hb.cell (p:=⟨w.heap.size,4,none⟩) HSZ.o).trans d4;have d5':=(hb.cell (p:=⟨w.heap.size,5,none⟩) HSZ.o).trans d5;clear hb))
    go_loopg [6] its.length (fun q x u=>∃ j:Nat,j+q= its.length/\x= .int .i64 j/\Below W.heap.size W u/\zA (its.drop j) (d+1)= res)
    case atStart=>exact⟨0,by omega,rfl,HB2.o,HR.o.symm⟩
    case round=>
     obtain⟨j,hj,rfl,hb,hres⟩:=hrel
     have HR2:=I hres
     have HBK:=I hb
     have d5':=(hb.cell (p:=⟨w.heap.size,5,none⟩) HSZ.o).trans D5.o
     clear hres hb
     cases gk with
     |zero=>
      obtain rfl:j= its.length:=by omega
      have hge: ¬ ((its.length:Int) <(its.length:Int)):=by omega
      have HVE:=I (HR2.o.symm.trans z25)
      go_wp2
      go_ret
      exact⟨z6 HVE.o.symm,HW.o.trans (HBK.o.mono HW.o.size)⟩
     |succ q=>
      have hlt:(j:Int) <(its.length:Int):=by omega
      obtain⟨x,hx⟩:∃ x,its[j]?= some x:=⟨_,List.getElem?_eq_getElem (by omega)⟩
      obtain⟨b,o',rfl,hbl,hc⟩:=HA.o (by omega)
      obtain⟨ks,hks,hvx⟩:=hc j x hx
      have HVS:=I (HR2.o.symm.trans (z1G hx))
      have HBT:=I (HW.o.trans (HBK.o.mono HW.o.size))
      have HKS:=I (za hks HBT.o hbl)
      have HKL:=I (zk hvx)
      have HC:=I (IH.o x (List.mem_of_getElem? hx) (far - 1) (d+1) ks wr (by omega) (hvx.next HBT.o))
      have hd1:((far - 1:Nat):Int)=(far:Int) - 1:=by omega
      rw[hd1] at HC
      clear hc hks hvx hx hd1
      generalize zo x (d+1)= rx at*
      cases rx with
      |true=>
       have HV2:=I (HVS.o.trans (Bool.true_and _))
       clear HVS
       go_wp2_with (first|((with_reducible refine z7 27 _ rfl ?_ b (o'+j*6) ks _ rfl HKS.o Tryz.underlying27 rfl ?_ ?_);(exact wA rfl);rw[HKL.o.1];kernel_rfl)|(go_at_call 35;refine HC.o.mono ?_;rintro e z ⟨rfl,hbz⟩;have HB3:=I hbz;clear hbz))
       go_roundg q
       case measure=>omega
       case rel=>exact⟨j+1,by omega,by go_num,HBK.o.trans (HB3.o.mono HBK.o.size),HV2.o.symm⟩
      |false=>
       have HV2:Hid (res= false):=I (HVS.o.trans (Bool.false_and _))
       clear HVS
       go_wp2_with (first|((with_reducible refine z7 27 _ rfl ?_ b (o'+j*6) ks _ rfl HKS.o Tryz.underlying27 rfl ?_ ?_);(exact wA rfl);rw[HKL.o.1];kernel_rfl)|(go_at_call 35;refine HC.o.mono ?_;rintro e z ⟨rfl,hbz⟩;have HB3:=I hbz;clear hbz))
       go_ret
       exact⟨z6 HV2.o.symm,HBT.o.trans (HB3.o.mono HBT.o.size)⟩
  have s1:(k ==1)= false:=by rw[beq_eq_false_iff_ne];exact k1
  have s2:(k ==2)= false:=by rw[beq_eq_false_iff_ne];exact k2
  have s3:(k ==3)= false:=by rw[beq_eq_false_iff_ne];exact k3
  have s4:(k ==4)= false:=by rw[beq_eq_false_iff_ne];exact k4
  have s5:(k ==5)= false:=by rw[beq_eq_false_iff_ne];exact k5
  have s6:(k ==6)= false:=by rw[beq_eq_false_iff_ne];exact k6
  rcases sc2 bi bm with rfl|⟨rfl,rfl⟩|⟨rfl,rfl⟩
  all_goals (go_wp2;go_ret;exact⟨z6 (by rw[HO.o,if_neg k1,if_neg k2,if_neg k3,if_neg k4,if_neg k6,if_neg k5]),HW.o⟩)
theorem z5V (t:VT) (cs:List Value) (w:World) (hv:ValAt w w.heap.size cs t):Calls Tryz.prog 12 #[.agg ⟨cs⟩] w fun e w'=>e= .returned (.bool (decide (cntV t 0<=200) && zo t 1))/\Below w.heap.size w w':=by
 have HB1:=I (zc w (.cells ⟨cs⟩ 27))
 have HS1:=I (zw w (.cells ⟨cs⟩ 27))
 have HR1:=I (zm w cs 27)
 have HL:=I (zk hv)
 have HV:=I (hv.next HB1.o)
 clear hv
 go_enter Tryz.func12,Tryz.ntmps12
 go_upto_region 1 with (fail)
 generalize w.alloc (.cells ⟨cs⟩ 27)= W at*
 have HP:=I (zaL t cs W HV.o)
 by_cases hc:cntV t 0<=200
 ·have t1:((cntV t 0:Nat):Int)<=200:=by omega
  have HD:Hid ((decide (cntV t 0<=200) && zo t 1)= zo t 1):=I (by rw[decide_eq_true hc];exact Bool.true_and _)
  go_wp2_with (first|((with_reducible refine z7 27 _ rfl ?_ w.heap.size 0 cs _ rfl HR1.o Tryz.underlying27 rfl ?_ ?_);(exact wA rfl);rw[HL.o.1];kernel_rfl)|(go_at_call 34;refine HP.o.mono ?_;rintro e z ⟨rfl,hbz⟩;have HB2:=I hbz;have HR2:=I (za HR1.o hbz HS1.o);clear hbz)|((with_reducible refine z7 27 _ rfl ?_ w.heap.size 0 cs _ rfl HR2.o Tryz.underlying27 rfl ?_ ?_);(exact wA rfl);rw[HL.o.1];kernel_rfl)|(go_at_call 35;refine(zan t 12 1 cs _ (by decide) (HV.o.next HB2.o)).mono ?_;rintro e z2 ⟨rfl,hbz⟩;have HB3:=I hbz;clear hbz))
  go_ret
  exact⟨z6 HD.o.symm,HB1.o.trans ((HB2.o.trans (HB3.o.mono HB2.o.size)).mono HB1.o.size)⟩
 ·have t1: ¬ (((cntV t 0:Nat):Int)<=200):=by omega
  have HD:Hid ((decide (cntV t 0<=200) && zo t 1)= false):=I (by rw[decide_eq_false hc];exact Bool.false_and _)
  go_wp2_with (first|((with_reducible refine z7 27 _ rfl ?_ w.heap.size 0 cs _ rfl HR1.o Tryz.underlying27 rfl ?_ ?_);(exact wA rfl);rw[HL.o.1];kernel_rfl)|(go_at_call 34;refine HP.o.mono ?_;rintro e z ⟨rfl,hbz⟩;have HB2:=I hbz;clear hbz))
  go_ret
  first|exact⟨z6 HD.o.symm,HB1.o.trans (HB2.o.mono HB1.o.size)⟩|exact⟨rfl,HB1.o.trans (HB2.o.mono HB1.o.size)⟩
end
section
open Go Go.RowKit
theorem TypAt.next {w w':World} {cs:List Value} {t:TT} (h:TypAt w w.heap.size cs t) (hb:Below w.heap.size w w'):TypAt w' w'.heap.size cs t:=(h.under hb).more hb.size
theorem z9B {w:World} {v:Value} {l:List TT} (h:SlAt w w.heap.size 3 (TypAt w w.heap.size) v l):∃ A c,v= .slice A l.length c/\l.length<=9223372036854775807/\
  (0 < l.length->∃ b o,A= some ⟨b,o,none⟩/\b < w.heap.size/\∀ (i:Nat) x,l[i]?= some x->∃ cs:List Value,w.rangeAt b (o+i*3) cs/\TypAt w w.heap.size cs x):=by
 obtain⟨h0,A,c,h1,h2⟩:=h
 refine⟨A,c,h1,h0,fun hp=> ?_⟩
 obtain⟨b,o,h3,h4,h5⟩:=h2 hp
 refine⟨b,o,h3,h4,fun i x hx=> ?_⟩
 obtain⟨cs,_,h7,h8⟩:=h5 i x hx
 exact⟨cs,h7,h8⟩
theorem z4s {w:World} {B:Nat} {cs:List Value} {t:TT} (h:TypAt w B cs t):cs.length= 3/\∀ u∈cs,u.oneCell'= true:=by
 cases t with
 |mk k ns its=>
  have h9:=h.one
  obtain⟨vn,vi,rfl,_,h1,_,h2⟩:=h.inv
  exact⟨rfl,h9⟩
mutual
def cntT:TT->Nat->Nat
 | .mk _ _ its,n=>cntTL its (n+1)
def cntTL:List TT->Nat->Nat
 |[],n=>n
 |a::l,n=>if 500<=n then n else cntTL l (cntT a n)
end
theorem z8C:∀ (l:List TT) (n:Nat),(∀ x∈l,∀ m,m < 500->cntT x m<=500)->n<=500->cntTL l n<=500
 |[],n,_,h=>by rw[cntTL];exact h
 |a::l,n,h,hn=>by
  rw[cntTL]
  split
  ·exact hn
  ·exact z8C l _ (fun x hx=>h x (List.mem_cons_of_mem _ hx)) (h a (List.mem_cons_self ..) n (by omega))
theorem zfw (t:TT):∀ m,m < 500->cntT t m<=500:=by
 induction t using TT.ind with
 |h k ns its ih=>exact fun m hm=>by rw[cntT];exact z8C its _ ih (by omega)
theorem zak {l:List TT} {k m:Nat} {x:TT} (h:l[k]?= some x):cntTL (l.drop k) m= if 500<=m then m else cntTL (l.drop (k+1)) (cntT x m):=by
 rw[z0j h,cntTL]
theorem zcS {l:List TT} {m:Nat}:cntTL (l.drop l.length) m= m:=by
 rw[List.drop_eq_nil_of_le (Nat.le_refl _),cntTL]
end
section
open Go Go.RowKit
theorem zgD:∀ (x:TT) (far:Nat) (cs:List Value) (w:World),far<=40->TypAt w w.heap.size cs x->Calls Tryz.prog 54 #[.agg ⟨cs⟩,.int .i64 far] w (z6n w):=by
 intro x
 induction x using TT.ind with
 |h k ns its ih=>
  intro far cs w hfar hv
  obtain⟨vn,vi,rfl,_,_,_,hi⟩:=hv.inv
  obtain⟨A,c,rfl,hil,hA⟩:=z9B hi
  have HA:=I hA
  have IH:=I ih
  clear hA hv ih hi
  go_enter Tryz.func54,Tryz.ntmps54
  go_upto_region 1 with (fail)
  have hb0:=zc w (.cells ⟨[.int .i64 k,vn,.slice A its.length c]⟩ 48)
  have hz0:=zw w (.cells ⟨[.int .i64 k,vn,.slice A its.length c]⟩ 48)
  have c5:=zp w ⟨[.int .i64 k,vn,.slice A its.length c]⟩ 48 2
  generalize w.alloc (.cells ⟨[.int .i64 k,vn,.slice A its.length c]⟩ 48)= W at*
  have HB:=I hb0
  have C5:=I c5
  have HSZ:=I hz0
  clear hb0 c5 hz0
  go_wp2
  go_loopg [5,6] its.length (fun g m i wr=>∃ (j:Nat) (x:Int),j+g= its.length/\i= .int .i64 j/\m= .int .i64 x/\Below W.heap.size W wr)
  case atStart=>exact⟨0,0,by omega,rfl,rfl,Below.refl _ _⟩
  case round=>
   obtain⟨j,x,hj,rfl,rfl,hb⟩:=hrel
   have HB1:=I hb
   have d5:=(hb.cell (p:=⟨w.heap.size,2,none⟩) HSZ.o).trans C5.o
   clear hb
   simp only[List.getElem?_toArray,List.getElem?_cons_succ,List.getElem?_cons_zero] at d5
   cases gk with
   |zero=>
    have hge: ¬ ((j:Int) <(its.length:Int)):=by omega
    go_wp2
    go_ret
    exact⟨_,rfl,HB.o.trans (HB1.o.mono HB.o.size)⟩
   |succ g=>
    have hlt:(j:Int) <(its.length:Int):=by omega
    by_cases h0:far= 0
    ·subst h0
     go_wp2
     go_ret
     exact⟨_,rfl,HB.o.trans (HB1.o.mono HB.o.size)⟩
    ·have hpos:(0:Int) <(far:Int):=by omega
     obtain⟨y,hy⟩:∃ y,its[j]?= some y:=⟨_,List.getElem?_eq_getElem (by omega)⟩
     obtain⟨b,o,rfl,hbb,hc⟩:=HA.o (by omega)
     obtain⟨cs,hr,hR⟩:=hc j y hy
     have hB2:=HB.o.trans (HB1.o.mono HB.o.size)
     have HR:=I (za hr hB2 hbb)
     have HC:=I (IH.o y (List.mem_of_getElem? hy) (far - 1) cs wr (by omega) (hR.next hB2))
     have HCL:=I (z4s hR)
     have hf1:((far - 1:Nat):Int)=(far:Int) - 1:=by omega
     clear hc hr hR hB2 hy h0
     rw[hf1] at HC
     clear hf1
     go_wp2_with (first|((with_reducible refine z7 48 _ rfl ?_ b (o+j*3) cs _ rfl HR.o Tryz.underlying48 rfl ?_ ?_);(exact wA rfl);rw[HCL.o.1];kernel_rfl)|(go_at_call 54;refine HC.o.mono ?_;rintro e w' ⟨z,rfl,hb⟩;have HB2:=I hb;clear hb))
     all_goals
      go_roundg g
      case measure=>omega
      case rel=>exact⟨j+1,_,by omega,by go_num,rfl,HB1.o.trans (HB2.o.mono HB1.o.size)⟩
theorem za4:∀ (t:TT) (m:Nat) (cs:List Value) (w:World),m < 500->TypAt w w.heap.size cs t->
  Calls Tryz.prog 91 #[.agg ⟨cs⟩,.int .i64 m] w fun e w'=>e= .returned (.int .i64 (cntT t m:Nat))/\Below w.heap.size w w':=by
 intro t
 induction t using TT.ind with
 |h k ns its ih=>
  intro m cs w hm hv
  have IH:=I ih
  obtain⟨vn,vi,rfl,_,_,_,hi⟩:=hv.inv
  obtain⟨A,c,rfl,hil,hA⟩:=z9B hi
  have HA:=I hA
  have HS:=I (fun k m x=>zak (l:=its) (k:=k) (m:=m) (x:=x))
  have HE:=I (fun m=>zcS (l:=its) (m:=m))
  have HLE:=I (fun x m hm=>zfw x m hm)
  have HCE:Hid (∀ k m,500<=m->cntTL (its.drop k) m= m):=I (fun k m h=>by
   cases its.drop k with
   |nil=>rw[cntTL]
   |cons a l=>rw[cntTL,if_pos h])
  have H0:Hid (cntTL (its.drop 0) (m+1)= cntT (.mk k ns its) m):=I (by rw[cntT];rfl)
  clear ih hi hA hv
  generalize cntT (.mk k ns its) m= res at*
  go_enter Tryz.func91,Tryz.ntmps91
  go_upto_region 1 with (fail)
  have hb0:=zc w (.cells ⟨[.int .i64 k,vn,.slice A its.length c]⟩ 48)
  have hz0:=zw w (.cells ⟨[.int .i64 k,vn,.slice A its.length c]⟩ 48)
  have c5:=zp w ⟨[.int .i64 k,vn,.slice A its.length c]⟩ 48 2
  generalize w.alloc (.cells ⟨[.int .i64 k,vn,.slice A its.length c]⟩ 48)= W at*
  have HB:=I hb0
  have C5:=I c5
  have HSZ:=I hz0
  clear hb0 c5 hz0
  have hm2:(m:Int) < 500:=by omega
  go_wp2
  go_loopg [1,5] its.length (fun g u i wr=>∃ (j m:Nat),j+g= its.length/\i= .int .i64 j/\u= .int .i64 m/\m<=500/\Below W.heap.size W wr/\cntTL (its.drop j) m= res)
  case atStart=>exact⟨0,m+1,by omega,rfl,by go_num,by omega,Below.refl _ _,H0.o⟩
  case round=>
   obtain⟨j,m,hj,rfl,rfl,hm5,hb,hres⟩:=hrel
   have HB1:=I hb
   have HR:=I hres
   have d5:=(hb.cell (p:=⟨w.heap.size,2,none⟩) HSZ.o).trans C5.o
   clear hb hres
   simp only[List.getElem?_toArray,List.getElem?_cons_succ,List.getElem?_cons_zero] at d5
   have hm5':(m:Int)<=500:=by omega
   cases gk with
   |zero=>
    obtain rfl:j= its.length:=by omega
    have hge: ¬ ((its.length:Int) <(its.length:Int)):=by omega
    have HV:=I (HR.o.symm.trans (HE.o m))
    go_wp2
    go_ret
    exact⟨by rw[HV.o];go_num,HB.o.trans (HB1.o.mono HB.o.size)⟩
   |succ g=>
    have hlt:(j:Int) <(its.length:Int):=by omega
    by_cases h0:m < 500
    ·obtain⟨y,hy⟩:∃ y,its[j]?= some y:=⟨_,List.getElem?_eq_getElem (by omega)⟩
     obtain⟨b,o,rfl,hbb,hc⟩:=HA.o (by omega)
     obtain⟨cs,hr,hR⟩:=hc j y hy
     have hB2:=HB.o.trans (HB1.o.mono HB.o.size)
     have HV:=I (HR.o.symm.trans (HS.o j m y hy))
     have HV2:=I (HV.o.trans (if_neg (by omega)))
     have HR1:=I (za hr hB2 hbb)
     have HC:=I (IH.o y (List.mem_of_getElem? hy) m cs wr h0 (hR.next hB2))
     have HCL:=I (z4s hR)
     have hle:=HLE.o y m h0
     have h0':(m:Int) < 500:=by omega
     clear hc hr hR hB2 hy HV h0
     go_wp2_with (first|((with_reducible refine z7 48 _ rfl ?_ b (o+j*3) cs _ rfl HR1.o Tryz.underlying48 rfl ?_ ?_);(exact wA rfl);rw[HCL.o.1];kernel_rfl)|(go_at_call 91;refine HC.o.mono ?_;rintro e w' ⟨rfl,hb⟩;have HB2:=I hb;clear hb))
     go_roundg g
     case measure=>omega
     case rel=>exact⟨j+1,_,by omega,by go_num,rfl,hle,HB1.o.trans (HB2.o.mono HB1.o.size),HV2.o.symm⟩
    ·have HV:=I (HR.o.symm.trans (HCE.o j m (by omega)))
     have h0': ¬ ((m:Int) < 500):=by omega
     have hm500:m= 500:=by omega
     go_wp2
     all_goals
      go_ret
      exact⟨by rw[HV.o,hm500];rfl,HB.o.trans (HB1.o.mono HB.o.size)⟩
theorem zag (t:TT) (cs:List Value) (w:World) (hv:TypAt w w.heap.size cs t):Calls Tryz.prog 55 #[.agg ⟨cs⟩] w fun e w'=>e= .returned (.int .i64 (cntT t 0:Nat))/\Below w.heap.size w w':=by
 have HCL:=I (z4s hv)
 have HV:=I hv
 clear hv
 go_enter Tryz.func55,Tryz.ntmps55
 go_upto_region 1 with (fail)
 have HB:=I (zc w (.cells ⟨cs⟩ 48))
 have HR:=I (zm w cs 48)
 generalize w.alloc (.cells ⟨cs⟩ 48)= W at*
 have HC:=I (za4 t 0 cs W (by omega) (HV.o.next HB.o))
 go_wp2_with (first|((with_reducible refine z7 48 _ rfl ?_ w.heap.size 0 cs _ rfl HR.o Tryz.underlying48 rfl ?_ ?_);(exact wA rfl);rw[HCL.o.1];kernel_rfl)|(go_at_call 91;refine HC.o.mono ?_;rintro e w' ⟨rfl,hb⟩;have HB2:=I hb;clear hb))
 go_ret
 exact⟨rfl,HB.o.trans (HB2.o.mono HB.o.size)⟩
theorem zfZ (x:TT) (cs:List Value) (w:World) (hv:TypAt w w.heap.size cs x):Calls Tryz.prog 27 #[.agg ⟨cs⟩] w (z4Z w):=by
 have HCL:=I (z4s hv)
 have HV:=I hv
 clear hv
 go_enter Tryz.func27,Tryz.ntmps27
 go_upto_region 1 with (fail)
 have HB:=I (zc w (.cells ⟨cs⟩ 48))
 have HR:=I (zm w cs 48)
 have HSZ:=I (zw w (.cells ⟨cs⟩ 48))
 generalize w.alloc (.cells ⟨cs⟩ 48)= W at*
 have HC:=I (zgD x 40 cs W (by omega) (HV.o.next HB.o))
 go_wp2_with (first|((with_reducible refine z7 48 _ rfl ?_ w.heap.size 0 cs _ rfl HR.o Tryz.underlying48 rfl ?_ ?_);(exact wA rfl);rw[HCL.o.1];kernel_rfl)|(go_at_call 54;fail))
 refine HC.o.mono ?_
 rintro e w2 ⟨z,rfl,hb⟩
 have HB2:=I (HB.o.trans (hb.mono HB.o.size))
 have HR2:=I (za HR.o hb HSZ.o)
 have HC2:=I (zag x cs w2 (HV.o.next HB2.o))
 clear hb HC
 by_cases hz:z<=30
 ·go_wp2_with (first|((with_reducible refine z7 48 _ rfl ?_ w.heap.size 0 cs _ rfl HR2.o Tryz.underlying48 rfl ?_ ?_);(exact wA rfl);rw[HCL.o.1];kernel_rfl)|(go_at_call 55;refine HC2.o.mono ?_;rintro e w' ⟨rfl,hb⟩;have HB3:=I hb;clear hb))
  all_goals
   go_ret
   exact⟨_,rfl,HB2.o.trans (HB3.o.mono HB2.o.size)⟩
 ·go_wp2
  all_goals
   go_ret
   exact⟨_,rfl,HB2.o⟩
end
section
open Go Go.RowKit
theorem z79 (a b:ByteArray) (w:World):Calls Tryz.prog 75 #[.string a,.string b] w fun e w'=>e= .returned (.int .i64 (cmpS a b))/\w'= w:=by
 obtain⟨h1,h2⟩:=z3g a.data.toList b.data.toList
 obtain⟨k1,k2⟩:=z3g b.data.toList a.data.toList
 have h3:=z18 a.data.toList b.data.toList
 have h4:=z10 a.data.toList b.data.toList
 rw[← toList_eq,← toList_eq] at h1 h2 h3 k1 k2 h4
 have hc:cmpS a b= Lib.compareBytes a.toList b.toList:=by unfold cmpS;rw[toList_eq,toList_eq]
 rw[hc]
 rcases h3 with h|h|h
 ·rw[h]
  have t1:Op.bytesLess a.toList b.toList= true:=h1.2 h
  clear h1 h2 k1 k2 h4 hc h
  go_enter Tryz.func75,Tryz.ntmps75
  go_wp2
  go_ret
  exact⟨rfl,rfl⟩
 ·rw[h]
  have t1:Op.bytesLess a.toList b.toList= false:=by rw[Bool.eq_false_iff];intro e;have:=h1.1 e;omega
  have t2:Op.bytesLess b.toList a.toList= false:=by rw[Bool.eq_false_iff];intro e;have:=k1.1 e;omega
  have t3:(a.toList ==b.toList)= true:=h2.2 h
  clear h1 h2 k1 k2 h4 hc h
  go_enter Tryz.func75,Tryz.ntmps75
  go_wp2
  go_ret
  exact⟨rfl,rfl⟩
 ·rw[h]
  have t1:Op.bytesLess a.toList b.toList= false:=by rw[Bool.eq_false_iff];intro e;have:=h1.1 e;omega
  have t2:Op.bytesLess b.toList a.toList= true:=k1.2 (by omega)
  have t3:(a.toList ==b.toList)= false:=by rw[Bool.eq_false_iff];intro e;have:=h2.1 e;omega
  clear h1 h2 k1 k2 h4 hc h
  go_enter Tryz.func75,Tryz.ntmps75
  go_wp2
  go_ret
  exact⟨rfl,rfl⟩
theorem z3U (a b:Int) (w:World):Calls Tryz.prog 73 #[.int .i64 a,.int .i64 b] w fun e w'=>e= .returned (.int .i64 (cmpI a b))/\w'= w:=by
 rcases zY a b with ⟨h,k⟩|⟨h,k⟩|⟨h,k⟩
 ·rw[h]
  go_enter Tryz.func73,Tryz.ntmps73
  go_wp2
  go_ret
  exact⟨rfl,rfl⟩
 ·rw[h]
  have t1: ¬ (a < b):=by omega
  have t2: ¬ (b < a):=by omega
  clear k h
  go_enter Tryz.func73,Tryz.ntmps73
  go_wp2
  go_ret
  exact⟨rfl,rfl⟩
 ·rw[h]
  have t1: ¬ (a < b):=by omega
  go_enter Tryz.func73,Tryz.ntmps73
  go_wp2
  go_ret
  exact⟨rfl,rfl⟩
theorem z5X {α:Type} {f:α->α->Int} {l r:List α} {k:Nat} (hl:k<=l.length) (hr:k<=r.length) (h:k= l.length\/k= r.length):listC f (l.drop k) (r.drop k)= cmpI l.length r.length:=by
 unfold cmpI
 by_cases h1:l.length < r.length
 ·rw[if_pos (by omega),z4f (by omega) (by omega)]
 ·rw[if_neg (by omega)]
  by_cases h2:r.length < l.length
  ·rw[if_pos (by omega)]
   obtain⟨x,hx⟩:∃ x,l[k]?= some x:=⟨_,List.getElem?_eq_getElem (by omega)⟩
   exact z3f hx (by omega)
  ·rw[if_neg (by omega),z3z (by omega) (by omega)]
theorem zcv (u v:Value) (l r:List ByteArray) (w:World) (hu:SlAt w w.heap.size 1 StrR u l) (hv:SlAt w w.heap.size 1 StrR v r):
  Calls Tryz.prog 76 #[u,v] w fun e w'=>e= .returned (.int .i64 (listC cmpS l r))/\∃ m,w'= w.drewN m:=by
 obtain⟨_,A,ca,rfl,_⟩:=id hu
 obtain⟨_,D,cb,rfl,_⟩:=id hv
 obtain⟨_,hl,ha⟩:=z1o hu
 obtain⟨_,hr,hb⟩:=z1o hv
 have HA:=I ha
 have HB:=I hb
 have HS:=I (fun k x y=>z3i (f:=cmpS) (l:=l) (r:=r) (k:=k) (x:=x) (y:=y))
 have HT:=I (fun k=>z5X (f:=cmpS) (l:=l) (r:=r) (k:=k))
 have H0:Hid (listC cmpS (l.drop 0) (r.drop 0)= listC cmpS l r):=I rfl
 have HSG:=I (fun z=>z3U (l.length:Int) (r.length:Int) z)
 have hl2:(l.length:Int)<=9223372036854775807:=by omega
 have hr2:(r.length:Int)<=9223372036854775807:=by omega
 clear ha hb hu hv
 generalize listC cmpS l r= res at*
 go_enter Tryz.func76,Tryz.ntmps76
 go_wp2
 go_loopg [5] l.length (fun q x u=>∃ k m:Nat,k+q= l.length/\k<=r.length/\x= .int .i64 k/\u= w.drewN m/\listC cmpS (l.drop k) (r.drop k)= res)
 case atStart=>exact⟨0,0,by omega,by omega,rfl,rfl,H0.o⟩
 case round=>
  obtain⟨k,m,hk,hkr,rfl,rfl,hres⟩:=hrel
  have HR:=I hres
  clear hres
  cases gk with
  |zero=>
   obtain rfl:k= l.length:=by omega
   have hge: ¬ ((l.length:Int) <(l.length:Int)):=by omega
   have HV:=I ((HR.o).symm.trans (HT.o l.length (Nat.le_refl _) hkr (.inl rfl)))
   rw[← HV.o] at HSG
   clear HR
   go_wp2_with (go_at_call 73;refine(HSG.o _).mono ?_;rintro e z ⟨rfl,rfl⟩)
   go_ret
   exact⟨rfl,_,rfl⟩
  |succ q=>
   have hlt:(k:Int) <(l.length:Int):=by omega
   by_cases hkr2:k < r.length
   ·have hlt2:(k:Int) <(r.length:Int):=by omega
    obtain⟨x,hx⟩:∃ x,l[k]?= some x:=⟨_,List.getElem?_eq_getElem (by omega)⟩
    obtain⟨y,hy⟩:∃ y,r[k]?= some y:=⟨_,List.getElem?_eq_getElem hkr2⟩
    obtain⟨b1,o1,rfl,_,c1⟩:=HA.o (by omega)
    obtain⟨b2,o2,rfl,_,c2⟩:=HB.o (by omega)
    obtain⟨wm,hwm⟩:∃ wm,w.drewN m= wm:=⟨_,rfl⟩
    have d1:wm.cell? ⟨b1,o1+k,none⟩= some (.string x):=by rw[← hwm];exact(c1 k x hx).1
    have d2:wm.cell? ⟨b2,o2+k,none⟩= some (.string y):=by rw[← hwm];exact(c2 k y hy).1
    have HDM:Hid (∀ q,∃ m',wm.drewN q= w.drewN m'):=I fun q=>⟨m+q,by rw[← hwm,World.drewN_drewN]⟩
    rw[hwm]
    have HV:=I ((HR.o).symm.trans (HS.o k x y hx hy))
    have HC:=I (fun w=>z79 x y w)
    clear c1 c2 hx hy hkr hwm
    generalize cmpS x y= cv at*
    by_cases hc:cv= 0
    ·subst hc
     have HV2:=I (HV.o.trans (if_neg (fun h=>h rfl)))
     clear HV
     go_upto_region 4 with (fail)
     go_quiet ((go_at_call 75;exact Calls.quiet_of_same (HC.o _)))
     obtain⟨m',hm'⟩:=HDM.o nq
     rw[hm']
     go_wp2
     go_roundg q
     case measure=>omega
     case rel=>exact⟨k+1,_,by omega,by omega,by go_num,rfl,HV2.o.symm⟩
    ·have HV2:=I (HV.o.trans (if_pos hc))
     have t2:(cv !=0)= true:=by simpa using hc
     clear HV hc
     go_upto_region 4 with (fail)
     go_quiet ((go_at_call 75;exact Calls.quiet_of_same (HC.o _)))
     obtain⟨m',hm'⟩:=HDM.o nq
     rw[hm']
     go_wp2
     go_ret
     exact⟨zt HV2.o.symm,_,rfl⟩
   ·have HV:=I ((HR.o).symm.trans (HT.o k (by omega) hkr (.inr (by omega))))
    have hge: ¬ ((k:Int) <(r.length:Int)):=by omega
    rw[← HV.o] at HSG
    clear HR hkr hkr2
    go_wp2_with (go_at_call 73;refine(HSG.o _).mono ?_;rintro e z ⟨rfl,rfl⟩)
    go_ret
    exact⟨rfl,_,rfl⟩
end
section
open Go Go.RowKit
theorem zgs:∀ (x:ET) (far:Nat) (cs:List Value) (w:World),far<=40->ExpAt w w.heap.size cs x->Calls Tryz.prog 25 #[.agg ⟨cs⟩,.int .i64 far] w (z6n w):=by
 intro x
 induction x using ET.ind with
 |h k s t ns its ih=>
  intro far cs w hfar hv
  obtain⟨v0,v1,v2,v3,v4,v5,vn,vi,rfl,_,_,_,_,hil,hi⟩:=hv.inv
  obtain⟨_,A,c,rfl,hA⟩:=hi
  have HA:=I hA
  have IH:=I ih
  unfold maxLen at hil
  clear hA hv ih
  go_enter Tryz.func25,Tryz.ntmps25
  go_upto_region 1 with (fail)
  have hb0:=zc w (.cells ⟨[.int .i64 k,.string s,v0,v1,v2,v3,v4,v5,vn,.slice A its.length c]⟩ 30)
  have hz0:=zw w (.cells ⟨[.int .i64 k,.string s,v0,v1,v2,v3,v4,v5,vn,.slice A its.length c]⟩ 30)
  have c5:=zp w ⟨[.int .i64 k,.string s,v0,v1,v2,v3,v4,v5,vn,.slice A its.length c]⟩ 30 9
  generalize w.alloc (.cells ⟨[.int .i64 k,.string s,v0,v1,v2,v3,v4,v5,vn,.slice A its.length c]⟩ 30)= W at*
  have HB:=I hb0
  have C5:=I c5
  have HSZ:=I hz0
  clear hb0 c5 hz0
  go_wp2
  go_loopg [5,6] its.length (fun g m i wr=>∃ (j:Nat) (x:Int),j+g= its.length/\i= .int .i64 j/\m= .int .i64 x/\Below W.heap.size W wr)
  case atStart=>exact⟨0,0,by omega,rfl,rfl,Below.refl _ _⟩
  case round=>
   obtain⟨j,x,hj,rfl,rfl,hb⟩:=hrel
   have HB1:=I hb
   have d5:=(hb.cell (p:=⟨w.heap.size,9,none⟩) HSZ.o).trans C5.o
   clear hb
   simp only[List.getElem?_toArray,List.getElem?_cons_succ,List.getElem?_cons_zero] at d5
   cases gk with
   |zero=>
    have hge: ¬ ((j:Int) <(its.length:Int)):=by omega
    go_wp2
    go_ret
    exact⟨_,rfl,HB.o.trans (HB1.o.mono HB.o.size)⟩
   |succ g=>
    have hlt:(j:Int) <(its.length:Int):=by omega
    by_cases h0:far= 0
    ·subst h0
     go_wp2
     go_ret
     exact⟨_,rfl,HB.o.trans (HB1.o.mono HB.o.size)⟩
    ·have hpos:(0:Int) <(far:Int):=by omega
     have hz2:w.heap.size<=wr.heap.size:=Nat.le_trans HB.o.size HB1.o.size
     obtain⟨y,hy⟩:∃ y,its[j]?= some y:=⟨_,List.getElem?_eq_getElem (by omega)⟩
     obtain⟨b,o,rfl,hbb,hc⟩:=HA.o (by omega)
     obtain⟨cs,hcl,hr,hR⟩:=hc j y hy
     have hB2:=HB.o.trans (HB1.o.mono HB.o.size)
     have HR:=I (za hr hB2 hbb)
     have HC:=I (IH.o y (List.mem_of_getElem? hy) (far - 1) cs wr (by omega) ((hR.under hB2).more hB2.size))
     have HCL:=I hcl
     have hf1:((far - 1:Nat):Int)=(far:Int) - 1:=by omega
     clear hc hr hR hB2 hy hcl h0
     rw[hf1] at HC
     clear hf1
     go_wp2_with (first|(with_reducible refine z7 30 _ rfl ?hw b (o+j*10) cs _ rfl HR.o Tryz.underlying30 rfl ?hi ?_;(case hw=>exact wA rfl);(case hi=>rw[HCL.o];kernel_rfl))|(go_at_call 25;refine HC.o.mono ?_;rintro e w' ⟨z,rfl,hb⟩;have HB2:=I hb;clear hb))
     all_goals
      go_roundg g
      case measure=>omega
      case rel=>exact⟨j+1,_,by omega,by go_num,rfl,HB1.o.trans (HB2.o.mono HB1.o.size)⟩
theorem z9i (t:ET) (cs:List Value) (w:World) (hv:ExpAt w w.heap.size cs t):Calls Tryz.prog 26 #[.agg ⟨cs⟩] w (z5m w):=
 (z4Q t cs w hv).mono fun e w' ⟨h,hb⟩=>⟨(cntE t 0:Nat),by omega,by have:=z1i t 0 (by omega);omega,h,hb⟩
theorem zgd:∀ (x:ET) (cs:List Value) (w:World),ExpAt w w.heap.size cs x->Calls Tryz.prog 7 #[.agg ⟨cs⟩] w (z4Z w):=by
 intro x
 induction x using ET.ind with
 |h k s t ns its ih=>
  intro cs w hv
  have HV:=I hv
  have HCL:=I (eslen hv)
  obtain⟨v0,v1,v2,v3,v4,v5,vn,vi,hcs,_,_,ht,_,hil,hi⟩:=hv.inv
  obtain⟨_,A,c,rfl,hA⟩:=hi
  have HA:=I hA
  have IH:=I ih
  have HT:=I ht
  have HCS:=I hcs
  unfold maxLen at hil
  clear hA hv ih ht hcs
  go_enter Tryz.func7,Tryz.ntmps7
  go_upto_region 1 with (fail)
  have HB:=I (zc w (.cells ⟨cs⟩ 30))
  have HR:=I (zm w cs 30)
  have HSZ:=I (zw w (.cells ⟨cs⟩ 30))
  generalize w.alloc (.cells ⟨cs⟩ 30)= W at*
  have HR2:Hid (∀ z:World,Below W.heap.size W z->z.rangeAt w.heap.size 0 cs/\z.rangeAt w.heap.size 2 [v0,v1,v2,v3,v4,v5]/\z.cell? ⟨w.heap.size,9,none⟩= some (.slice A its.length c)):=I fun z hz=>by
   have hr:=za HR.o hz HSZ.o
   refine⟨hr,?_,?_⟩
   ·rw[HCS.o] at hr
    exact z3S (p:=[.int .i64 k,.string s]) (cs:=[v0,v1,v2,v3,v4,v5]) (q:=[vn,.slice A its.length c]) hr 2 rfl
   ·rw[HCS.o] at hr
    exact z5B hr 9 rfl
  have HC:=I (zgs (.mk k s t ns its) 40 cs W (by omega) ((HV.o.under HB.o).more HB.o.size))
  go_wp2_with (first|(with_reducible refine z7 30 _ rfl ?hw w.heap.size 0 cs _ rfl HR.o Tryz.underlying30 rfl ?hi ?_;(case hw=>exact wA rfl);(case hi=>rw[HCL.o];kernel_rfl))|(go_at_call 25;fail))
  refine HC.o.mono ?_
  rintro e w2 ⟨z,rfl,hb⟩
  have HB2:=I hb
  have HRZ:=I (HR2.o w2 hb).1
  have HB2':=I (HB.o.trans (hb.mono HB.o.size))
  have HC2:=I (z9i (.mk k s t ns its) cs w2 ((HV.o.under HB2'.o).more HB2'.o.size))
  clear hb HC
  by_cases hz:z<=30
  ·have hz':decide ((30:Int) < z)= false:=by simp;omega
   go_wp2_with (first|(with_reducible refine z7 30 _ rfl ?hw w.heap.size 0 cs _ rfl HRZ.o Tryz.underlying30 rfl ?hi ?_;(case hw=>exact wA rfl);(case hi=>rw[HCL.o];kernel_rfl))|(go_at_call 26;fail))
   refine HC2.o.mono ?_
   rintro e w3 ⟨y,hy0,hy1,rfl,hb⟩
   have HB3:=I (HB2.o.trans (hb.mono HB2.o.size))
   have HRY:=I (HR2.o w3 HB3.o).2.1
   have HB3':=I (HB.o.trans (HB3.o.mono HB.o.size))
   have HC3:=I (z7L t [v0,v1,v2,v3,v4,v5] w3 ((HT.o.under HB3'.o).more HB3'.o.size))
   clear hb HC2 HRZ HB2 HB2'
   by_cases hy:y < 500
   ·have hy':decide ((500:Int)<=y)= false:=by simp;omega
    go_wp2_with (first|(with_reducible refine z7 27 _ rfl ?hw w.heap.size 2 [v0,v1,v2,v3,v4,v5] _ rfl HRY.o Tryz.underlying27 rfl ?hi ?_;(case hw=>exact wA rfl);(case hi=>kernel_rfl))|(go_at_call 11;fail))
    refine HC3.o.mono ?_
    rintro e w4 ⟨q,rfl,hb⟩
    have HB4:=I (HB3.o.trans (hb.mono HB3.o.size))
    have HB4':=I (HB.o.trans (HB4.o.mono HB.o.size))
    clear hb HC3 HRY HB3 HB3'
    cases q with
    |false=>
     go_wp2
     go_ret
     exact⟨_,rfl,HB4'.o⟩
    |true=>
     go_wp2
     go_loopg [3] its.length (fun g i wr=>∃ j:Nat,j+g= its.length/\i= .int .i64 j/\Below W.heap.size W wr)
     case atStart=>exact⟨0,by omega,rfl,HB4.o⟩
     case round=>
      obtain⟨j,hj,rfl,hb⟩:=hrel
      have HB5:=I hb
      have HB5':=I (HB.o.trans (hb.mono HB.o.size))
      have d9:=(HR2.o wr hb).2.2
      clear hb
      cases gk with
      |zero=>
       have hge: ¬ ((j:Int) <(its.length:Int)):=by omega
       go_wp2
       go_ret
       exact⟨_,rfl,HB5'.o⟩
      |succ g=>
       have hlt:(j:Int) <(its.length:Int):=by omega
       obtain⟨y,hy⟩:∃ y,its[j]?= some y:=⟨_,List.getElem?_eq_getElem (by omega)⟩
       obtain⟨b,o,rfl,hbb,hc⟩:=HA.o (by omega)
       obtain⟨ks,hcl,hr,hR⟩:=hc j y hy
       have HRK:=I (za hr HB5'.o hbb)
       have HCK:=I (IH.o y (List.mem_of_getElem? hy) ks wr ((hR.under HB5'.o).more HB5'.o.size))
       have HKL:=I hcl
       clear hc hr hR hy hcl
       go_wp2_with (first|(with_reducible refine z7 30 _ rfl ?hw b (o+j*10) ks _ rfl HRK.o Tryz.underlying30 rfl ?hi ?_;(case hw=>exact wA rfl);(case hi=>rw[HKL.o];kernel_rfl))|(go_at_call 7;fail))
       refine HCK.o.mono ?_
       rintro e w6 ⟨q,rfl,hb⟩
       have HB6:=I (HB5.o.trans (hb.mono HB5.o.size))
       clear hb
       cases q with
       |false=>
        go_wp2
        go_ret
        exact⟨_,rfl,HB.o.trans (HB6.o.mono HB.o.size)⟩
       |true=>
        go_wp2
        go_roundg g
        case measure=>omega
        case rel=>exact⟨j+1,by omega,by go_num,HB6.o⟩
   ·have hy':decide ((500:Int)<=y)= true:=by simp;omega
    go_wp2
    go_ret
    exact⟨_,rfl,HB3'.o⟩
  ·have hz':decide ((30:Int) < z)= true:=by simp;omega
   go_wp2
   go_ret
   exact⟨_,rfl,HB2'.o⟩
def zc2 (E:List VarT) (w:World) (e:Ending) (w':World):Prop:=∃ b:Bool,e= .returned (.bool b)/\(b= true->E.length<=40)/\Below w.heap.size w w'
theorem zf5 (E:List VarT) (v:Value) (w:World) (hv:SlAt w w.heap.size 11 (VarAt w w.heap.size) v E) (hE:E.length<=maxLen):
  Calls Tryz.prog 8 #[v] w (zc2 E w):=by
 obtain⟨hel,EA,ec,rfl,hea⟩:=hv
 have HEB:=I hea
 unfold maxLen at hE
 clear hea hel
 go_enter Tryz.func8,Tryz.ntmps8
 go_wp2
 go_loopg [3] E.length (fun q x u=>∃ j:Nat,j+q= E.length/\x= .int .i64 j/\Below w.heap.size w u)
 case atStart=>exact⟨0,by omega,rfl,Below.refl _ _⟩
 case round=>
  obtain⟨jj,hj,rfl,hb⟩:=hrel
  have HBK:=I hb
  clear hb
  cases gk with
  |zero=>
   obtain rfl:jj= E.length:=by omega
   have hge: ¬ ((E.length:Int) <(E.length:Int)):=by omega
   by_cases h40:(E.length:Int)<=40
   ·go_wp2
    go_ret
    exact⟨_,rfl,(fun _=>by omega),HBK.o⟩
   ·go_wp2
    go_ret
    exact⟨_,rfl,nofun,HBK.o⟩
  |succ q=>
   have hlt2:(jj:Int) <(E.length:Int):=by omega
   obtain⟨x,he⟩:∃ e,E[jj]?= some e:=⟨_,List.getElem?_eq_getElem (by omega)⟩
   obtain⟨bb,o,rfl,hbl,hc⟩:=HEB.o (by omega)
   obtain⟨ks,hkl,hks,hva⟩:=hc jj x he
   obtain⟨ct,ci,hce,h3,h6,hct,hci⟩:=hva.ex
   have hnm:=hva.name
   unfold maxLen at hnm
   have HRG:Hid (∀ z:World,Below w.heap.size w z->z.cell? ⟨bb,o+jj*11,none⟩= some (.string x.name)/\z.rangeAt bb (o+jj*11+2) ct/\z.rangeAt bb (o+jj*11+5) ci):=I fun z hz=>by
    have hr0:=za hks hz hbl
    rw[hce] at hr0
    refine⟨z5B hr0 0 rfl,z3S (p:=[.string x.name,.int .i64 x.label]) (cs:=ct) (q:=ci) hr0 _ rfl,?_⟩
    exact z3S (p:=[.string x.name,.int .i64 x.label] ++ ct) (cs:=ci) (q:=[]) (by rw[List.append_nil];exact hr0) _ (by simp[h3])
   have HT:=I (fun z (hz:Below w.heap.size w z)=>zfZ x.type ct z ((hct.under hz).more hz.size))
   have HI:=I (fun z (hz:Below w.heap.size w z)=>z7L x.init ci z ((hci.under hz).more hz.size))
   have HL3:=I h3
   have HL6:=I h6
   have HC1:=I (HT.o wr HBK.o)
   have HR1:=I (HRG.o wr HBK.o).2.1
   clear hc he hks hva hkl hct hci hce h3 h6
   go_wp2_with (first|(with_reducible refine z7 48 _ rfl ?hw bb (o+jj*11+2) ct _ rfl HR1.o Tryz.underlying48 rfl ?hi ?_;(case hw=>exact wA rfl);(case hi=>rw[HL3.o];kernel_rfl))|(go_at_call 27;fail))
   refine HC1.o.mono ?_
   rintro e w2 ⟨q1,rfl,hb⟩
   have HB2:=I (HBK.o.trans (hb.mono HBK.o.size))
   clear hb HC1
   cases q1 with
   |false=>
    go_wp2
    go_ret
    exact⟨_,rfl,nofun,HB2.o⟩
   |true=>
    have HC2:=I (HI.o w2 HB2.o)
    have HR2:=I (HRG.o w2 HB2.o).2.2
    go_wp2_with (first|(with_reducible refine z7 27 _ rfl ?hw bb (o+jj*11+5) ci _ rfl HR2.o Tryz.underlying27 rfl ?hi ?_;(case hw=>exact wA rfl);(case hi=>rw[HL6.o];kernel_rfl))|(go_at_call 11;fail))
    refine HC2.o.mono ?_
    rintro e w3 ⟨q2,rfl,hb⟩
    have HB3:=I (HB2.o.trans (hb.mono HB2.o.size))
    clear hb HC2
    cases q2 with
    |false=>
     go_wp2
     go_ret
     exact⟨_,rfl,nofun,HB3.o⟩
    |true=>
     have c0:=(HRG.o w3 HB3.o).1
     by_cases h300:(300:Int) <(x.name.size:Int)
     ·go_wp2
      go_ret
      exact⟨_,rfl,nofun,HB3.o⟩
     ·go_wp2
      go_roundg q
      case measure=>omega
      case rel=>exact⟨jj+1,by omega,by go_num,HB3.o⟩
end
end Go.Proofs.YteolfamhmfidbaaGreatDoor
