/- Parts of a proof: RName, ELeaf, ENamed, RRight. -/
import Derived.Test.YtmpbepjjbaeebaaGreatDoorPackC3
import Derived.Test.YtmpbepjjbaeebaaGreatDoorPackC12
import Derived.Test.YtmpbepjjbaeebaaGreatDoorPackC14
import Derived.Test.YtmpbepjjbaeebaaGreatDoorPackC15
set_option maxHeartbeats 8000000
set_option maxRecDepth 100000
set_option linter.unusedVariables false
set_option linter.unusedSimpArgs false
namespace Go.Proofs.YtmpbepjjbaeebaaGreatDoor
section
open Go Go.RowKit
theorem zdf {s:ByteArray} {k:Nat} {c:UInt8} (h:s.data.toList[k]?= some c) (hk:k < s.size):s[k]'hk= c:=by
 have h2:s.data[k]?= some c:=by simpa using h
 obtain⟨h3,h4⟩:=Array.getElem?_eq_some_iff.1 h2
 exact h4
theorem z3C (s:ByteArray) (w:World):Calls Tryz.prog 92 #[.string s] w fun e w'=>e= .returned (.bool (nameB s))/\w'= w:=by
 have HN:Hid (nameB s=(decide (0 < s.size) && decide (s.size<=30) && zT s.data.toList 0)):=I rfl
 have HL:Hid (s.data.toList.length= s.size):=I (by cases s;rfl)
 by_cases h0:s.size= 0
 ·have t1:(s.size:Int) < 1:=by omega
  have HR:Hid (nameB s= false):=I (by rw[HN.out,h0];rfl)
  clear h0
  go_enter Tryz.func92,Tryz.ntmps92
  go_wp2
  go_ret
  exact⟨za HR.out.symm,rfl⟩
 have t1: ¬ ((s.size:Int) < 1):=by omega
 by_cases h1:s.size<=30
 ·have t2: ¬ ((30:Int) <(s.size:Int)):=by omega
  have HR:Hid (nameB s= zT s.data.toList 0):=I (by rw[HN.out,decide_eq_true (by omega),decide_eq_true h1];rfl)
  have HS:=I (fun k c=>z4w (l:=s.data.toList) (k:=k) (c:=c))
  have HE:Hid (∀ k,zT (s.data.toList.drop s.size) k= true):=I fun k=>by rw[List.drop_eq_nil_of_le (by rw[HL.out];exact Nat.le_refl _)];rfl
  have H0:Hid (zT (s.data.toList.drop 0) 0= zT s.data.toList 0):=I rfl
  generalize zT s.data.toList 0= res at*
  go_enter Tryz.func92,Tryz.ntmps92
  go_wp2
  go_loopg [3] s.size (fun q x u=>∃ k:Nat,k+q= s.size/\x= .int .i64 k/\u= w/\zT (s.data.toList.drop k) k= res)
  case atStart=>exact⟨0,by omega,rfl,rfl,H0.out⟩
  case round=>
   obtain⟨k,hk,rfl,rfl,hres⟩:=hrel
   have HR2:=I hres
   clear hres
   cases gk with
   |zero=>
    obtain rfl:k= s.size:=by omega
    have hge: ¬ ((s.size:Int) <(s.size:Int)):=by omega
    have HV:=I (HR2.out.symm.trans (HE.out s.size))
    go_wp2
    go_ret
    exact⟨za (HR.out.trans HV.out).symm,rfl⟩
   |succ q=>
    have hlt:(k:Int) <(s.size:Int):=by omega
    obtain⟨c,hc⟩:∃ c,s.data.toList[k]?= some c:=⟨_,List.getElem?_eq_getElem (by rw[HL.out];omega)⟩
    have dk:=fun h=>zdf (k:=k) (c:=c) hc h
    have HKC:=I hc
    clear hc
    by_cases h97:97<=c.toNat
    ·have d97:decide (97<=c.toNat)= true:=decide_eq_true (by omega)
     have f97:97<=(c.toNat:Int):=by omega
     by_cases h122:c.toNat<=122
     ·have d122:decide (c.toNat<=122)= true:=decide_eq_true (by omega)
      have f122:(c.toNat:Int)<=122:=by omega
      have hok:okC k c= true:=by unfold okC;simp only[d97,d122,Bool.true_and,Bool.and_true,Bool.or_true,Bool.true_or,Bool.false_or,Bool.or_false,Bool.and_false,Bool.false_and]
      have HV:Hid (res= zT (s.data.toList.drop (k+1)) (k+1)):=I (HR2.out.symm.trans ((HS.out k c HKC.out).trans (by rw[hok];exact Bool.true_and _)))
      clear hok
      go_wp2
      go_roundg q
      case measure=>omega
      case rel=>exact⟨k+1,by omega,by go_num,rfl,HV.out.symm⟩
     ·have d122:decide (c.toNat<=122)= false:=decide_eq_false (by omega)
      have f122: ¬ ((c.toNat:Int)<=122):=by omega
      by_cases hk0:k= 0
      ·subst hk0
       have dk0:decide ((0:Nat) < 0)= false:=rfl
       have hok:okC 0 c= false:=by unfold okC;simp only[d97,d122,dk0,Bool.true_and,Bool.and_true,Bool.or_true,Bool.true_or,Bool.false_or,Bool.or_false,Bool.and_false,Bool.false_and]
       have HV:Hid (res= false):=I (HR2.out.symm.trans ((HS.out 0 c HKC.out).trans (by rw[hok];exact Bool.false_and _)))
       clear hok
       go_wp2
       go_ret
       exact⟨za (HR.out.trans HV.out).symm,rfl⟩
      ·have dk0:decide (0 < k)= true:=decide_eq_true (by omega)
       have k0':((k:Int) ==0)= false:=by rw[beq_eq_false_iff_ne];omega
       have k0i: ¬ ((k:Int)= 0):=by omega
       by_cases h48:48<=c.toNat
       ·have d48:decide (48<=c.toNat)= true:=decide_eq_true (by omega)
        have f48:48<=(c.toNat:Int):=by omega
        by_cases h57:c.toNat<=57
        ·have d57:decide (c.toNat<=57)= true:=decide_eq_true (by omega)
         have f57:(c.toNat:Int)<=57:=by omega
         have hok:okC k c= true:=by unfold okC;simp only[d97,d122,dk0,d48,d57,Bool.true_and,Bool.and_true,Bool.or_true,Bool.true_or,Bool.false_or,Bool.or_false,Bool.and_false,Bool.false_and]
         have HV:Hid (res= zT (s.data.toList.drop (k+1)) (k+1)):=I (HR2.out.symm.trans ((HS.out k c HKC.out).trans (by rw[hok];exact Bool.true_and _)))
         clear hok
         go_wp2
         go_roundg q
         case measure=>omega
         case rel=>exact⟨k+1,by omega,by go_num,rfl,HV.out.symm⟩
        ·have d57:decide (c.toNat<=57)= false:=decide_eq_false (by omega)
         have f57: ¬ ((c.toNat:Int)<=57):=by omega
         by_cases h95:c.toNat= 95
         ·have e1:(c.toNat ==95)= true:=by simpa using h95
          have e2:((c.toNat:Int) ==95)= true:=by rw[beq_iff_eq];omega
          have e3:((c.toNat:Int) !=95)= false:=by rw[h95];rfl
          have hok:okC k c= true:=by unfold okC;simp only[d97,d122,dk0,d48,d57,e1,Bool.true_and,Bool.and_true,Bool.or_true,Bool.true_or,Bool.false_or,Bool.or_false,Bool.and_false,Bool.false_and]
          have HV:Hid (res= zT (s.data.toList.drop (k+1)) (k+1)):=I (HR2.out.symm.trans ((HS.out k c HKC.out).trans (by rw[hok];exact Bool.true_and _)))
          clear hok
          go_wp2
          go_roundg q
          case measure=>omega
          case rel=>exact⟨k+1,by omega,by go_num,rfl,HV.out.symm⟩
         ·have e1:(c.toNat ==95)= false:=by simpa using h95
          have e2:((c.toNat:Int) ==95)= false:=by rw[beq_eq_false_iff_ne];omega
          have e3:((c.toNat:Int) !=95)= true:=by rw[bne_iff_ne];omega
          have hok:okC k c= false:=by unfold okC;simp only[d97,d122,dk0,d48,d57,e1,Bool.true_and,Bool.and_true,Bool.or_true,Bool.true_or,Bool.false_or,Bool.or_false,Bool.and_false,Bool.false_and]
          have HV:Hid (res= false):=I (HR2.out.symm.trans ((HS.out k c HKC.out).trans (by rw[hok];exact Bool.false_and _)))
          clear hok
          go_wp2
          go_ret
          exact⟨za (HR.out.trans HV.out).symm,rfl⟩
       ·have d48:decide (48<=c.toNat)= false:=decide_eq_false (by omega)
        have f48: ¬ (48<=(c.toNat:Int)):=by omega
        have h95:c.toNat≠95:=by omega
        have e1:(c.toNat ==95)= false:=by simpa using h95
        have e2:((c.toNat:Int) ==95)= false:=by rw[beq_eq_false_iff_ne];omega
        have e3:((c.toNat:Int) !=95)= true:=by rw[bne_iff_ne];omega
        have hok:okC k c= false:=by unfold okC;simp only[d97,d122,dk0,d48,e1,Bool.true_and,Bool.and_true,Bool.or_true,Bool.true_or,Bool.false_or,Bool.or_false,Bool.and_false,Bool.false_and]
        have HV:Hid (res= false):=I (HR2.out.symm.trans ((HS.out k c HKC.out).trans (by rw[hok];exact Bool.false_and _)))
        clear hok
        go_wp2
        go_ret
        exact⟨za (HR.out.trans HV.out).symm,rfl⟩
    ·have d97:decide (97<=c.toNat)= false:=decide_eq_false (by omega)
     have f97: ¬ (97<=(c.toNat:Int)):=by omega
     by_cases hk0:k= 0
     ·subst hk0
      have dk0:decide ((0:Nat) < 0)= false:=rfl
      have hok:okC 0 c= false:=by unfold okC;simp only[d97,dk0,Bool.true_and,Bool.and_true,Bool.or_true,Bool.true_or,Bool.false_or,Bool.or_false,Bool.and_false,Bool.false_and]
      have HV:Hid (res= false):=I (HR2.out.symm.trans ((HS.out 0 c HKC.out).trans (by rw[hok];exact Bool.false_and _)))
      clear hok
      go_wp2
      go_ret
      exact⟨za (HR.out.trans HV.out).symm,rfl⟩
     ·have dk0:decide (0 < k)= true:=decide_eq_true (by omega)
      have k0':((k:Int) ==0)= false:=by rw[beq_eq_false_iff_ne];omega
      have k0i: ¬ ((k:Int)= 0):=by omega
      by_cases h48:48<=c.toNat
      ·have d48:decide (48<=c.toNat)= true:=decide_eq_true (by omega)
       have f48:48<=(c.toNat:Int):=by omega
       by_cases h57:c.toNat<=57
       ·have d57:decide (c.toNat<=57)= true:=decide_eq_true (by omega)
        have f57:(c.toNat:Int)<=57:=by omega
        have hok:okC k c= true:=by unfold okC;simp only[d97,dk0,d48,d57,Bool.true_and,Bool.and_true,Bool.or_true,Bool.true_or,Bool.false_or,Bool.or_false,Bool.and_false,Bool.false_and]
        have HV:Hid (res= zT (s.data.toList.drop (k+1)) (k+1)):=I (HR2.out.symm.trans ((HS.out k c HKC.out).trans (by rw[hok];exact Bool.true_and _)))
        clear hok
        go_wp2
        go_roundg q
        case measure=>omega
        case rel=>exact⟨k+1,by omega,by go_num,rfl,HV.out.symm⟩
       ·have d57:decide (c.toNat<=57)= false:=decide_eq_false (by omega)
        have f57: ¬ ((c.toNat:Int)<=57):=by omega
        by_cases h95:c.toNat= 95
        ·have e1:(c.toNat ==95)= true:=by simpa using h95
         have e2:((c.toNat:Int) ==95)= true:=by rw[beq_iff_eq];omega
         have e3:((c.toNat:Int) !=95)= false:=by rw[h95];rfl
         have hok:okC k c= true:=by unfold okC;simp only[d97,dk0,d48,d57,e1,Bool.true_and,Bool.and_true,Bool.or_true,Bool.true_or,Bool.false_or,Bool.or_false,Bool.and_false,Bool.false_and]
         have HV:Hid (res= zT (s.data.toList.drop (k+1)) (k+1)):=I (HR2.out.symm.trans ((HS.out k c HKC.out).trans (by rw[hok];exact Bool.true_and _)))
         clear hok
         go_wp2
         go_roundg q
         case measure=>omega
         case rel=>exact⟨k+1,by omega,by go_num,rfl,HV.out.symm⟩
        ·have e1:(c.toNat ==95)= false:=by simpa using h95
         have e2:((c.toNat:Int) ==95)= false:=by rw[beq_eq_false_iff_ne];omega
         have e3:((c.toNat:Int) !=95)= true:=by rw[bne_iff_ne];omega
         have hok:okC k c= false:=by unfold okC;simp only[d97,dk0,d48,d57,e1,Bool.true_and,Bool.and_true,Bool.or_true,Bool.true_or,Bool.false_or,Bool.or_false,Bool.and_false,Bool.false_and]
         have HV:Hid (res= false):=I (HR2.out.symm.trans ((HS.out k c HKC.out).trans (by rw[hok];exact Bool.false_and _)))
         clear hok
         go_wp2
         go_ret
         exact⟨za (HR.out.trans HV.out).symm,rfl⟩
      ·have d48:decide (48<=c.toNat)= false:=decide_eq_false (by omega)
       have f48: ¬ (48<=(c.toNat:Int)):=by omega
       have h95:c.toNat≠95:=by omega
       have e1:(c.toNat ==95)= false:=by simpa using h95
       have e2:((c.toNat:Int) ==95)= false:=by rw[beq_eq_false_iff_ne];omega
       have e3:((c.toNat:Int) !=95)= true:=by rw[bne_iff_ne];omega
       have hok:okC k c= false:=by unfold okC;simp only[d97,dk0,d48,e1,Bool.true_and,Bool.and_true,Bool.or_true,Bool.true_or,Bool.false_or,Bool.or_false,Bool.and_false,Bool.false_and]
       have HV:Hid (res= false):=I (HR2.out.symm.trans ((HS.out k c HKC.out).trans (by rw[hok];exact Bool.false_and _)))
       clear hok
       go_wp2
       go_ret
       exact⟨za (HR.out.trans HV.out).symm,rfl⟩
 ·have t2:(30:Int) <(s.size:Int):=by omega
  have HR:Hid (nameB s= false):=I (by rw[HN.out,decide_eq_false h1,Bool.and_false];rfl)
  go_enter Tryz.func92,Tryz.ntmps92
  go_wp2
  go_ret
  exact⟨za HR.out.symm,rfl⟩
theorem z5l (v:Value) (l:List ByteArray) (n:Nat) (w:World) (hv:SlAt w w.heap.size 1 StrR v l):
  Calls Tryz.prog 87 #[v,.int .i64 n] w fun e w'=>e= .returned (.bool (riseB none l && (l.length ==n)))/\Below w.heap.size w w':=by
 obtain⟨_,A,c,rfl,_⟩:=id hv
 obtain⟨_,hl,ha⟩:=z1l hv
 have HA:=I ha
 have H1:=I (fun s=>z5F (l:=l) (s:=s))
 have H2:=I (fun k p s=>z6B (l:=l) (k:=k) (p:=p) (s:=s))
 have HE:=I (z7i (l:=l))
 have H0:Hid (riseB (prevK l 0) (l.drop 0)= riseB none l):=I rfl
 have hl2:(l.length:Int)<=9223372036854775807:=by omega
 have HT:Hid ((l.length ==n)=((l.length:Int) ==(n:Int))):=I (by
  by_cases h:l.length= n
  ·subst h;simp
  ·rw[beq_eq_false_iff_ne.2 h,beq_eq_false_iff_ne.2];omega)
 clear ha hv
 generalize riseB none l= res at*
 go_enter Tryz.func87,Tryz.ntmps87
 go_wp2
 go_loopg [5] l.length (fun q x u=>∃ k:Nat,k+q= l.length/\x= .int .i64 k/\Below w.heap.size w u/\riseB (prevK l k) (l.drop k)= res)
 case atStart=>exact⟨0,by omega,rfl,Below.refl _ _,H0.out⟩
 case round=>
  obtain⟨k,hk,rfl,hb,hres⟩:=hrel
  have HR:=I hres
  have HBK:=I hb
  clear hres hb
  cases gk with
  |zero=>
   obtain rfl:k= l.length:=by omega
   have hge: ¬ ((l.length:Int) <(l.length:Int)):=by omega
   have HV:=I (HR.out.symm.trans HE.out)
   have HV2:Hid ((res && (l.length ==n))=((l.length:Int) ==(n:Int))):=I (by rw[HV.out,HT.out];exact Bool.true_and _)
   clear HR
   go_wp2
   go_ret
   exact⟨za HV2.out.symm,HBK.out⟩
  |succ q=>
   have hlt:(k:Int) <(l.length:Int):=by omega
   obtain⟨s,hs⟩:∃ s,l[k]?= some s:=⟨_,List.getElem?_eq_getElem (by omega)⟩
   obtain⟨b,o,rfl,hbl,hc⟩:=HA.out (by omega)
   have HCC:=I (fun i x hx=>(hc i x hx).1)
   have HBL:=I hbl
   have ds:=(HBK.out.cell (p:=⟨b,o+k,none⟩) hbl).trans (hc k s hs).1
   have HNM:=I (z3C s)
   have HSK:=I hs
   clear hc hbl hs
   rcases Nat.eq_zero_or_pos k with hk0|hk0
   ·subst hk0
    have ds0:wr.cell? ⟨b,o,none⟩= some (.string s):=ds
    have hlt0:(0:Int) <(l.length:Int):=by omega
    have HV:=I (HR.out.symm.trans (H1.out s HSK.out))
    clear HR
    generalize nameB s= nb at*
    cases nb with
    |false=>
     have HV2:Hid ((res && (l.length ==n))= false):=I (by rw[HV.out,Bool.false_and,Bool.false_and])
     clear HV
     go_wp2
     go_quiet ((go_at_call 92;exact Calls.quiet_of_same ((HNM.out _).mono fun e w' h=>⟨h.1,h.2⟩)))
     go_wp2
     go_ret
     exact⟨za HV2.out.symm,zC HBK.out _⟩
    |true=>
     have HV2:=I (HV.out.trans (Bool.true_and _))
     clear HV
     go_wp2
     go_quiet ((go_at_call 92;exact Calls.quiet_of_same ((HNM.out _).mono fun e w' h=>⟨h.1,h.2⟩)))
     go_wp2
     go_roundg q
     case measure=>omega
     case rel=>exact⟨1,by omega,by go_num,zC HBK.out _,HV2.out.symm⟩
   ·obtain⟨j,rfl⟩:∃ j,k= j+1:=⟨k - 1,by omega⟩
    obtain⟨p,hp⟩:∃ p,l[j]?= some p:=⟨_,List.getElem?_eq_getElem (by omega)⟩
    have HV:=I (HR.out.symm.trans (H2.out j p s hp HSK.out))
    have dp:=(HBK.out.cell (p:=⟨b,o+j,none⟩) HBL.out).trans (HCC.out j p hp)
    have hpos:(0:Int) <((j+1:Nat):Int):=by omega
    have hj2:(j:Int) <(l.length:Int):=by omega
    clear HR hp
    generalize nameB s= nb at*
    cases nb with
    |false=>
     have HV2:Hid ((res && (l.length ==n))= false):=I (by rw[HV.out,Bool.false_and,Bool.false_and])
     clear HV
     go_wp2
     go_quiet ((go_at_call 92;exact Calls.quiet_of_same ((HNM.out _).mono fun e w' h=>⟨h.1,h.2⟩)))
     go_wp2
     go_ret
     exact⟨za HV2.out.symm,zC HBK.out _⟩
    |true=>
     have HV2:=I (HV.out.trans (Bool.true_and _))
     clear HV
     cases hlt3:Op.bytesLess p.toList s.toList with
     |false=>
      have HV3:Hid ((res && (l.length ==n))= false):=I (by rw[HV2.out,hlt3,Bool.false_and,Bool.false_and])
      go_wp2
      go_quiet ((go_at_call 92;exact Calls.quiet_of_same ((HNM.out _).mono fun e w' h=>⟨h.1,h.2⟩)))
      go_wp2
      go_ret
      exact⟨za HV3.out.symm,zC HBK.out _⟩
     |true=>
      have HV3:=I (HV2.out.trans (by rw[hlt3,Bool.true_and]))
      go_wp2
      go_quiet ((go_at_call 92;exact Calls.quiet_of_same ((HNM.out _).mono fun e w' h=>⟨h.1,h.2⟩)))
      go_wp2
      go_roundg q
      case measure=>omega
      case rel=>exact⟨j+2,by omega,by go_num,zC HBK.out _,HV3.out.symm⟩
end
section
open Go Go.RowKit
def z0r (k:Int):Int:=
 if k= 1\/k= 2 then 0 else if k= 3\/k= 4\/k= 18\/(20<=k/\k<=23) then 1 else if(5<=k/\k<=14)\/k= 19 then 2 else if k= 15 then 3 else if k= 16\/k= 17 then -1 else -2
theorem zcC (k:Int) (w:World):Calls Tryz.prog 105 #[.int .i64 k] w fun e w'=>e= .returned (.int .i64 (z0r k))/\w'= w:=by
 by_cases h:k= 1\/k= 2\/k= 3\/k= 4\/k= 5\/k= 6\/k= 7\/k= 8\/k= 9\/k= 10\/k= 11\/k= 12\/k= 13\/k= 14\/k= 15\/k= 16\/k= 17\/k= 18\/k= 19\/k= 20\/k= 21\/k= 22\/k= 23
 ·rcases h with rfl|rfl|rfl|rfl|rfl|rfl|rfl|rfl|rfl|rfl|rfl|rfl|rfl|rfl|rfl|rfl|rfl|rfl|rfl|rfl|rfl|rfl|rfl
  all_goals
   go_enter Tryz.func105,Tryz.ntmps105
   go_wp2
   go_ret
   exact⟨rfl,rfl⟩
 ·have HR:Hid (z0r k= -2):=I (by unfold z0r;rw[if_neg (by omega),if_neg (by omega),if_neg (by omega),if_neg (by omega),if_neg (by omega)])
  by_cases h1:k < 1
  ·have e1:(k ==1)= false:=by rw[beq_eq_false_iff_ne];omega
   have e2:(k ==2)= false:=by rw[beq_eq_false_iff_ne];omega
   have e3:(k ==3)= false:=by rw[beq_eq_false_iff_ne];omega
   have e4:(k ==4)= false:=by rw[beq_eq_false_iff_ne];omega
   have e18:(k ==18)= false:=by rw[beq_eq_false_iff_ne];omega
   have e15:(k ==15)= false:=by rw[beq_eq_false_iff_ne];omega
   have e16:(k ==16)= false:=by rw[beq_eq_false_iff_ne];omega
   have e17:(k ==17)= false:=by rw[beq_eq_false_iff_ne];omega
   have e19:(k ==19)= false:=by rw[beq_eq_false_iff_ne];omega
   have l20: ¬ (20<=k):=by omega
   have l5: ¬ (5<=k):=by omega
   clear h h1
   go_enter Tryz.func105,Tryz.ntmps105
   go_wp2
   go_ret
   exact⟨by rw[HR.out];rfl,rfl⟩
  ·have e1:(k ==1)= false:=by rw[beq_eq_false_iff_ne];omega
   have e2:(k ==2)= false:=by rw[beq_eq_false_iff_ne];omega
   have e3:(k ==3)= false:=by rw[beq_eq_false_iff_ne];omega
   have e4:(k ==4)= false:=by rw[beq_eq_false_iff_ne];omega
   have e18:(k ==18)= false:=by rw[beq_eq_false_iff_ne];omega
   have e15:(k ==15)= false:=by rw[beq_eq_false_iff_ne];omega
   have e16:(k ==16)= false:=by rw[beq_eq_false_iff_ne];omega
   have e17:(k ==17)= false:=by rw[beq_eq_false_iff_ne];omega
   have e19:(k ==19)= false:=by rw[beq_eq_false_iff_ne];omega
   have l20:20<=k:=by omega
   have l23: ¬ (k<=23):=by omega
   have l5:5<=k:=by omega
   have l14: ¬ (k<=14):=by omega
   clear h h1
   go_enter Tryz.func105,Tryz.ntmps105
   go_wp2
   go_ret
   exact⟨by rw[HR.out];rfl,rfl⟩
theorem z9V (k:Int) (w:World):Calls Tryz.prog 89 #[.int .i64 k] w fun e w'=>e= .returned (.int .i64 (z0r k))/\w'= w:=by
 by_cases h:k= 1\/k= 2\/k= 3\/k= 4\/k= 5\/k= 6\/k= 7\/k= 8\/k= 9\/k= 10\/k= 11\/k= 12\/k= 13\/k= 14\/k= 15\/k= 16\/k= 17\/k= 18\/k= 19\/k= 20\/k= 21\/k= 22\/k= 23
 ·rcases h with rfl|rfl|rfl|rfl|rfl|rfl|rfl|rfl|rfl|rfl|rfl|rfl|rfl|rfl|rfl|rfl|rfl|rfl|rfl|rfl|rfl|rfl|rfl
  all_goals
   go_enter Tryz.func89,Tryz.ntmps89
   go_wp2
   go_ret
   exact⟨rfl,rfl⟩
 ·have HR:Hid (z0r k= -2):=I (by unfold z0r;rw[if_neg (by omega),if_neg (by omega),if_neg (by omega),if_neg (by omega),if_neg (by omega)])
  by_cases h1:k < 1
  ·have e1:(k ==1)= false:=by rw[beq_eq_false_iff_ne];omega
   have e2:(k ==2)= false:=by rw[beq_eq_false_iff_ne];omega
   have e3:(k ==3)= false:=by rw[beq_eq_false_iff_ne];omega
   have e4:(k ==4)= false:=by rw[beq_eq_false_iff_ne];omega
   have e18:(k ==18)= false:=by rw[beq_eq_false_iff_ne];omega
   have e15:(k ==15)= false:=by rw[beq_eq_false_iff_ne];omega
   have e16:(k ==16)= false:=by rw[beq_eq_false_iff_ne];omega
   have e17:(k ==17)= false:=by rw[beq_eq_false_iff_ne];omega
   have e19:(k ==19)= false:=by rw[beq_eq_false_iff_ne];omega
   have l20: ¬ (20<=k):=by omega
   have l5: ¬ (5<=k):=by omega
   clear h h1
   go_enter Tryz.func89,Tryz.ntmps89
   go_wp2
   go_ret
   exact⟨by rw[HR.out];rfl,rfl⟩
  ·have e1:(k ==1)= false:=by rw[beq_eq_false_iff_ne];omega
   have e2:(k ==2)= false:=by rw[beq_eq_false_iff_ne];omega
   have e3:(k ==3)= false:=by rw[beq_eq_false_iff_ne];omega
   have e4:(k ==4)= false:=by rw[beq_eq_false_iff_ne];omega
   have e18:(k ==18)= false:=by rw[beq_eq_false_iff_ne];omega
   have e15:(k ==15)= false:=by rw[beq_eq_false_iff_ne];omega
   have e16:(k ==16)= false:=by rw[beq_eq_false_iff_ne];omega
   have e17:(k ==17)= false:=by rw[beq_eq_false_iff_ne];omega
   have e19:(k ==19)= false:=by rw[beq_eq_false_iff_ne];omega
   have l20:20<=k:=by omega
   have l23: ¬ (k<=23):=by omega
   have l5:5<=k:=by omega
   have l14: ¬ (k<=14):=by omega
   clear h h1
   go_enter Tryz.func89,Tryz.ntmps89
   go_wp2
   go_ret
   exact⟨by rw[HR.out];rfl,rfl⟩
def wordB (s:ByteArray):Bool:=((s.toList ==[116,114,117,101]) ||((s.toList ==[102,97,108,115,101]) ||((s.toList ==[110,97,110]) ||((s.toList ==[105,110,102]) ||((s.toList ==[108,101,110]) ||((s.toList ==[102,108,111,97,116]) ||((s.toList ==[105,110,116]) ||(s.toList ==[115,116,114]))))))))
theorem zbc (s:ByteArray) (w:World):Calls Tryz.prog 147 #[.string s] w fun e w'=>e= .returned (.bool (wordB s))/\w'= w:=by
 cases h0:(s.toList ==[116,114,117,101]) with
 |true=>
  have HR:Hid (wordB s= true):=I (by unfold wordB;rw[h0];rfl)
  go_enter Tryz.func147,Tryz.ntmps147
  go_wp2
  go_ret
  exact⟨by rw[HR.out];rfl,rfl⟩
 |false=>
  cases h1:(s.toList ==[102,97,108,115,101]) with
  |true=>
   have HR:Hid (wordB s= true):=I (by unfold wordB;rw[h0,h1];rfl)
   go_enter Tryz.func147,Tryz.ntmps147
   go_wp2
   go_ret
   exact⟨by rw[HR.out];rfl,rfl⟩
  |false=>
   cases h2:(s.toList ==[110,97,110]) with
   |true=>
    have HR:Hid (wordB s= true):=I (by unfold wordB;rw[h0,h1,h2];rfl)
    go_enter Tryz.func147,Tryz.ntmps147
    go_wp2
    go_ret
    exact⟨by rw[HR.out];rfl,rfl⟩
   |false=>
    cases h3:(s.toList ==[105,110,102]) with
    |true=>
     have HR:Hid (wordB s= true):=I (by unfold wordB;rw[h0,h1,h2,h3];rfl)
     go_enter Tryz.func147,Tryz.ntmps147
     go_wp2
     go_ret
     exact⟨by rw[HR.out];rfl,rfl⟩
    |false=>
     cases h4:(s.toList ==[108,101,110]) with
     |true=>
      have HR:Hid (wordB s= true):=I (by unfold wordB;rw[h0,h1,h2,h3,h4];rfl)
      go_enter Tryz.func147,Tryz.ntmps147
      go_wp2
      go_ret
      exact⟨by rw[HR.out];rfl,rfl⟩
     |false=>
      cases h5:(s.toList ==[102,108,111,97,116]) with
      |true=>
       have HR:Hid (wordB s= true):=I (by unfold wordB;rw[h0,h1,h2,h3,h4,h5];rfl)
       go_enter Tryz.func147,Tryz.ntmps147
       go_wp2
       go_ret
       exact⟨by rw[HR.out];rfl,rfl⟩
      |false=>
       cases h6:(s.toList ==[105,110,116]) with
       |true=>
        have HR:Hid (wordB s= true):=I (by unfold wordB;rw[h0,h1,h2,h3,h4,h5,h6];rfl)
        go_enter Tryz.func147,Tryz.ntmps147
        go_wp2
        go_ret
        exact⟨by rw[HR.out];rfl,rfl⟩
       |false=>
        cases h7:(s.toList ==[115,116,114]) with
        |true=>
         have HR:Hid (wordB s= true):=I (by unfold wordB;rw[h0,h1,h2,h3,h4,h5,h6,h7];rfl)
         go_enter Tryz.func147,Tryz.ntmps147
         go_wp2
         go_ret
         exact⟨by rw[HR.out];rfl,rfl⟩
        |false=>
         have HR:Hid (wordB s= false):=I (by unfold wordB;rw[h0,h1,h2,h3,h4,h5,h6,h7];rfl)
         go_enter Tryz.func147,Tryz.ntmps147
         go_wp2
         go_ret
         exact⟨by rw[HR.out];rfl,rfl⟩
theorem za2 (s:ByteArray) (w:World):Calls Tryz.prog 93 #[.string s] w fun e w'=>e= .returned (.bool (wordB s))/\w'= w:=by
 cases h0:(s.toList ==[116,114,117,101]) with
 |true=>
  have HR:Hid (wordB s= true):=I (by unfold wordB;rw[h0];rfl)
  go_enter Tryz.func93,Tryz.ntmps93
  go_wp2
  go_ret
  exact⟨by rw[HR.out];rfl,rfl⟩
 |false=>
  cases h1:(s.toList ==[102,97,108,115,101]) with
  |true=>
   have HR:Hid (wordB s= true):=I (by unfold wordB;rw[h0,h1];rfl)
   go_enter Tryz.func93,Tryz.ntmps93
   go_wp2
   go_ret
   exact⟨by rw[HR.out];rfl,rfl⟩
  |false=>
   cases h2:(s.toList ==[110,97,110]) with
   |true=>
    have HR:Hid (wordB s= true):=I (by unfold wordB;rw[h0,h1,h2];rfl)
    go_enter Tryz.func93,Tryz.ntmps93
    go_wp2
    go_ret
    exact⟨by rw[HR.out];rfl,rfl⟩
   |false=>
    cases h3:(s.toList ==[105,110,102]) with
    |true=>
     have HR:Hid (wordB s= true):=I (by unfold wordB;rw[h0,h1,h2,h3];rfl)
     go_enter Tryz.func93,Tryz.ntmps93
     go_wp2
     go_ret
     exact⟨by rw[HR.out];rfl,rfl⟩
    |false=>
     cases h4:(s.toList ==[108,101,110]) with
     |true=>
      have HR:Hid (wordB s= true):=I (by unfold wordB;rw[h0,h1,h2,h3,h4];rfl)
      go_enter Tryz.func93,Tryz.ntmps93
      go_wp2
      go_ret
      exact⟨by rw[HR.out];rfl,rfl⟩
     |false=>
      cases h5:(s.toList ==[102,108,111,97,116]) with
      |true=>
       have HR:Hid (wordB s= true):=I (by unfold wordB;rw[h0,h1,h2,h3,h4,h5];rfl)
       go_enter Tryz.func93,Tryz.ntmps93
       go_wp2
       go_ret
       exact⟨by rw[HR.out];rfl,rfl⟩
      |false=>
       cases h6:(s.toList ==[105,110,116]) with
       |true=>
        have HR:Hid (wordB s= true):=I (by unfold wordB;rw[h0,h1,h2,h3,h4,h5,h6];rfl)
        go_enter Tryz.func93,Tryz.ntmps93
        go_wp2
        go_ret
        exact⟨by rw[HR.out];rfl,rfl⟩
       |false=>
        cases h7:(s.toList ==[115,116,114]) with
        |true=>
         have HR:Hid (wordB s= true):=I (by unfold wordB;rw[h0,h1,h2,h3,h4,h5,h6,h7];rfl)
         go_enter Tryz.func93,Tryz.ntmps93
         go_wp2
         go_ret
         exact⟨by rw[HR.out];rfl,rfl⟩
        |false=>
         have HR:Hid (wordB s= false):=I (by unfold wordB;rw[h0,h1,h2,h3,h4,h5,h6,h7];rfl)
         go_enter Tryz.func93,Tryz.ntmps93
         go_wp2
         go_ret
         exact⟨by rw[HR.out];rfl,rfl⟩
def zI (s:ByteArray):Bool:=nameB s && (!(s.toList ==[110,97,110]) && !(s.toList ==[105,110,102]))
theorem z3e (s:ByteArray) (w:World):Calls Tryz.prog 148 #[.string s] w fun e w'=>e= .returned (.bool (zI s))/\Below w.heap.size w w':=by
 have HN:=I (z7x s w)
 cases h0:nameB s with
 |false=>
  have HR:Hid (zI s= false):=I (by unfold zI;rw[h0];rfl)
  rw[h0] at HN
  clear h0
  go_enter Tryz.func148,Tryz.ntmps148
  go_wp2_with (go_at_call 146;refine HN.out.mono ?_;rintro e z ⟨rfl,hb⟩;have HB:=I hb;clear hb)
  go_ret
  exact⟨by rw[HR.out];rfl,HB.out⟩
 |true=>
  cases h1:(s.toList ==[110,97,110]) with
  |true=>
   have HR:Hid (zI s= false):=I (by unfold zI;rw[h0,h1];rfl)
   rw[h0] at HN
   clear h0
   go_enter Tryz.func148,Tryz.ntmps148
   go_wp2_with (go_at_call 146;refine HN.out.mono ?_;rintro e z ⟨rfl,hb⟩;have HB:=I hb;clear hb)
   go_ret
   exact⟨by rw[HR.out];rfl,HB.out⟩
  |false=>
   cases h2:(s.toList ==[105,110,102]) with
   |true=>
    have HR:Hid (zI s= false):=I (by unfold zI;rw[h0,h1,h2];rfl)
    rw[h0] at HN
    clear h0
    go_enter Tryz.func148,Tryz.ntmps148
    go_wp2_with (go_at_call 146;refine HN.out.mono ?_;rintro e z ⟨rfl,hb⟩;have HB:=I hb;clear hb)
    go_ret
    exact⟨by rw[HR.out];rfl,HB.out⟩
   |false=>
    have HR:Hid (zI s= true):=I (by unfold zI;rw[h0,h1,h2];rfl)
    rw[h0] at HN
    clear h0
    go_enter Tryz.func148,Tryz.ntmps148
    go_wp2_with (go_at_call 146;refine HN.out.mono ?_;rintro e z ⟨rfl,hb⟩;have HB:=I hb;clear hb)
    go_ret
    exact⟨by rw[HR.out];rfl,HB.out⟩
theorem z5j (s:ByteArray) (w:World):Calls Tryz.prog 94 #[.string s] w fun e w'=>e= .returned (.bool (zI s))/\w'= w:=by
 have HN:=I (z3C s w)
 cases h0:nameB s with
 |false=>
  have HR:Hid (zI s= false):=I (by unfold zI;rw[h0];rfl)
  rw[h0] at HN
  clear h0
  go_enter Tryz.func94,Tryz.ntmps94
  go_wp2_with (go_at_call 92;refine HN.out.mono ?_;rintro e z ⟨rfl,hb⟩;subst hb)
  go_ret
  exact⟨by rw[HR.out];rfl,rfl⟩
 |true=>
  cases h1:(s.toList ==[110,97,110]) with
  |true=>
   have HR:Hid (zI s= false):=I (by unfold zI;rw[h0,h1];rfl)
   rw[h0] at HN
   clear h0
   go_enter Tryz.func94,Tryz.ntmps94
   go_wp2_with (go_at_call 92;refine HN.out.mono ?_;rintro e z ⟨rfl,hb⟩;subst hb)
   go_ret
   exact⟨by rw[HR.out];rfl,rfl⟩
  |false=>
   cases h2:(s.toList ==[105,110,102]) with
   |true=>
    have HR:Hid (zI s= false):=I (by unfold zI;rw[h0,h1,h2];rfl)
    rw[h0] at HN
    clear h0
    go_enter Tryz.func94,Tryz.ntmps94
    go_wp2_with (go_at_call 92;refine HN.out.mono ?_;rintro e z ⟨rfl,hb⟩;subst hb)
    go_ret
    exact⟨by rw[HR.out];rfl,rfl⟩
   |false=>
    have HR:Hid (zI s= true):=I (by unfold zI;rw[h0,h1,h2];rfl)
    rw[h0] at HN
    clear h0
    go_enter Tryz.func94,Tryz.ntmps94
    go_wp2_with (go_at_call 92;refine HN.out.mono ?_;rintro e z ⟨rfl,hb⟩;subst hb)
    go_ret
    exact⟨by rw[HR.out];rfl,rfl⟩
def noneB (k n:Int) (f:Nat) (s:ByteArray) (ns its:Nat):Bool:=(k ==0) && ((n ==0) && ((cmpF f 0 ==0) && (s.toList.isEmpty && (((ns:Int) ==0) && ((its:Int) ==0)))))
theorem z4p (p o:Nat) (k n:Int) (f:Nat) (s:ByteArray) (A D:Option Addr) (ns its ca cd:Nat) (w:World) (hf:f < 2 ^ 64) (h:w.rangeAt p o [.int .i64 k,.int .i64 n,.float .f64 f,.string s,.slice A ns ca,.slice D its cd]):
  Calls Tryz.prog 108 #[.pointer (some ⟨p,o,none⟩)] w fun e w'=>e= .returned (.bool (noneB k n f s ns its))/\w'= w:=by
 have d0:w.cell? ⟨p,o,none⟩= some (.int .i64 k):=h 0 _ rfl
 have d1:=h 1 _ rfl
 have d2:=h 2 _ rfl
 have d3:=h 3 _ rfl
 have d4:=h 4 _ rfl
 have d5:=h 5 _ rfl
 have HFO:=I (fun w=>z0L f 0 hf (by decide) w)
 clear h hf
 cases h0:(k ==0) with
 |false=>
  have HR:Hid (noneB k n f s ns its= false):=I (by unfold noneB;rw[h0];rfl)
  generalize cmpF f 0= cf at*
  go_enter Tryz.func108,Tryz.ntmps108
  go_wp2_with (go_at_call 145;refine(HFO.out _).mono ?_;rintro e z ⟨rfl,rfl⟩)
  go_ret
  exact⟨za HR.out.symm,rfl⟩
 |true=>
  cases h1:(n ==0) with
  |false=>
   have HR:Hid (noneB k n f s ns its= false):=I (by unfold noneB;rw[h0,h1];rfl)
   generalize cmpF f 0= cf at*
   go_enter Tryz.func108,Tryz.ntmps108
   go_wp2_with (go_at_call 145;refine(HFO.out _).mono ?_;rintro e z ⟨rfl,rfl⟩)
   go_ret
   exact⟨za HR.out.symm,rfl⟩
  |true=>
   cases h2:(cmpF f 0 ==0) with
   |false=>
    have HR:Hid (noneB k n f s ns its= false):=I (by unfold noneB;rw[h0,h1,h2];rfl)
    generalize cmpF f 0= cf at*
    go_enter Tryz.func108,Tryz.ntmps108
    go_wp2_with (go_at_call 145;refine(HFO.out _).mono ?_;rintro e z ⟨rfl,rfl⟩)
    go_ret
    exact⟨za HR.out.symm,rfl⟩
   |true=>
    cases h3:s.toList.isEmpty with
    |false=>
     have HR:Hid (noneB k n f s ns its= false):=I (by unfold noneB;rw[h0,h1,h2,h3];rfl)
     generalize cmpF f 0= cf at*
     go_enter Tryz.func108,Tryz.ntmps108
     go_wp2_with (go_at_call 145;refine(HFO.out _).mono ?_;rintro e z ⟨rfl,rfl⟩)
     go_ret
     exact⟨za HR.out.symm,rfl⟩
    |true=>
     cases h4:((ns:Int) ==0) with
     |false=>
      have HR:Hid (noneB k n f s ns its= false):=I (by unfold noneB;rw[h0,h1,h2,h3,h4];rfl)
      generalize cmpF f 0= cf at*
      go_enter Tryz.func108,Tryz.ntmps108
      go_wp2_with (go_at_call 145;refine(HFO.out _).mono ?_;rintro e z ⟨rfl,rfl⟩)
      go_ret
      exact⟨za HR.out.symm,rfl⟩
     |true=>
      cases h5:((its:Int) ==0) with
      |false=>
       have HR:Hid (noneB k n f s ns its= false):=I (by unfold noneB;rw[h0,h1,h2,h3,h4,h5];rfl)
       generalize cmpF f 0= cf at*
       go_enter Tryz.func108,Tryz.ntmps108
       go_wp2_with (go_at_call 145;refine(HFO.out _).mono ?_;rintro e z ⟨rfl,rfl⟩)
       go_ret
       exact⟨za HR.out.symm,rfl⟩
      |true=>
       have HR:Hid (noneB k n f s ns its= true):=I (by unfold noneB;rw[h0,h1,h2,h3,h4,h5];rfl)
       generalize cmpF f 0= cf at*
       go_enter Tryz.func108,Tryz.ntmps108
       go_wp2_with (go_at_call 145;refine(HFO.out _).mono ?_;rintro e z ⟨rfl,rfl⟩)
       go_ret
       exact⟨za HR.out.symm,rfl⟩
theorem zcN (k n:Int) (f:Nat) (s:ByteArray) (A D:Option Addr) (ns its ca cd:Nat) (w:World) (hf:f < 2 ^ 64):
  Calls Tryz.prog 91 #[.agg ⟨[.int .i64 k,.int .i64 n,.float .f64 f,.string s,.slice A ns ca,.slice D its cd]⟩] w fun e w'=>e= .returned (.bool (noneB k n f s ns its))/\Below w.heap.size w w':=by
 have HFO:=I (fun w=>z5c f hf w)
 have HB1:=I (ze w (.cells ⟨[.int .i64 k,.int .i64 n,.float .f64 f,.string s,.slice A ns ca,.slice D its cd]⟩ 26))
 clear hf
 cases h0:(k ==0) with
 |false=>
  have HR:Hid (noneB k n f s ns its= false):=I (by unfold noneB;rw[h0];rfl)
  generalize (cmpF f 0 ==0)= cf at*
  go_enter Tryz.func91,Tryz.ntmps91
  go_wp2_with (go_at_call 137;refine(HFO.out _).mono ?_;rintro e z ⟨rfl,rfl⟩)
  go_ret
  exact⟨za HR.out.symm,HB1.out⟩
 |true=>
  cases h1:(n ==0) with
  |false=>
   have HR:Hid (noneB k n f s ns its= false):=I (by unfold noneB;rw[h0,h1];rfl)
   generalize (cmpF f 0 ==0)= cf at*
   go_enter Tryz.func91,Tryz.ntmps91
   go_wp2_with (go_at_call 137;refine(HFO.out _).mono ?_;rintro e z ⟨rfl,rfl⟩)
   go_ret
   exact⟨za HR.out.symm,HB1.out⟩
  |true=>
   cases h2:(cmpF f 0 ==0) with
   |false=>
    have HR:Hid (noneB k n f s ns its= false):=I (by unfold noneB;rw[h0,h1,h2];rfl)
    generalize (cmpF f 0 ==0)= cf at*
    go_enter Tryz.func91,Tryz.ntmps91
    go_wp2_with (go_at_call 137;refine(HFO.out _).mono ?_;rintro e z ⟨rfl,rfl⟩)
    go_ret
    exact⟨za HR.out.symm,HB1.out⟩
   |true=>
    cases h3:s.toList.isEmpty with
    |false=>
     have HR:Hid (noneB k n f s ns its= false):=I (by unfold noneB;rw[h0,h1,h2,h3];rfl)
     generalize (cmpF f 0 ==0)= cf at*
     go_enter Tryz.func91,Tryz.ntmps91
     go_wp2_with (go_at_call 137;refine(HFO.out _).mono ?_;rintro e z ⟨rfl,rfl⟩)
     go_ret
     exact⟨za HR.out.symm,HB1.out⟩
    |true=>
     cases h4:((ns:Int) ==0) with
     |false=>
      have HR:Hid (noneB k n f s ns its= false):=I (by unfold noneB;rw[h0,h1,h2,h3,h4];rfl)
      generalize (cmpF f 0 ==0)= cf at*
      go_enter Tryz.func91,Tryz.ntmps91
      go_wp2_with (go_at_call 137;refine(HFO.out _).mono ?_;rintro e z ⟨rfl,rfl⟩)
      go_ret
      exact⟨za HR.out.symm,HB1.out⟩
     |true=>
      cases h5:((its:Int) ==0) with
      |false=>
       have HR:Hid (noneB k n f s ns its= false):=I (by unfold noneB;rw[h0,h1,h2,h3,h4,h5];rfl)
       generalize (cmpF f 0 ==0)= cf at*
       go_enter Tryz.func91,Tryz.ntmps91
       go_wp2_with (go_at_call 137;refine(HFO.out _).mono ?_;rintro e z ⟨rfl,rfl⟩)
       go_ret
       exact⟨za HR.out.symm,HB1.out⟩
      |true=>
       have HR:Hid (noneB k n f s ns its= true):=I (by unfold noneB;rw[h0,h1,h2,h3,h4,h5];rfl)
       generalize (cmpF f 0 ==0)= cf at*
       go_enter Tryz.func91,Tryz.ntmps91
       go_wp2_with (go_at_call 137;refine(HFO.out _).mono ?_;rintro e z ⟨rfl,rfl⟩)
       go_ret
       exact⟨za HR.out.symm,HB1.out⟩
end
section
open Go Go.RowKit
def riseF:Option ByteArray->List ByteArray->Bool
 |_,[]=>true
 |none,s::l=>zI s && riseF (some s) l
 |some p,s::l=>zI s && (Op.bytesLess p.toList s.toList && riseF (some s) l)
theorem z4s {l:List ByteArray} {s:ByteArray} (h:l[0]?= some s):riseF (prevK l 0) (l.drop 0)=(zI s && riseF (prevK l 1) (l.drop 1)):=by
 rw[z08 h]
 show(zI s && riseF (some s) (l.drop 1))= _
 unfold prevK
 simp[h]
theorem z5K {l:List ByteArray} {k:Nat} {p s:ByteArray} (hp:l[k]?= some p) (h:l[k+1]?= some s):riseF (prevK l (k+1)) (l.drop (k+1))=(zI s && (Op.bytesLess p.toList s.toList && riseF (prevK l (k+2)) (l.drop (k+2)))):=by
 rw[z08 h]
 have h1:prevK l (k+1)= some p:=by unfold prevK;simp[hp]
 have h2:prevK l (k+2)= some s:=by unfold prevK;simp[h]
 rw[h1,h2]
 rfl
theorem z6a {l:List ByteArray}:riseF (prevK l l.length) (l.drop l.length)= true:=by
 rw[List.drop_eq_nil_of_le (Nat.le_refl _)];rw[riseF]
def zL (k:Int) (s:ByteArray) (ns:List ByteArray) (nk:Nat):Bool:=
 if k= 2 then !wordB s && (zI s && ((ns.length:Int) ==0))
 else if k= 18 then zI s && ((ns.length:Int) ==0)
 else if k= 17 then riseF none ns && (s.toList.isEmpty && ((ns.length:Int) ==(nk:Int)))
 else s.toList.isEmpty && ((ns.length:Int) ==0)
theorem zdI (p o:Nat) (sx:ByteArray) (v0 v1 v2 v3 v4 v5:Value) (A K:Option Addr) (c nk kc:Nat) (l:List ByteArray) (w:World) (hr:w.rangeAt p o [.int .i64 18,.string sx,v0,v1,v2,v3,v4,v5,.slice A l.length c,.slice K nk kc]) (hv:SlAt w w.heap.size 1 StrR (.slice A l.length c) l):
  Calls Tryz.prog 106 #[.pointer (some ⟨p,o,none⟩)] w fun e w'=>e= .returned (.bool (zL (18) sx l nk))/\Below w.heap.size w w':=by
 have d0:w.cell? ⟨p,o,none⟩= some (.int .i64 18):=hr 0 _ rfl
 have d1:w.cell? ⟨p,o+1,none⟩= some (.string sx):=hr 1 _ rfl
 have d8:w.cell? ⟨p,o+8,none⟩= some (.slice A l.length c):=hr 8 _ rfl
 have d9:w.cell? ⟨p,o+9,none⟩= some (.slice K nk kc):=hr 9 _ rfl
 have HPL:Hid (p < w.heap.size):=I (z2a d0)
 have D8:=I d8
 clear hr hv d8
 have d8:=D8.out
 have HFD:=I (fun w=>z3e sx w)
 cases hf:zI sx with
 |false=>
  have HR:Hid (zL 18 sx l nk= false):=I (by unfold zL;rw[if_neg (by decide),if_pos rfl];rw[hf];rfl)
  rw[hf] at HFD
  skip
  clear hf
  go_enter Tryz.func106,Tryz.ntmps106
  go_wp2_with (go_at_call 148;refine(HFD.out _).mono ?_;rintro e z ⟨rfl,hb⟩;have HB:=I hb;have e8:=(hb.cell (p:=⟨p,o+8,none⟩) HPL.out).trans D8.out;clear hb)
  go_ret
  exact⟨za HR.out.symm,HB.out⟩
 |true=>
  cases hl:((l.length:Int) ==0) with
  |true=>
   have HR:Hid (zL 18 sx l nk= true):=I (by unfold zL;rw[if_neg (by decide),if_pos rfl];rw[hf,hl];rfl)
   rw[hf] at HFD
   skip
   clear hf
   go_enter Tryz.func106,Tryz.ntmps106
   go_wp2_with (go_at_call 148;refine(HFD.out _).mono ?_;rintro e z ⟨rfl,hb⟩;have HB:=I hb;have e8:=(hb.cell (p:=⟨p,o+8,none⟩) HPL.out).trans D8.out;clear hb)
   go_ret
   exact⟨za HR.out.symm,HB.out⟩
  |false=>
   have HR:Hid (zL 18 sx l nk= false):=I (by unfold zL;rw[if_neg (by decide),if_pos rfl];rw[hf,hl];rfl)
   rw[hf] at HFD
   skip
   clear hf
   go_enter Tryz.func106,Tryz.ntmps106
   go_wp2_with (go_at_call 148;refine(HFD.out _).mono ?_;rintro e z ⟨rfl,hb⟩;have HB:=I hb;have e8:=(hb.cell (p:=⟨p,o+8,none⟩) HPL.out).trans D8.out;clear hb)
   go_ret
   exact⟨za HR.out.symm,HB.out⟩
theorem zel (p o:Nat) (sx:ByteArray) (v0 v1 v2 v3 v4 v5:Value) (A K:Option Addr) (c nk kc:Nat) (l:List ByteArray) (w:World) (hr:w.rangeAt p o [.int .i64 2,.string sx,v0,v1,v2,v3,v4,v5,.slice A l.length c,.slice K nk kc]) (hv:SlAt w w.heap.size 1 StrR (.slice A l.length c) l):
  Calls Tryz.prog 106 #[.pointer (some ⟨p,o,none⟩)] w fun e w'=>e= .returned (.bool (zL (2) sx l nk))/\Below w.heap.size w w':=by
 have d0:w.cell? ⟨p,o,none⟩= some (.int .i64 2):=hr 0 _ rfl
 have d1:w.cell? ⟨p,o+1,none⟩= some (.string sx):=hr 1 _ rfl
 have d8:w.cell? ⟨p,o+8,none⟩= some (.slice A l.length c):=hr 8 _ rfl
 have d9:w.cell? ⟨p,o+9,none⟩= some (.slice K nk kc):=hr 9 _ rfl
 have HPL:Hid (p < w.heap.size):=I (z2a d0)
 have D8:=I d8
 clear hr hv d8
 have d8:=D8.out
 have HWD:=I (fun w=>zbc sx w)
 cases hw:wordB sx with
 |true=>
  have HR:Hid (zL 2 sx l nk= false):=I (by unfold zL;rw[if_pos rfl,hw];rfl)
  rw[hw] at HWD
  clear hw
  go_enter Tryz.func106,Tryz.ntmps106
  go_wp2_with (go_at_call 147;refine(HWD.out _).mono ?_;rintro e z ⟨rfl,rfl⟩)
  go_ret
  exact⟨za HR.out.symm,Below.refl _ _⟩
 |false=>
  have HFD:=I (fun w=>z3e sx w)
  cases hf:zI sx with
  |false=>
   have HR:Hid (zL 2 sx l nk= false):=I (by unfold zL;rw[if_pos rfl];rw[hw,hf];rfl)
   rw[hf] at HFD
   rw[hw] at HWD
   clear hf hw
   go_enter Tryz.func106,Tryz.ntmps106
   go_wp2_with (first|(go_at_call 148;refine(HFD.out _).mono ?_;rintro e z ⟨rfl,hb⟩;have HB:=I hb;have e8:=(hb.cell (p:=⟨p,o+8,none⟩) HPL.out).trans D8.out;clear hb)|(go_at_call 147;refine(HWD.out _).mono ?_;rintro e z ⟨rfl,rfl⟩))
   go_ret
   exact⟨za HR.out.symm,HB.out⟩
  |true=>
   cases hl:((l.length:Int) ==0) with
   |true=>
    have HR:Hid (zL 2 sx l nk= true):=I (by unfold zL;rw[if_pos rfl];rw[hw,hf,hl];rfl)
    rw[hf] at HFD
    rw[hw] at HWD
    clear hf hw
    go_enter Tryz.func106,Tryz.ntmps106
    go_wp2_with (first|(go_at_call 148;refine(HFD.out _).mono ?_;rintro e z ⟨rfl,hb⟩;have HB:=I hb;have e8:=(hb.cell (p:=⟨p,o+8,none⟩) HPL.out).trans D8.out;clear hb)|(go_at_call 147;refine(HWD.out _).mono ?_;rintro e z ⟨rfl,rfl⟩))
    go_ret
    exact⟨za HR.out.symm,HB.out⟩
   |false=>
    have HR:Hid (zL 2 sx l nk= false):=I (by unfold zL;rw[if_pos rfl];rw[hw,hf,hl];rfl)
    rw[hf] at HFD
    rw[hw] at HWD
    clear hf hw
    go_enter Tryz.func106,Tryz.ntmps106
    go_wp2_with (first|(go_at_call 148;refine(HFD.out _).mono ?_;rintro e z ⟨rfl,hb⟩;have HB:=I hb;have e8:=(hb.cell (p:=⟨p,o+8,none⟩) HPL.out).trans D8.out;clear hb)|(go_at_call 147;refine(HWD.out _).mono ?_;rintro e z ⟨rfl,rfl⟩))
    go_ret
    exact⟨za HR.out.symm,HB.out⟩
theorem zeI (k:Int) (h2:k≠2) (h17:k≠17) (h18:k≠18) (p o:Nat) (sx:ByteArray) (v0 v1 v2 v3 v4 v5:Value) (A K:Option Addr) (c nk kc:Nat) (l:List ByteArray) (w:World) (hr:w.rangeAt p o [.int .i64 k,.string sx,v0,v1,v2,v3,v4,v5,.slice A l.length c,.slice K nk kc]) (hv:SlAt w w.heap.size 1 StrR (.slice A l.length c) l):
  Calls Tryz.prog 106 #[.pointer (some ⟨p,o,none⟩)] w fun e w'=>e= .returned (.bool (zL k sx l nk))/\Below w.heap.size w w':=by
 have d0:w.cell? ⟨p,o,none⟩= some (.int .i64 k):=hr 0 _ rfl
 have d1:w.cell? ⟨p,o+1,none⟩= some (.string sx):=hr 1 _ rfl
 have d8:w.cell? ⟨p,o+8,none⟩= some (.slice A l.length c):=hr 8 _ rfl
 have d9:w.cell? ⟨p,o+9,none⟩= some (.slice K nk kc):=hr 9 _ rfl
 have HPL:Hid (p < w.heap.size):=I (z2a d0)
 have D8:=I d8
 have e2:(k ==2)= false:=by rw[beq_eq_false_iff_ne];exact h2
 have e17:(k ==17)= false:=by rw[beq_eq_false_iff_ne];exact h17
 have e18:(k ==18)= false:=by rw[beq_eq_false_iff_ne];exact h18
 have HU:Hid (zL k sx l nk=(sx.toList.isEmpty && ((l.length:Int) ==0))):=I (by unfold zL;rw[if_neg h2,if_neg h18,if_neg h17])
 clear hr hv h2 h17 h18
 cases hs:sx.toList.isEmpty with
 |false=>
  have HR:=I (HU.out.trans (by rw[hs];rfl:_= false))
  go_enter Tryz.func106,Tryz.ntmps106
  go_wp2
  go_ret
  exact⟨za HR.out.symm,Below.refl _ _⟩
 |true=>
  cases hl:((l.length:Int) ==0) with
  |false=>
   have HR:=I (HU.out.trans (by rw[hs,hl];rfl:_= false))
   go_enter Tryz.func106,Tryz.ntmps106
   go_wp2
   go_ret
   exact⟨za HR.out.symm,Below.refl _ _⟩
  |true=>
   have HR:=I (HU.out.trans (by rw[hs,hl];rfl:_= true))
   go_enter Tryz.func106,Tryz.ntmps106
   go_wp2
   go_ret
   exact⟨za HR.out.symm,Below.refl _ _⟩
theorem zda (p o:Nat) (sx:ByteArray) (v0 v1 v2 v3 v4 v5:Value) (A K:Option Addr) (c nk kc:Nat) (l:List ByteArray) (w:World) (hr:w.rangeAt p o [.int .i64 17,.string sx,v0,v1,v2,v3,v4,v5,.slice A l.length c,.slice K nk kc]) (hv:SlAt w w.heap.size 1 StrR (.slice A l.length c) l):
  Calls Tryz.prog 106 #[.pointer (some ⟨p,o,none⟩)] w fun e w'=>e= .returned (.bool (zL (17) sx l nk))/\Below w.heap.size w w':=by
 have d0:w.cell? ⟨p,o,none⟩= some (.int .i64 17):=hr 0 _ rfl
 have d1:w.cell? ⟨p,o+1,none⟩= some (.string sx):=hr 1 _ rfl
 have d8:w.cell? ⟨p,o+8,none⟩= some (.slice A l.length c):=hr 8 _ rfl
 have d9:w.cell? ⟨p,o+9,none⟩= some (.slice K nk kc):=hr 9 _ rfl
 have HPL:Hid (p < w.heap.size):=I (z2a d0)
 have D8:=I d8
 obtain⟨_,hl,ha⟩:=z1l hv
 have HA:=I ha
 have H1:=I (fun s=>z4s (l:=l) (s:=s))
 have H2:=I (fun k p s=>z5K (l:=l) (k:=k) (p:=p) (s:=s))
 have HE:=I (z6a (l:=l))
 have HU:Hid (zL 17 sx l nk=(riseF none l && (sx.toList.isEmpty && ((l.length:Int) ==(nk:Int))))):=I (by unfold zL;rw[if_neg (by decide),if_neg (by decide),if_pos rfl])
 have H0:Hid (riseF (prevK l 0) (l.drop 0)= riseF none l):=I rfl
 have hl2:(l.length:Int)<=9223372036854775807:=by omega
 have D1:=I d1
 have D9:=I d9
 clear ha hv hr
 obtain⟨res,hres0⟩:∃ res,riseF none l= res:=⟨_,rfl⟩
 have HRES:=I hres0
 rw[hres0] at H0
 clear hres0
 go_enter Tryz.func106,Tryz.ntmps106
 go_upto_region 9 with (fail)
 go_loopg [38] l.length (fun q x u=>∃ k:Nat,k+q= l.length/\x= .int .i64 k/\Below w.heap.size w u/\riseF (prevK l k) (l.drop k)= res)
 case atStart=>exact⟨0,by omega,rfl,Below.refl _ _,H0.out⟩
 case round=>
  obtain⟨k,hk,rfl,hb,hres⟩:=hrel
  have HR:=I hres
  have HBK:=I hb
  clear hres hb
  cases gk with
  |zero=>
   obtain rfl:k= l.length:=by omega
   have hge: ¬ ((l.length:Int) <(l.length:Int)):=by omega
   have HV:=I (HR.out.symm.trans HE.out)
   have x1:=(HBK.out.cell (p:=⟨p,o+1,none⟩) HPL.out).trans D1.out
   have x8:=(HBK.out.cell (p:=⟨p,o+8,none⟩) HPL.out).trans D8.out
   have x9:=(HBK.out.cell (p:=⟨p,o+9,none⟩) HPL.out).trans D9.out
   clear HR
   cases hs:sx.toList.isEmpty with
   |false=>
    have HR2:Hid (zL 17 sx l nk= false):=I (by rw[HU.out,HRES.out,HV.out,hs];rfl)
    go_upto_region 14 with (fail)
    go_quiet (fail)
    go_wp2
    go_ret
    exact⟨za HR2.out.symm,HBK.out.trans ⟨rfl,rfl,rfl,Nat.le_refl _,fun _ _=>rfl⟩⟩
   |true=>
    cases hl:((l.length:Int) ==(nk:Int)) with
    |false=>
     have HR2:Hid (zL 17 sx l nk= false):=I (by rw[HU.out,HRES.out,HV.out,hs,hl];rfl)
     go_upto_region 14 with (fail)
     go_quiet (fail)
     go_wp2
     go_ret
     exact⟨za HR2.out.symm,HBK.out.trans ⟨rfl,rfl,rfl,Nat.le_refl _,fun _ _=>rfl⟩⟩
    |true=>
     have HR2:Hid (zL 17 sx l nk= true):=I (by rw[HU.out,HRES.out,HV.out,hs,hl];rfl)
     go_upto_region 14 with (fail)
     go_quiet (fail)
     go_wp2
     go_ret
     exact⟨za HR2.out.symm,HBK.out.trans ⟨rfl,rfl,rfl,Nat.le_refl _,fun _ _=>rfl⟩⟩
  |succ q=>
   have hlt:(k:Int) <(l.length:Int):=by omega
   obtain⟨s,hs⟩:∃ s,l[k]?= some s:=⟨_,List.getElem?_eq_getElem (by omega)⟩
   obtain⟨b,oo,rfl,hbl,hc⟩:=HA.out (by omega)
   have HCC:=I (fun i x hx=>(hc i x hx).1)
   have HBL:=I hbl
   have ds:=(HBK.out.cell (p:=⟨b,oo+k,none⟩) hbl).trans (hc k s hs).1
   have HNM:=I (z3e s wr)
   have HSK:=I hs
   clear hc hbl hs
   rcases Nat.eq_zero_or_pos k with hk0|hk0
   ·subst hk0
    have ds0:wr.cell? ⟨b,oo,none⟩= some (.string s):=ds
    have hlt0:(0:Int) <(l.length:Int):=by omega
    have HV:=I (HR.out.symm.trans (H1.out s HSK.out))
    clear HR
    generalize zI s= nb at*
    cases nb with
    |false=>
     have HV2:Hid (res= false):=I (HV.out.trans (Bool.false_and _))
     clear HV
     go_wp2_with (go_at_call 148;refine HNM.out.mono ?_;rintro e z ⟨rfl,hbz⟩;have HB3:=I hbz;clear hbz)
     go_ret
     exact⟨za (by rw[HU.out,HRES.out,HV2.out];rfl),HBK.out.trans (HB3.out.mono HBK.out.size)⟩
    |true=>
     have HV2:=I (HV.out.trans (Bool.true_and _))
     clear HV
     go_wp2_with (go_at_call 148;refine HNM.out.mono ?_;rintro e z ⟨rfl,hbz⟩;have HB3:=I hbz;clear hbz)
     go_roundg q
     case measure=>omega
     case rel=>exact⟨1,by omega,by go_num,HBK.out.trans (HB3.out.mono HBK.out.size),HV2.out.symm⟩
   ·obtain⟨j,rfl⟩:∃ j,k= j+1:=⟨k - 1,by omega⟩
    obtain⟨pn,hp⟩:∃ pn,l[j]?= some pn:=⟨_,List.getElem?_eq_getElem (by omega)⟩
    have HV:=I (HR.out.symm.trans (H2.out j pn s hp HSK.out))
    have HDP:=I (HCC.out j pn hp)
    have hpos:(0:Int) <((j+1:Nat):Int):=by omega
    have hj2:(j:Int) <(l.length:Int):=by omega
    clear HR hp
    generalize zI s= nb at*
    cases nb with
    |false=>
     have HV2:Hid (res= false):=I (HV.out.trans (Bool.false_and _))
     clear HV
     go_wp2_with (go_at_call 148;refine HNM.out.mono ?_;rintro e z ⟨rfl,hbz⟩;have HB3:=I hbz;clear hbz)
     go_ret
     exact⟨za (by rw[HU.out,HRES.out,HV2.out];rfl),HBK.out.trans (HB3.out.mono HBK.out.size)⟩
    |true=>
     have HV2:=I (HV.out.trans (Bool.true_and _))
     clear HV
     cases hlt3:Op.bytesLess pn.toList s.toList with
     |false=>
      have HV3:Hid (res= false):=I (HV2.out.trans (by rw[hlt3];exact Bool.false_and _))
      go_wp2_with (go_at_call 148;refine HNM.out.mono ?_;rintro e z ⟨rfl,hbz⟩;have HB3:=I hbz;have x8:=((HBK.out.trans (hbz.mono HBK.out.size)).cell (p:=⟨p,o+8,none⟩) HPL.out).trans D8.out;have dp:=(((HBK.out.trans (hbz.mono HBK.out.size)).cell (p:=⟨b,oo+j,none⟩) HBL.out)).trans HDP.out;clear hbz)
      go_ret
      exact⟨za (by rw[HU.out,HRES.out,HV3.out];rfl),HBK.out.trans (HB3.out.mono HBK.out.size)⟩
     |true=>
      have HV3:=I (HV2.out.trans (by rw[hlt3,Bool.true_and]))
      go_wp2_with (go_at_call 148;refine HNM.out.mono ?_;rintro e z ⟨rfl,hbz⟩;have HB3:=I hbz;have x8:=((HBK.out.trans (hbz.mono HBK.out.size)).cell (p:=⟨p,o+8,none⟩) HPL.out).trans D8.out;have dp:=(((HBK.out.trans (hbz.mono HBK.out.size)).cell (p:=⟨b,oo+j,none⟩) HBL.out)).trans HDP.out;clear hbz)
      go_roundg q
      case measure=>omega
      case rel=>exact⟨j+2,by omega,by go_num,HBK.out.trans (HB3.out.mono HBK.out.size),HV3.out.symm⟩
theorem zaJ (k:Int) (p o:Nat) (sx:ByteArray) (v0 v1 v2 v3 v4 v5:Value) (A K:Option Addr) (c nk kc:Nat) (l:List ByteArray) (w:World) (hr:w.rangeAt p o [.int .i64 k,.string sx,v0,v1,v2,v3,v4,v5,.slice A l.length c,.slice K nk kc]) (hv:SlAt w w.heap.size 1 StrR (.slice A l.length c) l):
  Calls Tryz.prog 106 #[.pointer (some ⟨p,o,none⟩)] w fun e w'=>e= .returned (.bool (zL k sx l nk))/\Below w.heap.size w w':=by
 rcases Classical.em (k= 2) with rfl|h2
 ·exact zel p o sx v0 v1 v2 v3 v4 v5 A K c nk kc l w hr hv
 rcases Classical.em (k= 17) with rfl|h17
 ·exact zda p o sx v0 v1 v2 v3 v4 v5 A K c nk kc l w hr hv
 rcases Classical.em (k= 18) with rfl|h18
 ·exact zdI p o sx v0 v1 v2 v3 v4 v5 A K c nk kc l w hr hv
 exact zeI k h2 h17 h18 p o sx v0 v1 v2 v3 v4 v5 A K c nk kc l w hr hv
end
section
open Go Go.RowKit
theorem z97:∀ (t:VT) (m:Nat) (cs:List Value) (w:World),m < 500->ValAt w w.heap.size cs t->
  Calls Tryz.prog 85 #[.agg ⟨cs⟩,.int .i64 m] w fun e w'=>e= .returned (.int .i64 (cntV t m:Nat))/\Below w.heap.size w w':=by
 intro t
 induction t using VT.ind with
 |h k n f s ns its ih=>
  intro m cs w hm hv
  have IH:=I ih
  obtain⟨vn,vi,rfl,_,_,_,_,_,_,hi⟩:=hv.inv
  obtain⟨A,c,rfl,hil,hA⟩:=z0F hi
  have HA:=I hA
  have HS:=I (fun k m x=>z6f (l:=its) (k:=k) (m:=m) (x:=x))
  have HE:=I (fun m=>z84 (l:=its) (m:=m))
  have HLE:=I (fun x m hm=>z8W x m hm)
  have HCE:Hid (∀ k m,500<=m->cntL (its.drop k) m= m):=I (fun k m h=>by
   cases its.drop k with
   |nil=>rw[cntL]
   |cons a l=>rw[cntL,if_pos h])
  have H0:Hid (cntL (its.drop 0) (m+1)= cntV (.mk k n f s ns its) m):=I (by rw[cntV];rfl)
  clear ih hi hA hv
  generalize cntV (.mk k n f s ns its) m= res at*
  go_enter Tryz.func85,Tryz.ntmps85
  go_upto_region 1 with (fail)
  have hb0:=ze w (.cells ⟨[.int .i64 k,.int .i64 n,.float .f64 f,.string s,vn,.slice A its.length c]⟩ 26)
  have hz0:=zt w (.cells ⟨[.int .i64 k,.int .i64 n,.float .f64 f,.string s,vn,.slice A its.length c]⟩ 26)
  have c5:=zA w ⟨[.int .i64 k,.int .i64 n,.float .f64 f,.string s,vn,.slice A its.length c]⟩ 26 5
  generalize w.alloc (.cells ⟨[.int .i64 k,.int .i64 n,.float .f64 f,.string s,vn,.slice A its.length c]⟩ 26)= W at*
  have HB:=I hb0
  have C5:=I c5
  have HSZ:=I hz0
  clear hb0 c5 hz0
  have hm2:(m:Int) < 500:=by omega
  go_wp2
  go_loopg [1,5] its.length (fun g u i wr=>∃ (j m:Nat),j+g= its.length/\i= .int .i64 j/\u= .int .i64 m/\m<=500/\Below W.heap.size W wr/\cntL (its.drop j) m= res)
  case atStart=>exact⟨0,m+1,by omega,rfl,by go_num,by omega,Below.refl _ _,H0.out⟩
  case round=>
   obtain⟨j,m,hj,rfl,rfl,hm5,hb,hres⟩:=hrel
   have HB1:=I hb
   have HR:=I hres
   have d5:=(hb.cell (p:=⟨w.heap.size,5,none⟩) HSZ.out).trans C5.out
   clear hb hres
   simp only[List.getElem?_toArray,List.getElem?_cons_succ,List.getElem?_cons_zero] at d5
   have hm5':(m:Int)<=500:=by omega
   cases gk with
   |zero=>
    obtain rfl:j= its.length:=by omega
    have hge: ¬ ((its.length:Int) <(its.length:Int)):=by omega
    have HV:=I (HR.out.symm.trans (HE.out m))
    go_wp2
    go_ret
    exact⟨by rw[HV.out];go_num,HB.out.trans (HB1.out.mono HB.out.size)⟩
   |succ g=>
    have hlt:(j:Int) <(its.length:Int):=by omega
    by_cases h0:m < 500
    ·have hz2:w.heap.size<=wr.heap.size:=Nat.le_trans HB.out.size HB1.out.size
     obtain⟨y,hy⟩:∃ y,its[j]?= some y:=⟨_,List.getElem?_eq_getElem (by omega)⟩
     obtain⟨b,o,rfl,hbb,hc⟩:=HA.out (by omega)
     obtain⟨cs,hr,hR⟩:=hc j y hy
     have hB2:=HB.out.trans (HB1.out.mono HB.out.size)
     have HV:=I (HR.out.symm.trans (HS.out j m y hy))
     have HV2:=I (HV.out.trans (if_neg (by omega)))
     have HR1:=I (zd hr hB2 hbb)
     have HC:=I (IH.out y (List.mem_of_getElem? hy) m cs wr h0 (hR.next hB2))
     have HCL:=I (zi hR)
     have hle:=HLE.out y m h0
     have h0':(m:Int) < 500:=by omega
     clear hc hr hR hB2 hy HV h0
     go_wp2_with (first|((with_reducible refine zc 26 _ rfl ?hwa b (o+j*6) cs _ rfl HR1.out Tryz.underlying26 rfl ?hia ?_);(case hwa=>(exact wantA rfl));(case hia=>rw[HCL.out.1];kernel_rfl))|(go_at_call 85;refine HC.out.mono ?_;rintro e w' ⟨rfl,hb⟩;have HB2:=I hb;clear hb))
     go_roundg g
     case measure=>omega
     case rel=>exact⟨j+1,_,by omega,by go_num,rfl,hle,HB1.out.trans (HB2.out.mono HB1.out.size),HV2.out.symm⟩
    ·have HV:=I (HR.out.symm.trans (HCE.out j m (by omega)))
     have h0': ¬ ((m:Int) < 500):=by omega
     have hm500:m= 500:=by omega
     go_wp2
     all_goals
      go_ret
      exact⟨by rw[HV.out,hm500];rfl,HB.out.trans (HB1.out.mono HB.out.size)⟩
theorem z9h (t:VT) (cs:List Value) (w:World) (hv:ValAt w w.heap.size cs t):Calls Tryz.prog 47 #[.agg ⟨cs⟩] w fun e w'=>e= .returned (.int .i64 (cntV t 0:Nat))/\Below w.heap.size w w':=by
 have HCL:=I (vlen hv)
 have HV:=I hv
 clear hv
 go_enter Tryz.func47,Tryz.ntmps47
 go_upto_region 1 with (fail)
 have HB:=I (ze w (.cells ⟨cs⟩ 26))
 have HR:=I (zq w cs 26)
 generalize w.alloc (.cells ⟨cs⟩ 26)= W at*
 have HC:=I (z97 t 0 cs W (by omega) (HV.out.next HB.out))
 go_wp2_with (first|((with_reducible refine zc 26 _ rfl ?hwa w.heap.size 0 cs _ rfl HR.out Tryz.underlying26 rfl ?hia ?_);(case hwa=>(exact wantA rfl));(case hia=>rw[HCL.out];kernel_rfl))|(go_at_call 85;refine HC.out.mono ?_;rintro e w' ⟨rfl,hb⟩;have HB2:=I hb;clear hb))
 go_ret
 exact⟨rfl,HB.out.trans (HB2.out.mono HB.out.size)⟩
theorem lenB (l:Nat):(((l:Nat):Int) ==0)=(l ==0):=by
 by_cases h:l= 0
 ·subst h;rfl
 ·rw[beq_eq_false_iff_ne.2 h,beq_eq_false_iff_ne];omega
theorem sc2 (a b:Bool):a= false\/(a= true/\b= false)\/(a= true/\b= true):=by cases a<;>cases b<;>simp
theorem sc3 (a b c:Bool):a= false\/(a= true/\b= false)\/(a= true/\b= true/\c= false)\/(a= true/\b= true/\c= true):=by cases a<;>cases b<;>cases c<;>simp
theorem sc4 (a b c d:Bool):a= false\/(a= true/\b= false)\/(a= true/\b= true/\c= false)\/(a= true/\b= true/\c= true/\d= false)\/(a= true/\b= true/\c= true/\d= true):=by cases a<;>cases b<;>cases c<;>cases d<;>simp
theorem sc1 (a b c d e f:Bool):a= false\/(a= true/\b= false)\/(a= true/\b= true/\c= false)\/(a= true/\b= true/\c= true/\d= false)\/(a= true/\b= true/\c= true/\d= true/\e= true)\/(a= true/\b= true/\c= true/\d= true/\e= false/\f= true)\/(a= true/\b= true/\c= true/\d= true/\e= false/\f= false):=by cases a<;>cases b<;>cases c<;>cases d<;>cases e<;>cases f<;>simp
theorem sc5 (a b c d e:Bool):a= false\/(a= true/\b= false)\/(a= true/\b= true/\c= false)\/(a= true/\b= true/\c= true/\d= false)\/(a= true/\b= true/\c= true/\d= true/\e= false)\/(a= true/\b= true/\c= true/\d= true/\e= true):=by cases a<;>cases b<;>cases c<;>cases d<;>cases e<;>simp
theorem z9g:∀ (t:VT) (far d:Nat) (cs:List Value) (w:World),far+d= 13->ValAt w w.heap.size cs t->
  Calls Tryz.prog 48 #[.agg ⟨cs⟩,.int .i64 far] w fun e w'=>e= .returned (.bool (zo t d))/\Below w.heap.size w w':=by
 intro t
 induction t using VT.ind with
 |h k n f s ns its ih=>
  intro far d cs w hfd hv
  have IH:=I ih
  obtain⟨vn,vi,rfl,_,_,hf,_,hn,_,hi⟩:=hv.inv
  obtain⟨_,NA,nc,rfl,_⟩:=id hn
  obtain⟨A,c,rfl,hil,hA⟩:=z0F hi
  have hnl:=hn.1
  have HF:=I (wf64 hf)
  have HN:=I hn
  have HA:=I hA
  have hf13:far<=13:=by omega
  have hfd':d= 13 - far:=by omega
  have HO:Hid (zo (.mk k n f s ns its) d= if 12 < d then false
   else if k= 1 then bareB true false false false n f s ns.length its.length && (n / 2 ==0)
   else if k= 2 then bareB true false false false n f s ns.length its.length
   else if k= 3 then bareB false true false false n f s ns.length its.length
   else if k= 4 then bareB false false true false n f s ns.length its.length && decide (s.size<=200)
   else if k= 6 then(ns.length ==its.length) && (riseB none ns && (bareB false false false true n f s ns.length its.length && zE its (d+1)))
   else if k= 5 then bareB false false false true n f s ns.length its.length && ((ns.length ==0) && zE its (d+1))
   else false):=I (by rw[zo])
  generalize hres:zo (.mk k n f s ns its) d= res at*
  have HW:=I (ze w (.cells ⟨[.int .i64 k,.int .i64 n,.float .f64 f,.string s,.slice NA ns.length nc,.slice A its.length c]⟩ 26))
  have HSZ:=I (zt w (.cells ⟨[.int .i64 k,.int .i64 n,.float .f64 f,.string s,.slice NA ns.length nc,.slice A its.length c]⟩ 26))
  have HRG:=I (zq w [.int .i64 k,.int .i64 n,.float .f64 f,.string s,.slice NA ns.length nc,.slice A its.length c] 26)
  clear ih hv hi hA hf hres hn
  go_enter Tryz.func48,Tryz.ntmps48
  go_upto_region 1 with (fail)
  generalize w.alloc (.cells ⟨[.int .i64 k,.int .i64 n,.float .f64 f,.string s,.slice NA ns.length nc,.slice A its.length c]⟩ 26)= W at*
  have d0:W.cell? ⟨w.heap.size,0,none⟩= some (.int .i64 k):=by have:=HRG.out 0 _ rfl;simpa using this
  have d1:W.cell? ⟨w.heap.size,1,none⟩= some (.int .i64 n):=by have:=HRG.out 1 _ rfl;simpa using this
  have d3:W.cell? ⟨w.heap.size,3,none⟩= some (.string s):=by have:=HRG.out 3 _ rfl;simpa using this
  have d4:W.cell? ⟨w.heap.size,4,none⟩= some (.slice NA ns.length nc):=by have:=HRG.out 4 _ rfl;simpa using this
  have d5:W.cell? ⟨w.heap.size,5,none⟩= some (.slice A its.length c):=by have:=HRG.out 5 _ rfl;simpa using this
  have D5:=I d5
  have HB2:=I (Below.refl W.heap.size W)
  have HL6:Hid (∀ a b c d e f:Value,[a,b,c,d,e,f].length= 6):=I fun _ _ _ _ _ _=>rfl
  have HZ:=I (fun k n s vn vi z=>za3 k n f s vn vi HF.out z)
  have HNS:=I (fun z (hz:Below w.heap.size w z)=>z5l (.slice NA ns.length nc) ns its.length z ((HN.out.below hz fun _ _ _ h=>h).more hz.size))
  obtain⟨bi,hbi⟩:∃ b,(its.length ==0)= b:=⟨_,rfl⟩
  obtain⟨bm,hbm⟩:∃ b,(ns.length ==0)= b:=⟨_,rfl⟩
  obtain⟨bz,hcz⟩:∃ b,(cmpF f 0 ==0)= b:=⟨_,rfl⟩
  obtain⟨bs,hbs⟩:∃ b,s.toList.isEmpty= b:=⟨_,rfl⟩
  obtain⟨b0,hb0⟩:∃ b,(n ==0)= b:=⟨_,rfl⟩
  obtain⟨b1,hb1⟩:∃ b,(n ==1)= b:=⟨_,rfl⟩
  obtain⟨bl,hbl⟩:∃ b,decide (s.size<=200)= b:=⟨_,rfl⟩
  obtain⟨bn,hbn⟩:∃ b,(riseB none ns && (ns.length ==its.length))= b:=⟨_,rfl⟩
  have i1:((its.length:Int) ==0)= bi:=(lenB _).trans hbi
  have m1:((ns.length:Int) ==0)= bm:=(lenB _).trans hbm
  have m2:decide ((0:Int) <(ns.length:Int))=!bm:=by
   rw[← hbm]
   by_cases h:ns.length= 0
   ·rw[h];rfl
   ·rw[decide_eq_true (by omega),beq_eq_false_iff_ne.2 h];rfl
  have t2:(n !=0)=!b0:=by rw[← hb0];rfl
  have l1:decide ((s.size:Int)<=200)= bl:=by
   rw[← hbl]
   by_cases h:s.size<=200
   ·rw[decide_eq_true h,decide_eq_true (by omega)]
   ·rw[decide_eq_false h,decide_eq_false (by omega)]
  have t6:(n / 2 ==0)=(b0 || b1):=by
   rw[← hb0,← hb1]
   by_cases h0:n= 0
   ·subst h0;rfl
   ·by_cases h1:n= 1
    ·subst h1;rfl
    ·rw[beq_eq_false_iff_ne.2 h0,beq_eq_false_iff_ne.2 h1,Bool.or_false,beq_eq_false_iff_ne];omega
  rw[hcz] at HZ
  rw[hbn] at HNS
  by_cases hdeep:far= 0
  ·subst hdeep
   have t1:((0:Nat):Int) < 1:=by omega
   have hd12:12 < d:=by omega
   rcases sc2 bi bm with rfl|⟨rfl,rfl⟩|⟨rfl,rfl⟩
   all_goals (go_wp2;go_ret;exact⟨za (by rw[HO.out,if_pos hd12]),HW.out⟩)
  have t1: ¬ ((far:Int) < 1):=by omega
  have hd12: ¬ 12 < d:=by omega
  have HO:=I (HO.out.trans (if_neg hd12))
  by_cases k1:k= 1
  ·subst k1
   rcases sc1 bi bm bz bs b0 b1 with rfl|⟨rfl,rfl⟩|⟨rfl,rfl,rfl⟩|⟨rfl,rfl,rfl,rfl⟩|⟨rfl,rfl,rfl,rfl,rfl⟩|⟨rfl,rfl,rfl,rfl,rfl,rfl⟩|⟨rfl,rfl,rfl,rfl,rfl,rfl⟩
   all_goals (go_wp2_with (first|((with_reducible refine zc 26 _ rfl ?hwa w.heap.size 0 [.int .i64 1,.int .i64 n,.float .f64 f,.string s,.slice NA ns.length nc,.slice A its.length c] _ rfl HRG.out Tryz.underlying26 rfl ?hia ?_);(case hwa=>(exact wantA rfl));(case hia=>rw[HL6.out];kernel_rfl))|(go_at_call 86;refine(HZ.out _ _ _ _ _ _).mono ?_;rintro e z ⟨rfl,hb⟩;have HB2:=I (HB2.out.trans (hb.mono HB2.out.size));have d0':=(hb.cell (p:=⟨w.heap.size,0,none⟩) HSZ.out).trans d0;have d1':=(hb.cell (p:=⟨w.heap.size,1,none⟩) HSZ.out).trans d1;have d3':=(hb.cell (p:=⟨w.heap.size,3,none⟩) HSZ.out).trans d3;have d4':=(hb.cell (p:=⟨w.heap.size,4,none⟩) HSZ.out).trans d4;have d5':=(hb.cell (p:=⟨w.heap.size,5,none⟩) HSZ.out).trans d5;clear hb));go_ret;exact⟨za (by rw[HO.out];simp[bareB,hbi,hbm,hcz,hbs,hb0,hbl,t6]),HW.out.trans (HB2.out.mono HW.out.size)⟩)
  by_cases k2:k= 2
  ·subst k2
   rcases sc4 bi bm bz bs with rfl|⟨rfl,rfl⟩|⟨rfl,rfl,rfl⟩|⟨rfl,rfl,rfl,rfl⟩|⟨rfl,rfl,rfl,rfl⟩
   all_goals (go_wp2_with (first|((with_reducible refine zc 26 _ rfl ?hwa w.heap.size 0 [.int .i64 2,.int .i64 n,.float .f64 f,.string s,.slice NA ns.length nc,.slice A its.length c] _ rfl HRG.out Tryz.underlying26 rfl ?hia ?_);(case hwa=>(exact wantA rfl));(case hia=>rw[HL6.out];kernel_rfl))|(go_at_call 86;refine(HZ.out _ _ _ _ _ _).mono ?_;rintro e z ⟨rfl,hb⟩;have HB2:=I (HB2.out.trans (hb.mono HB2.out.size));have d0':=(hb.cell (p:=⟨w.heap.size,0,none⟩) HSZ.out).trans d0;have d1':=(hb.cell (p:=⟨w.heap.size,1,none⟩) HSZ.out).trans d1;have d3':=(hb.cell (p:=⟨w.heap.size,3,none⟩) HSZ.out).trans d3;have d4':=(hb.cell (p:=⟨w.heap.size,4,none⟩) HSZ.out).trans d4;have d5':=(hb.cell (p:=⟨w.heap.size,5,none⟩) HSZ.out).trans d5;clear hb));go_ret;exact⟨za (by rw[HO.out];simp[bareB,hbi,hbm,hcz,hbs,hb0,hbl,t6]),HW.out.trans (HB2.out.mono HW.out.size)⟩)
  by_cases k3:k= 3
  ·subst k3
   rcases sc4 bi bm b0 bs with rfl|⟨rfl,rfl⟩|⟨rfl,rfl,rfl⟩|⟨rfl,rfl,rfl,rfl⟩|⟨rfl,rfl,rfl,rfl⟩
   all_goals (go_wp2_with (first|((with_reducible refine zc 26 _ rfl ?hwa w.heap.size 0 [.int .i64 3,.int .i64 n,.float .f64 f,.string s,.slice NA ns.length nc,.slice A its.length c] _ rfl HRG.out Tryz.underlying26 rfl ?hia ?_);(case hwa=>(exact wantA rfl));(case hia=>rw[HL6.out];kernel_rfl))|(go_at_call 86;refine(HZ.out _ _ _ _ _ _).mono ?_;rintro e z ⟨rfl,hb⟩;have HB2:=I (HB2.out.trans (hb.mono HB2.out.size));have d0':=(hb.cell (p:=⟨w.heap.size,0,none⟩) HSZ.out).trans d0;have d1':=(hb.cell (p:=⟨w.heap.size,1,none⟩) HSZ.out).trans d1;have d3':=(hb.cell (p:=⟨w.heap.size,3,none⟩) HSZ.out).trans d3;have d4':=(hb.cell (p:=⟨w.heap.size,4,none⟩) HSZ.out).trans d4;have d5':=(hb.cell (p:=⟨w.heap.size,5,none⟩) HSZ.out).trans d5;clear hb));go_ret;exact⟨za (by rw[HO.out];simp[bareB,hbi,hbm,hcz,hbs,hb0,hbl,t6]),HW.out.trans (HB2.out.mono HW.out.size)⟩)
  by_cases k4:k= 4
  ·subst k4
   rcases sc5 bi bm bz b0 bl with rfl|⟨rfl,rfl⟩|⟨rfl,rfl,rfl⟩|⟨rfl,rfl,rfl,rfl⟩|⟨rfl,rfl,rfl,rfl,rfl⟩|⟨rfl,rfl,rfl,rfl,rfl⟩
   all_goals (go_wp2_with (first|((with_reducible refine zc 26 _ rfl ?hwa w.heap.size 0 [.int .i64 4,.int .i64 n,.float .f64 f,.string s,.slice NA ns.length nc,.slice A its.length c] _ rfl HRG.out Tryz.underlying26 rfl ?hia ?_);(case hwa=>(exact wantA rfl));(case hia=>rw[HL6.out];kernel_rfl))|(go_at_call 86;refine(HZ.out _ _ _ _ _ _).mono ?_;rintro e z ⟨rfl,hb⟩;have HB2:=I (HB2.out.trans (hb.mono HB2.out.size));have d0':=(hb.cell (p:=⟨w.heap.size,0,none⟩) HSZ.out).trans d0;have d1':=(hb.cell (p:=⟨w.heap.size,1,none⟩) HSZ.out).trans d1;have d3':=(hb.cell (p:=⟨w.heap.size,3,none⟩) HSZ.out).trans d3;have d4':=(hb.cell (p:=⟨w.heap.size,4,none⟩) HSZ.out).trans d4;have d5':=(hb.cell (p:=⟨w.heap.size,5,none⟩) HSZ.out).trans d5;clear hb));go_ret;exact⟨za (by rw[HO.out];simp[bareB,hbi,hbm,hcz,hbs,hb0,hbl,t6]),HW.out.trans (HB2.out.mono HW.out.size)⟩)
  by_cases k6:k= 6
  ·subst k6
   have HOK:Hid (res=(bz && (b0 && (bs && (bn && zE its (d+1)))))):=I (by
    rw[HO.out,if_neg (by decide),if_neg (by decide),if_neg (by decide),if_neg (by decide),if_pos rfl,← hbn]
    unfold bareB
    rw[hcz,hbs,hb0]
    generalize zE its (d+1)= z
    generalize riseB none ns= x
    generalize (ns.length ==its.length)= y
    cases x<;>cases y<;>cases z<;>cases b0<;>cases bz<;>cases bs<;>rfl)
   rcases sc2 bi bm with rfl|⟨rfl,rfl⟩|⟨rfl,rfl⟩<;>rcases sc4 bz b0 bs bn with rfl|⟨rfl,rfl⟩|⟨rfl,rfl,rfl⟩|⟨rfl,rfl,rfl,rfl⟩|⟨rfl,rfl,rfl,rfl⟩
   all_goals try simp only[Bool.not_true,Bool.not_false] at m2
   all_goals try simp only[Bool.not_true,Bool.not_false] at t2
   all_goals first
    |(go_wp2_with (first|((with_reducible refine zc 26 _ rfl ?hwa w.heap.size 0 [.int .i64 6,.int .i64 n,.float .f64 f,.string s,.slice NA ns.length nc,.slice A its.length c] _ rfl HRG.out Tryz.underlying26 rfl ?hia ?_);(case hwa=>(exact wantA rfl));(case hia=>rw[HL6.out];kernel_rfl))|(go_at_call 86;refine(HZ.out _ _ _ _ _ _).mono ?_;rintro e z ⟨rfl,hb⟩;have HB2:=I (HB2.out.trans (hb.mono HB2.out.size));have d0':=(hb.cell (p:=⟨w.heap.size,0,none⟩) HSZ.out).trans d0;have d1':=(hb.cell (p:=⟨w.heap.size,1,none⟩) HSZ.out).trans d1;have d3':=(hb.cell (p:=⟨w.heap.size,3,none⟩) HSZ.out).trans d3;have d4':=(hb.cell (p:=⟨w.heap.size,4,none⟩) HSZ.out).trans d4;have d5':=(hb.cell (p:=⟨w.heap.size,5,none⟩) HSZ.out).trans d5;clear hb)|(go_at_call 87;refine(HNS.out _ (HW.out.trans (HB2.out.mono HW.out.size))).mono ?_;rintro e z2 ⟨rfl,hb⟩;have HB2:=I (HB2.out.trans (hb.mono HB2.out.size));clear hb));go_ret;exact⟨za (by rw[HOK.out];rfl),HW.out.trans (HB2.out.mono HW.out.size)⟩)
    |skip
   all_goals
    have HR:Hid (res= zE its (d+1)):=I (by rw[HOK.out];rfl)
    go_wp2_with (first|((with_reducible refine zc 26 _ rfl ?hwa w.heap.size 0 [.int .i64 6,.int .i64 n,.float .f64 f,.string s,.slice NA ns.length nc,.slice A its.length c] _ rfl HRG.out Tryz.underlying26 rfl ?hia ?_);(case hwa=>(exact wantA rfl));(case hia=>rw[HL6.out];kernel_rfl))|(go_at_call 86;refine(HZ.out _ _ _ _ _ _).mono ?_;rintro e z ⟨rfl,hb⟩;have HB2:=I (HB2.out.trans (hb.mono HB2.out.size));have d0':=(hb.cell (p:=⟨w.heap.size,0,none⟩) HSZ.out).trans d0;have d1':=(hb.cell (p:=⟨w.heap.size,1,none⟩) HSZ.out).trans d1;have d3':=(hb.cell (p:=⟨w.heap.size,3,none⟩) HSZ.out).trans d3;have d4':=(hb.cell (p:=⟨w.heap.size,4,none⟩) HSZ.out).trans d4;have d5':=(hb.cell (p:=⟨w.heap.size,5,none⟩) HSZ.out).trans d5;clear hb)|(go_at_call 87;refine(HNS.out _ (HW.out.trans (HB2.out.mono HW.out.size))).mono ?_;rintro e z2 ⟨rfl,hb⟩;have HB2:=I (HB2.out.trans (hb.mono HB2.out.size));clear hb))
    go_loopg [6] its.length (fun q x u=>∃ j:Nat,j+q= its.length/\x= .int .i64 j/\Below W.heap.size W u/\zE (its.drop j) (d+1)= res)
    case atStart=>exact⟨0,by omega,rfl,HB2.out,HR.out.symm⟩
    case round=>
     obtain⟨j,hj,rfl,hb,hres⟩:=hrel
     have HR2:=I hres
     have HBK:=I hb
     have d5':=(hb.cell (p:=⟨w.heap.size,5,none⟩) HSZ.out).trans D5.out
     clear hres hb
     cases gk with
     |zero=>
      obtain rfl:j= its.length:=by omega
      have hge: ¬ ((its.length:Int) <(its.length:Int)):=by omega
      have HVE:=I (HR2.out.symm.trans z1X)
      go_wp2
      go_ret
      exact⟨za HVE.out.symm,HW.out.trans (HBK.out.mono HW.out.size)⟩
     |succ q=>
      have hlt:(j:Int) <(its.length:Int):=by omega
      obtain⟨x,hx⟩:∃ x,its[j]?= some x:=⟨_,List.getElem?_eq_getElem (by omega)⟩
      obtain⟨b,o',rfl,hbl,hc⟩:=HA.out (by omega)
      obtain⟨ks,hks,hvx⟩:=hc j x hx
      have HVS:=I (HR2.out.symm.trans (z1y hx))
      have HBT:=I (HW.out.trans (HBK.out.mono HW.out.size))
      have HKS:=I (zd hks HBT.out hbl)
      have HKL:=I (zi hvx)
      have HC:=I (IH.out x (List.mem_of_getElem? hx) (far - 1) (d+1) ks wr (by omega) (hvx.next HBT.out))
      have hd1:((far - 1:Nat):Int)=(far:Int) - 1:=by omega
      rw[hd1] at HC
      clear hc hks hvx hx hd1
      generalize zo x (d+1)= rx at*
      cases rx with
      |true=>
       have HV2:=I (HVS.out.trans (Bool.true_and _))
       clear HVS
       go_wp2_with (first|((with_reducible refine zc 26 _ rfl ?hwa b (o'+j*6) ks _ rfl HKS.out Tryz.underlying26 rfl ?hia ?_);(case hwa=>(exact wantA rfl));(case hia=>rw[HKL.out.1];kernel_rfl))|(go_at_call 48;refine HC.out.mono ?_;rintro e z ⟨rfl,hbz⟩;have HB3:=I hbz;clear hbz))
       go_roundg q
       case measure=>omega
       case rel=>exact⟨j+1,by omega,by go_num,HBK.out.trans (HB3.out.mono HBK.out.size),HV2.out.symm⟩
      |false=>
       have HV2:Hid (res= false):=I (HVS.out.trans (Bool.false_and _))
       clear HVS
       go_wp2_with (first|((with_reducible refine zc 26 _ rfl ?hwa b (o'+j*6) ks _ rfl HKS.out Tryz.underlying26 rfl ?hia ?_);(case hwa=>(exact wantA rfl));(case hia=>rw[HKL.out.1];kernel_rfl))|(go_at_call 48;refine HC.out.mono ?_;rintro e z ⟨rfl,hbz⟩;have HB3:=I hbz;clear hbz))
       go_ret
       exact⟨za HV2.out.symm,HBT.out.trans (HB3.out.mono HBT.out.size)⟩
  by_cases k5:k= 5
  ·subst k5
   have HOK:Hid (res=(bz && (b0 && (bs && (bm && zE its (d+1)))))):=I (by
    rw[HO.out,if_neg (by decide),if_neg (by decide),if_neg (by decide),if_neg (by decide),if_neg (by decide),if_pos rfl,hbm]
    unfold bareB
    rw[hcz,hbs,hb0]
    generalize zE its (d+1)= z
    cases bm<;>cases z<;>cases b0<;>cases bz<;>cases bs<;>rfl)
   cases bi<;>cases bm<;>rcases sc3 bz b0 bs with rfl|⟨rfl,rfl⟩|⟨rfl,rfl,rfl⟩|⟨rfl,rfl,rfl⟩
   all_goals try simp only[Bool.not_true,Bool.not_false] at m2
   all_goals try simp only[Bool.not_true,Bool.not_false] at t2
   all_goals try have m3:(0:Int) <(ns.length:Int):=of_decide_eq_true m2
   all_goals try have m4:0 < ns.length:=by omega
   all_goals first
    |(go_wp2_with (first|((with_reducible refine zc 26 _ rfl ?hwa w.heap.size 0 [.int .i64 5,.int .i64 n,.float .f64 f,.string s,.slice NA ns.length nc,.slice A its.length c] _ rfl HRG.out Tryz.underlying26 rfl ?hia ?_);(case hwa=>(exact wantA rfl));(case hia=>rw[HL6.out];kernel_rfl))|(go_at_call 86;refine(HZ.out _ _ _ _ _ _).mono ?_;rintro e z ⟨rfl,hb⟩;have HB2:=I (HB2.out.trans (hb.mono HB2.out.size));have d0':=(hb.cell (p:=⟨w.heap.size,0,none⟩) HSZ.out).trans d0;have d1':=(hb.cell (p:=⟨w.heap.size,1,none⟩) HSZ.out).trans d1;have d3':=(hb.cell (p:=⟨w.heap.size,3,none⟩) HSZ.out).trans d3;have d4':=(hb.cell (p:=⟨w.heap.size,4,none⟩) HSZ.out).trans d4;have d5':=(hb.cell (p:=⟨w.heap.size,5,none⟩) HSZ.out).trans d5;clear hb));go_ret;exact⟨za (by rw[HOK.out];rfl),HW.out.trans (HB2.out.mono HW.out.size)⟩)
    |skip
   all_goals
    have hm0:ns.length= 0:=eq_of_beq hbm
    rw[hm0] at d4
    clear hm0
    have HR:Hid (res= zE its (d+1)):=I (by rw[HOK.out];rfl)
    go_wp2_with (first|((with_reducible refine zc 26 _ rfl ?hwa w.heap.size 0 [.int .i64 5,.int .i64 n,.float .f64 f,.string s,.slice NA ns.length nc,.slice A its.length c] _ rfl HRG.out Tryz.underlying26 rfl ?hia ?_);(case hwa=>(exact wantA rfl));(case hia=>rw[HL6.out];kernel_rfl))|(go_at_call 86;refine(HZ.out _ _ _ _ _ _).mono ?_;rintro e z ⟨rfl,hb⟩;have HB2:=I (HB2.out.trans (hb.mono HB2.out.size));have d0':=(hb.cell (p:=⟨w.heap.size,0,none⟩) HSZ.out).trans d0;have d1':=(hb.cell (p:=⟨w.heap.size,1,none⟩) HSZ.out).trans d1;have d3':=(hb.cell (p:=⟨w.heap.size,3,none⟩) HSZ.out).trans d3;have d4':=(hb.cell (p:=⟨w.heap.size,4,none⟩) HSZ.out).trans d4;have d5':=(hb.cell (p:=⟨w.heap.size,5,none⟩) HSZ.out).trans d5;clear hb))
    go_loopg [6] its.length (fun q x u=>∃ j:Nat,j+q= its.length/\x= .int .i64 j/\Below W.heap.size W u/\zE (its.drop j) (d+1)= res)
    case atStart=>exact⟨0,by omega,rfl,HB2.out,HR.out.symm⟩
    case round=>
     obtain⟨j,hj,rfl,hb,hres⟩:=hrel
     have HR2:=I hres
     have HBK:=I hb
     have d5':=(hb.cell (p:=⟨w.heap.size,5,none⟩) HSZ.out).trans D5.out
     clear hres hb
     cases gk with
     |zero=>
      obtain rfl:j= its.length:=by omega
      have hge: ¬ ((its.length:Int) <(its.length:Int)):=by omega
      have HVE:=I (HR2.out.symm.trans z1X)
      go_wp2
      go_ret
      exact⟨za HVE.out.symm,HW.out.trans (HBK.out.mono HW.out.size)⟩
     |succ q=>
      have hlt:(j:Int) <(its.length:Int):=by omega
      obtain⟨x,hx⟩:∃ x,its[j]?= some x:=⟨_,List.getElem?_eq_getElem (by omega)⟩
      obtain⟨b,o',rfl,hbl,hc⟩:=HA.out (by omega)
      obtain⟨ks,hks,hvx⟩:=hc j x hx
      have HVS:=I (HR2.out.symm.trans (z1y hx))
      have HBT:=I (HW.out.trans (HBK.out.mono HW.out.size))
      have HKS:=I (zd hks HBT.out hbl)
      have HKL:=I (zi hvx)
      have HC:=I (IH.out x (List.mem_of_getElem? hx) (far - 1) (d+1) ks wr (by omega) (hvx.next HBT.out))
      have hd1:((far - 1:Nat):Int)=(far:Int) - 1:=by omega
      rw[hd1] at HC
      clear hc hks hvx hx hd1
      generalize zo x (d+1)= rx at*
      cases rx with
      |true=>
       have HV2:=I (HVS.out.trans (Bool.true_and _))
       clear HVS
       go_wp2_with (first|((with_reducible refine zc 26 _ rfl ?hwa b (o'+j*6) ks _ rfl HKS.out Tryz.underlying26 rfl ?hia ?_);(case hwa=>(exact wantA rfl));(case hia=>rw[HKL.out.1];kernel_rfl))|(go_at_call 48;refine HC.out.mono ?_;rintro e z ⟨rfl,hbz⟩;have HB3:=I hbz;clear hbz))
       go_roundg q
       case measure=>omega
       case rel=>exact⟨j+1,by omega,by go_num,HBK.out.trans (HB3.out.mono HBK.out.size),HV2.out.symm⟩
      |false=>
       have HV2:Hid (res= false):=I (HVS.out.trans (Bool.false_and _))
       clear HVS
       go_wp2_with (first|((with_reducible refine zc 26 _ rfl ?hwa b (o'+j*6) ks _ rfl HKS.out Tryz.underlying26 rfl ?hia ?_);(case hwa=>(exact wantA rfl));(case hia=>rw[HKL.out.1];kernel_rfl))|(go_at_call 48;refine HC.out.mono ?_;rintro e z ⟨rfl,hbz⟩;have HB3:=I hbz;clear hbz))
       go_ret
       exact⟨za HV2.out.symm,HBT.out.trans (HB3.out.mono HBT.out.size)⟩
  have s1:(k ==1)= false:=by rw[beq_eq_false_iff_ne];exact k1
  have s2:(k ==2)= false:=by rw[beq_eq_false_iff_ne];exact k2
  have s3:(k ==3)= false:=by rw[beq_eq_false_iff_ne];exact k3
  have s4:(k ==4)= false:=by rw[beq_eq_false_iff_ne];exact k4
  have s5:(k ==5)= false:=by rw[beq_eq_false_iff_ne];exact k5
  have s6:(k ==6)= false:=by rw[beq_eq_false_iff_ne];exact k6
  rcases sc2 bi bm with rfl|⟨rfl,rfl⟩|⟨rfl,rfl⟩
  all_goals (go_wp2;go_ret;exact⟨za (by rw[HO.out,if_neg k1,if_neg k2,if_neg k3,if_neg k4,if_neg k6,if_neg k5]),HW.out⟩)
theorem z22 (t:VT) (cs:List Value) (w:World) (hv:ValAt w w.heap.size cs t):Calls Tryz.prog 21 #[.agg ⟨cs⟩] w fun e w'=>e= .returned (.bool (decide (cntV t 0<=200) && zo t 1))/\Below w.heap.size w w':=by
 have HB1:=I (ze w (.cells ⟨cs⟩ 26))
 have HS1:=I (zt w (.cells ⟨cs⟩ 26))
 have HR1:=I (zq w cs 26)
 have HL:=I (zi hv)
 have HV:=I (hv.next HB1.out)
 clear hv
 go_enter Tryz.func21,Tryz.ntmps21
 go_upto_region 1 with (fail)
 generalize w.alloc (.cells ⟨cs⟩ 26)= W at*
 have HP:=I (z9h t cs W HV.out)
 by_cases hc:cntV t 0<=200
 ·have t1:((cntV t 0:Nat):Int)<=200:=by omega
  have HD:Hid ((decide (cntV t 0<=200) && zo t 1)= zo t 1):=I (by rw[decide_eq_true hc];exact Bool.true_and _)
  go_wp2_with (first|((with_reducible refine zc 26 _ rfl ?hwa w.heap.size 0 cs _ rfl HR1.out Tryz.underlying26 rfl ?hia ?_);(case hwa=>(exact wantA rfl));(case hia=>rw[HL.out.1];kernel_rfl))|(go_at_call 47;refine HP.out.mono ?_;rintro e z ⟨rfl,hbz⟩;have HB2:=I hbz;have HR2:=I (zd HR1.out hbz HS1.out);clear hbz)|((with_reducible refine zc 26 _ rfl ?hwb w.heap.size 0 cs _ rfl HR2.out Tryz.underlying26 rfl ?hib ?_);(case hwb=>(exact wantA rfl));(case hib=>rw[HL.out.1];kernel_rfl))|(go_at_call 48;refine(z9g t 12 1 cs _ (by decide) (HV.out.next HB2.out)).mono ?_;rintro e z2 ⟨rfl,hbz⟩;have HB3:=I hbz;clear hbz))
  go_ret
  exact⟨za HD.out.symm,HB1.out.trans ((HB2.out.trans (HB3.out.mono HB2.out.size)).mono HB1.out.size)⟩
 ·have t1: ¬ (((cntV t 0:Nat):Int)<=200):=by omega
  have HD:Hid ((decide (cntV t 0<=200) && zo t 1)= false):=I (by rw[decide_eq_false hc];exact Bool.false_and _)
  go_wp2_with (first|((with_reducible refine zc 26 _ rfl ?hwa w.heap.size 0 cs _ rfl HR1.out Tryz.underlying26 rfl ?hia ?_);(case hwa=>(exact wantA rfl));(case hia=>rw[HL.out.1];kernel_rfl))|(go_at_call 47;refine HP.out.mono ?_;rintro e z ⟨rfl,hbz⟩;have HB2:=I hbz;clear hbz))
  go_ret
  first|exact⟨za HD.out.symm,HB1.out.trans (HB2.out.mono HB1.out.size)⟩|exact⟨rfl,HB1.out.trans (HB2.out.mono HB1.out.size)⟩
end
end Go.Proofs.YtmpbepjjbaeebaaGreatDoor
