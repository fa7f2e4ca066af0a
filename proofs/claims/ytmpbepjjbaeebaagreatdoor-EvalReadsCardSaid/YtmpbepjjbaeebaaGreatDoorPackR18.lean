/- Parts of a proof: RName, ELeaf, ENamed. -/
import Derived.Test.YtmpbepjjbaeebaaGreatDoorPackR3
import Derived.Test.YtmpbepjjbaeebaaGreatDoorPackR9
import Derived.Test.YtmpbepjjbaeebaaGreatDoorPackR13
set_option maxHeartbeats 8000000
set_option maxRecDepth 100000
set_option linter.unusedVariables false
set_option linter.unusedSimpArgs false
section
namespace Go.Proofs.YtmpbepjjbaeebaaGreatDoor
open Go Go.RowKit
open Go.Lib (hid)
theorem zcZ {s:ByteArray} {k:Nat} {c:UInt8} (h:s.data.toList[k]?= some c) (hk:k < s.size):s[k]'hk= c:=by
 have h2:s.data[k]?= some c:=by simpa using h
 obtain⟨h3,h4⟩:=Array.getElem?_eq_some_iff.1 h2
 exact h4
theorem z3z (s:ByteArray) (w:World):Calls Tryz.prog 92 #[.string s] w fun e w'=>e= .returned (.bool (nameB s))∧w'= w:=by
 have HN:Hid (nameB s=(decide (0 < s.size) && decide (s.size≤30) && zP s.data.toList 0)):=hid rfl
 have HL:Hid (s.data.toList.length= s.size):=hid (by cases s;rfl)
 by_cases h0:s.size= 0
 ·have t1:(s.size:Int) < 1:=by omega
  have HR:Hid (nameB s= false):=hid (by rw[HN.out,h0];rfl)
  clear h0
  go_enter Tryz.func92,Tryz.ntmps92
  go_wp2
  go_ret
  exact⟨z7 HR.out.symm,rfl⟩
 have t1: ¬ ((s.size:Int) < 1):=by omega
 by_cases h1:s.size≤30
 ·have t2: ¬ ((30:Int) <(s.size:Int)):=by omega
  have HR:Hid (nameB s= zP s.data.toList 0):=hid (by rw[HN.out,decide_eq_true (by omega),decide_eq_true h1];rfl)
  have HS:=hid (fun k c=>z42 (l:=s.data.toList) (k:=k) (c:=c))
  have HE:Hid (∀ k,zP (s.data.toList.drop s.size) k= true):=hid fun k=>by rw[List.drop_eq_nil_of_le (by rw[HL.out];exact Nat.le_refl _)];rfl
  have H0:Hid (zP (s.data.toList.drop 0) 0= zP s.data.toList 0):=hid rfl
  generalize zP s.data.toList 0= res at*
  go_enter Tryz.func92,Tryz.ntmps92
  go_wp2
  go_loopg [3] s.size (fun q x u=>∃ k:Nat,k+q= s.size∧x= .int .i64 k∧u= w∧zP (s.data.toList.drop k) k= res)
  case atStart=>exact⟨0,by omega,rfl,rfl,H0.out⟩
  case round=>
   obtain⟨k,hk,rfl,rfl,hres⟩:=hrel
   have HR2:=hid hres
   clear hres
   cases gk with
   |zero=>
    obtain rfl:k= s.size:=by omega
    have hge: ¬ ((s.size:Int) <(s.size:Int)):=by omega
    have HV:=hid (HR2.out.symm.trans (HE.out s.size))
    go_wp2
    go_ret
    exact⟨z7 (HR.out.trans HV.out).symm,rfl⟩
   |succ q=>
    have hlt:(k:Int) <(s.size:Int):=by omega
    obtain⟨c,hc⟩:∃ c,s.data.toList[k]?= some c:=⟨_,List.getElem?_eq_getElem (by rw[HL.out];omega)⟩
    have dk:=fun h=>zcZ (k:=k) (c:=c) hc h
    have HKC:=hid hc
    clear hc
    by_cases h97:97≤c.toNat
    ·have d97:decide (97≤c.toNat)= true:=decide_eq_true (by omega)
     have f97:97≤(c.toNat:Int):=by omega
     by_cases h122:c.toNat≤122
     ·have d122:decide (c.toNat≤122)= true:=decide_eq_true (by omega)
      have f122:(c.toNat:Int)≤122:=by omega
      have hok:okC k c= true:=by unfold okC;simp only[d97,d122,Bool.true_and,Bool.and_true,Bool.or_true,Bool.true_or,Bool.false_or,Bool.or_false,Bool.and_false,Bool.false_and]
      have HV:Hid (res= zP (s.data.toList.drop (k+1)) (k+1)):=hid (HR2.out.symm.trans ((HS.out k c HKC.out).trans (by rw[hok];exact Bool.true_and _)))
      clear hok
      go_wp2
      go_roundg q
      case measure=>omega
      case rel=>exact⟨k+1,by omega,by go_num,rfl,HV.out.symm⟩
     ·have d122:decide (c.toNat≤122)= false:=decide_eq_false (by omega)
      have f122: ¬ ((c.toNat:Int)≤122):=by omega
      by_cases hk0:k= 0
      ·subst hk0
       have dk0:decide ((0:Nat) < 0)= false:=rfl
       have hok:okC 0 c= false:=by unfold okC;simp only[d97,d122,dk0,Bool.true_and,Bool.and_true,Bool.or_true,Bool.true_or,Bool.false_or,Bool.or_false,Bool.and_false,Bool.false_and]
       have HV:Hid (res= false):=hid (HR2.out.symm.trans ((HS.out 0 c HKC.out).trans (by rw[hok];exact Bool.false_and _)))
       clear hok
       go_wp2
       go_ret
       exact⟨z7 (HR.out.trans HV.out).symm,rfl⟩
      ·have dk0:decide (0 < k)= true:=decide_eq_true (by omega)
       have k0':((k:Int) ==0)= false:=by rw[beq_eq_false_iff_ne];omega
       have k0i: ¬ ((k:Int)= 0):=by omega
       by_cases h48:48≤c.toNat
       ·have d48:decide (48≤c.toNat)= true:=decide_eq_true (by omega)
        have f48:48≤(c.toNat:Int):=by omega
        by_cases h57:c.toNat≤57
        ·have d57:decide (c.toNat≤57)= true:=decide_eq_true (by omega)
         have f57:(c.toNat:Int)≤57:=by omega
         have hok:okC k c= true:=by unfold okC;simp only[d97,d122,dk0,d48,d57,Bool.true_and,Bool.and_true,Bool.or_true,Bool.true_or,Bool.false_or,Bool.or_false,Bool.and_false,Bool.false_and]
         have HV:Hid (res= zP (s.data.toList.drop (k+1)) (k+1)):=hid (HR2.out.symm.trans ((HS.out k c HKC.out).trans (by rw[hok];exact Bool.true_and _)))
         clear hok
         go_wp2
         go_roundg q
         case measure=>omega
         case rel=>exact⟨k+1,by omega,by go_num,rfl,HV.out.symm⟩
        ·have d57:decide (c.toNat≤57)= false:=decide_eq_false (by omega)
         have f57: ¬ ((c.toNat:Int)≤57):=by omega
         by_cases h95:c.toNat= 95
         ·have e1:(c.toNat ==95)= true:=by simpa using h95
          have e2:((c.toNat:Int) ==95)= true:=by rw[beq_iff_eq];omega
          have e3:((c.toNat:Int) !=95)= false:=by rw[h95];rfl
          have hok:okC k c= true:=by unfold okC;simp only[d97,d122,dk0,d48,d57,e1,Bool.true_and,Bool.and_true,Bool.or_true,Bool.true_or,Bool.false_or,Bool.or_false,Bool.and_false,Bool.false_and]
          have HV:Hid (res= zP (s.data.toList.drop (k+1)) (k+1)):=hid (HR2.out.symm.trans ((HS.out k c HKC.out).trans (by rw[hok];exact Bool.true_and _)))
          clear hok
          go_wp2
          go_roundg q
          case measure=>omega
          case rel=>exact⟨k+1,by omega,by go_num,rfl,HV.out.symm⟩
         ·have e1:(c.toNat ==95)= false:=by simpa using h95
          have e2:((c.toNat:Int) ==95)= false:=by rw[beq_eq_false_iff_ne];omega
          have e3:((c.toNat:Int) !=95)= true:=by rw[bne_iff_ne];omega
          have hok:okC k c= false:=by unfold okC;simp only[d97,d122,dk0,d48,d57,e1,Bool.true_and,Bool.and_true,Bool.or_true,Bool.true_or,Bool.false_or,Bool.or_false,Bool.and_false,Bool.false_and]
          have HV:Hid (res= false):=hid (HR2.out.symm.trans ((HS.out k c HKC.out).trans (by rw[hok];exact Bool.false_and _)))
          clear hok
          go_wp2
          go_ret
          exact⟨z7 (HR.out.trans HV.out).symm,rfl⟩
       ·have d48:decide (48≤c.toNat)= false:=decide_eq_false (by omega)
        have f48: ¬ (48≤(c.toNat:Int)):=by omega
        have h95:c.toNat≠95:=by omega
        have e1:(c.toNat ==95)= false:=by simpa using h95
        have e2:((c.toNat:Int) ==95)= false:=by rw[beq_eq_false_iff_ne];omega
        have e3:((c.toNat:Int) !=95)= true:=by rw[bne_iff_ne];omega
        have hok:okC k c= false:=by unfold okC;simp only[d97,d122,dk0,d48,e1,Bool.true_and,Bool.and_true,Bool.or_true,Bool.true_or,Bool.false_or,Bool.or_false,Bool.and_false,Bool.false_and]
        have HV:Hid (res= false):=hid (HR2.out.symm.trans ((HS.out k c HKC.out).trans (by rw[hok];exact Bool.false_and _)))
        clear hok
        go_wp2
        go_ret
        exact⟨z7 (HR.out.trans HV.out).symm,rfl⟩
    ·have d97:decide (97≤c.toNat)= false:=decide_eq_false (by omega)
     have f97: ¬ (97≤(c.toNat:Int)):=by omega
     by_cases hk0:k= 0
     ·subst hk0
      have dk0:decide ((0:Nat) < 0)= false:=rfl
      have hok:okC 0 c= false:=by unfold okC;simp only[d97,dk0,Bool.true_and,Bool.and_true,Bool.or_true,Bool.true_or,Bool.false_or,Bool.or_false,Bool.and_false,Bool.false_and]
      have HV:Hid (res= false):=hid (HR2.out.symm.trans ((HS.out 0 c HKC.out).trans (by rw[hok];exact Bool.false_and _)))
      clear hok
      go_wp2
      go_ret
      exact⟨z7 (HR.out.trans HV.out).symm,rfl⟩
     ·have dk0:decide (0 < k)= true:=decide_eq_true (by omega)
      have k0':((k:Int) ==0)= false:=by rw[beq_eq_false_iff_ne];omega
      have k0i: ¬ ((k:Int)= 0):=by omega
      by_cases h48:48≤c.toNat
      ·have d48:decide (48≤c.toNat)= true:=decide_eq_true (by omega)
       have f48:48≤(c.toNat:Int):=by omega
       by_cases h57:c.toNat≤57
       ·have d57:decide (c.toNat≤57)= true:=decide_eq_true (by omega)
        have f57:(c.toNat:Int)≤57:=by omega
        have hok:okC k c= true:=by unfold okC;simp only[d97,dk0,d48,d57,Bool.true_and,Bool.and_true,Bool.or_true,Bool.true_or,Bool.false_or,Bool.or_false,Bool.and_false,Bool.false_and]
        have HV:Hid (res= zP (s.data.toList.drop (k+1)) (k+1)):=hid (HR2.out.symm.trans ((HS.out k c HKC.out).trans (by rw[hok];exact Bool.true_and _)))
        clear hok
        go_wp2
        go_roundg q
        case measure=>omega
        case rel=>exact⟨k+1,by omega,by go_num,rfl,HV.out.symm⟩
       ·have d57:decide (c.toNat≤57)= false:=decide_eq_false (by omega)
        have f57: ¬ ((c.toNat:Int)≤57):=by omega
        by_cases h95:c.toNat= 95
        ·have e1:(c.toNat ==95)= true:=by simpa using h95
         have e2:((c.toNat:Int) ==95)= true:=by rw[beq_iff_eq];omega
         have e3:((c.toNat:Int) !=95)= false:=by rw[h95];rfl
         have hok:okC k c= true:=by unfold okC;simp only[d97,dk0,d48,d57,e1,Bool.true_and,Bool.and_true,Bool.or_true,Bool.true_or,Bool.false_or,Bool.or_false,Bool.and_false,Bool.false_and]
         have HV:Hid (res= zP (s.data.toList.drop (k+1)) (k+1)):=hid (HR2.out.symm.trans ((HS.out k c HKC.out).trans (by rw[hok];exact Bool.true_and _)))
         clear hok
         go_wp2
         go_roundg q
         case measure=>omega
         case rel=>exact⟨k+1,by omega,by go_num,rfl,HV.out.symm⟩
        ·have e1:(c.toNat ==95)= false:=by simpa using h95
         have e2:((c.toNat:Int) ==95)= false:=by rw[beq_eq_false_iff_ne];omega
         have e3:((c.toNat:Int) !=95)= true:=by rw[bne_iff_ne];omega
         have hok:okC k c= false:=by unfold okC;simp only[d97,dk0,d48,d57,e1,Bool.true_and,Bool.and_true,Bool.or_true,Bool.true_or,Bool.false_or,Bool.or_false,Bool.and_false,Bool.false_and]
         have HV:Hid (res= false):=hid (HR2.out.symm.trans ((HS.out k c HKC.out).trans (by rw[hok];exact Bool.false_and _)))
         clear hok
         go_wp2
         go_ret
         exact⟨z7 (HR.out.trans HV.out).symm,rfl⟩
      ·have d48:decide (48≤c.toNat)= false:=decide_eq_false (by omega)
       have f48: ¬ (48≤(c.toNat:Int)):=by omega
       have h95:c.toNat≠95:=by omega
       have e1:(c.toNat ==95)= false:=by simpa using h95
       have e2:((c.toNat:Int) ==95)= false:=by rw[beq_eq_false_iff_ne];omega
       have e3:((c.toNat:Int) !=95)= true:=by rw[bne_iff_ne];omega
       have hok:okC k c= false:=by unfold okC;simp only[d97,dk0,d48,e1,Bool.true_and,Bool.and_true,Bool.or_true,Bool.true_or,Bool.false_or,Bool.or_false,Bool.and_false,Bool.false_and]
       have HV:Hid (res= false):=hid (HR2.out.symm.trans ((HS.out k c HKC.out).trans (by rw[hok];exact Bool.false_and _)))
       clear hok
       go_wp2
       go_ret
       exact⟨z7 (HR.out.trans HV.out).symm,rfl⟩
 ·have t2:(30:Int) <(s.size:Int):=by omega
  have HR:Hid (nameB s= false):=hid (by rw[HN.out,decide_eq_false h1,Bool.and_false];rfl)
  go_enter Tryz.func92,Tryz.ntmps92
  go_wp2
  go_ret
  exact⟨z7 HR.out.symm,rfl⟩
theorem z2X (v:Value) (l:List ByteArray) (n:Nat) (w:World) (hv:SlAt w w.heap.size 1 StrR v l):
  Calls Tryz.prog 87 #[v,.int .i64 n] w fun e w'=>e= .returned (.bool (riseB none l && (l.length ==n)))∧Below w.heap.size w w':=by
 obtain⟨_,A,c,rfl,_⟩:=id hv
 obtain⟨_,hl,ha⟩:=z1m hv
 have HA:=hid ha
 have H1:=hid (fun s=>z4S (l:=l) (s:=s))
 have H2:=hid (fun k p s=>z5K (l:=l) (k:=k) (p:=p) (s:=s))
 have HE:=hid (z6s (l:=l))
 have H0:Hid (riseB (prevK l 0) (l.drop 0)= riseB none l):=hid rfl
 have hl2:(l.length:Int)≤9223372036854775807:=by omega
 have HT:Hid ((l.length ==n)=((l.length:Int) ==(n:Int))):=hid (by
  by_cases h:l.length= n
  ·subst h;simp
  ·rw[beq_eq_false_iff_ne.2 h,beq_eq_false_iff_ne.2];omega)
 clear ha hv
 generalize riseB none l= res at*
 go_enter Tryz.func87,Tryz.ntmps87
 go_wp2
 go_loopg [5] l.length (fun q x u=>∃ k:Nat,k+q= l.length∧x= .int .i64 k∧Below w.heap.size w u∧riseB (prevK l k) (l.drop k)= res)
 case atStart=>exact⟨0,by omega,rfl,Below.refl _ _,H0.out⟩
 case round=>
  obtain⟨k,hk,rfl,hb,hres⟩:=hrel
  have HR:=hid hres
  have HBK:=hid hb
  clear hres hb
  cases gk with
  |zero=>
   obtain rfl:k= l.length:=by omega
   have hge: ¬ ((l.length:Int) <(l.length:Int)):=by omega
   have HV:=hid (HR.out.symm.trans HE.out)
   have HV2:Hid ((res && (l.length ==n))=((l.length:Int) ==(n:Int))):=hid (by rw[HV.out,HT.out];exact Bool.true_and _)
   clear HR
   go_wp2
   go_ret
   exact⟨z7 HV2.out.symm,HBK.out⟩
  |succ q=>
   have hlt:(k:Int) <(l.length:Int):=by omega
   obtain⟨s,hs⟩:∃ s,l[k]?= some s:=⟨_,List.getElem?_eq_getElem (by omega)⟩
   obtain⟨b,o,rfl,hbl,hc⟩:=HA.out (by omega)
   have HCC:=hid (fun i x hx=>(hc i x hx).1)
   have HBL:=hid hbl
   have ds:=(HBK.out.cell (p:=⟨b,o+k,none⟩) hbl).trans (hc k s hs).1
   have HNM:=hid (z3z s)
   have HSK:=hid hs
   clear hc hbl hs
   rcases Nat.eq_zero_or_pos k with hk0|hk0
   ·subst hk0
    have ds0:wr.cell? ⟨b,o,none⟩= some (.string s):=ds
    have hlt0:(0:Int) <(l.length:Int):=by omega
    have HV:=hid (HR.out.symm.trans (H1.out s HSK.out))
    clear HR
    generalize nameB s= nb at*
    cases nb with
    |false=>
     have HV2:Hid ((res && (l.length ==n))= false):=hid (by rw[HV.out,Bool.false_and,Bool.false_and])
     clear HV
     go_wp2
     go_quiet ((go_at_call 92;exact Calls.quiet_of_same ((HNM.out _).mono fun e w' h=>⟨h.1,h.2⟩)))
     go_wp2
     go_ret
     exact⟨z7 HV2.out.symm,zF HBK.out _⟩
    |true=>
     have HV2:=hid (HV.out.trans (Bool.true_and _))
     clear HV
     go_wp2
     go_quiet ((go_at_call 92;exact Calls.quiet_of_same ((HNM.out _).mono fun e w' h=>⟨h.1,h.2⟩)))
     go_wp2
     go_roundg q
     case measure=>omega
     case rel=>exact⟨1,by omega,by go_num,zF HBK.out _,HV2.out.symm⟩
   ·obtain⟨j,rfl⟩:∃ j,k= j+1:=⟨k - 1,by omega⟩
    obtain⟨p,hp⟩:∃ p,l[j]?= some p:=⟨_,List.getElem?_eq_getElem (by omega)⟩
    have HV:=hid (HR.out.symm.trans (H2.out j p s hp HSK.out))
    have dp:=(HBK.out.cell (p:=⟨b,o+j,none⟩) HBL.out).trans (HCC.out j p hp)
    have hpos:(0:Int) <((j+1:Nat):Int):=by omega
    have hj2:(j:Int) <(l.length:Int):=by omega
    clear HR hp
    generalize nameB s= nb at*
    cases nb with
    |false=>
     have HV2:Hid ((res && (l.length ==n))= false):=hid (by rw[HV.out,Bool.false_and,Bool.false_and])
     clear HV
     go_wp2
     go_quiet ((go_at_call 92;exact Calls.quiet_of_same ((HNM.out _).mono fun e w' h=>⟨h.1,h.2⟩)))
     go_wp2
     go_ret
     exact⟨z7 HV2.out.symm,zF HBK.out _⟩
    |true=>
     have HV2:=hid (HV.out.trans (Bool.true_and _))
     clear HV
     cases hlt3:Op.bytesLess p.toList s.toList with
     |false=>
      have HV3:Hid ((res && (l.length ==n))= false):=hid (by rw[HV2.out,hlt3,Bool.false_and,Bool.false_and])
      go_wp2
      go_quiet ((go_at_call 92;exact Calls.quiet_of_same ((HNM.out _).mono fun e w' h=>⟨h.1,h.2⟩)))
      go_wp2
      go_ret
      exact⟨z7 HV3.out.symm,zF HBK.out _⟩
     |true=>
      have HV3:=hid (HV2.out.trans (by rw[hlt3,Bool.true_and]))
      go_wp2
      go_quiet ((go_at_call 92;exact Calls.quiet_of_same ((HNM.out _).mono fun e w' h=>⟨h.1,h.2⟩)))
      go_wp2
      go_roundg q
      case measure=>omega
      case rel=>exact⟨j+2,by omega,by go_num,zF HBK.out _,HV3.out.symm⟩
end Go.Proofs.YtmpbepjjbaeebaaGreatDoor
end
section
namespace Go.Proofs.YtmpbepjjbaeebaaGreatDoor
open Go Go.RowKit
open Go.Lib (hid)
def z0k (k:Int):Int:=
 if k= 1∨k= 2 then 0 else if k= 3∨k= 4∨k= 18∨(20≤k∧k≤23) then 1 else if(5≤k∧k≤14)∨k= 19 then 2 else if k= 15 then 3 else if k= 16∨k= 17 then -1 else -2
theorem zbH (k:Int) (w:World):Calls Tryz.prog 105 #[.int .i64 k] w fun e w'=>e= .returned (.int .i64 (z0k k))∧w'= w:=by
 by_cases h:k= 1∨k= 2∨k= 3∨k= 4∨k= 5∨k= 6∨k= 7∨k= 8∨k= 9∨k= 10∨k= 11∨k= 12∨k= 13∨k= 14∨k= 15∨k= 16∨k= 17∨k= 18∨k= 19∨k= 20∨k= 21∨k= 22∨k= 23
 ·rcases h with rfl|rfl|rfl|rfl|rfl|rfl|rfl|rfl|rfl|rfl|rfl|rfl|rfl|rfl|rfl|rfl|rfl|rfl|rfl|rfl|rfl|rfl|rfl
  all_goals
   go_enter Tryz.func105,Tryz.ntmps105
   go_wp2
   go_ret
   exact⟨rfl,rfl⟩
 ·have HR:Hid (z0k k= -2):=hid (by unfold z0k;rw[if_neg (by omega),if_neg (by omega),if_neg (by omega),if_neg (by omega),if_neg (by omega)])
  by_cases h1:k < 1
  ·have e1:(k ==1)= false:=by rw[beq_eq_false_iff_ne];omega
   have e2:(k ==2)= false:=by rw[beq_eq_false_iff_ne];omega
   have e3:(k ==3)= false:=by rw[beq_eq_false_iff_ne];omega
   have e4:(k ==4)= false:=by rw[beq_eq_false_iff_ne];omega
   have e18:(k ==18)= false:=by rw[beq_eq_false_iff_ne];omega
   have e15:(k ==15)= false:=by rw[beq_eq_false_iff_ne];omega
   have e16:(k ==16)= false:=by rw[beq_eq_false_iff_ne];omega
   have e17:(k ==17)= false:=by rw[beq_eq_false_iff_ne];omega
   have e19:(k ==19)= false:=by rw[beq_eq_false_iff_ne];omega
   have l20: ¬ (20≤k):=by omega
   have l5: ¬ (5≤k):=by omega
   clear h h1
   go_enter Tryz.func105,Tryz.ntmps105
   go_wp2
   go_ret
   exact⟨by rw[HR.out];rfl,rfl⟩
  ·have e1:(k ==1)= false:=by rw[beq_eq_false_iff_ne];omega
   have e2:(k ==2)= false:=by rw[beq_eq_false_iff_ne];omega
   have e3:(k ==3)= false:=by rw[beq_eq_false_iff_ne];omega
   have e4:(k ==4)= false:=by rw[beq_eq_false_iff_ne];omega
   have e18:(k ==18)= false:=by rw[beq_eq_false_iff_ne];omega
   have e15:(k ==15)= false:=by rw[beq_eq_false_iff_ne];omega
   have e16:(k ==16)= false:=by rw[beq_eq_false_iff_ne];omega
   have e17:(k ==17)= false:=by rw[beq_eq_false_iff_ne];omega
   have e19:(k ==19)= false:=by rw[beq_eq_false_iff_ne];omega
   have l20:20≤k:=by omega
   have l23: ¬ (k≤23):=by omega
   have l5:5≤k:=by omega
   have l14: ¬ (k≤14):=by omega
   clear h h1
   go_enter Tryz.func105,Tryz.ntmps105
   go_wp2
   go_ret
   exact⟨by rw[HR.out];rfl,rfl⟩
theorem zaI (k:Int) (w:World):Calls Tryz.prog 89 #[.int .i64 k] w fun e w'=>e= .returned (.int .i64 (z0k k))∧w'= w:=by
 by_cases h:k= 1∨k= 2∨k= 3∨k= 4∨k= 5∨k= 6∨k= 7∨k= 8∨k= 9∨k= 10∨k= 11∨k= 12∨k= 13∨k= 14∨k= 15∨k= 16∨k= 17∨k= 18∨k= 19∨k= 20∨k= 21∨k= 22∨k= 23
 ·rcases h with rfl|rfl|rfl|rfl|rfl|rfl|rfl|rfl|rfl|rfl|rfl|rfl|rfl|rfl|rfl|rfl|rfl|rfl|rfl|rfl|rfl|rfl|rfl
  all_goals
   go_enter Tryz.func89,Tryz.ntmps89
   go_wp2
   go_ret
   exact⟨rfl,rfl⟩
 ·have HR:Hid (z0k k= -2):=hid (by unfold z0k;rw[if_neg (by omega),if_neg (by omega),if_neg (by omega),if_neg (by omega),if_neg (by omega)])
  by_cases h1:k < 1
  ·have e1:(k ==1)= false:=by rw[beq_eq_false_iff_ne];omega
   have e2:(k ==2)= false:=by rw[beq_eq_false_iff_ne];omega
   have e3:(k ==3)= false:=by rw[beq_eq_false_iff_ne];omega
   have e4:(k ==4)= false:=by rw[beq_eq_false_iff_ne];omega
   have e18:(k ==18)= false:=by rw[beq_eq_false_iff_ne];omega
   have e15:(k ==15)= false:=by rw[beq_eq_false_iff_ne];omega
   have e16:(k ==16)= false:=by rw[beq_eq_false_iff_ne];omega
   have e17:(k ==17)= false:=by rw[beq_eq_false_iff_ne];omega
   have e19:(k ==19)= false:=by rw[beq_eq_false_iff_ne];omega
   have l20: ¬ (20≤k):=by omega
   have l5: ¬ (5≤k):=by omega
   clear h h1
   go_enter Tryz.func89,Tryz.ntmps89
   go_wp2
   go_ret
   exact⟨by rw[HR.out];rfl,rfl⟩
  ·have e1:(k ==1)= false:=by rw[beq_eq_false_iff_ne];omega
   have e2:(k ==2)= false:=by rw[beq_eq_false_iff_ne];omega
   have e3:(k ==3)= false:=by rw[beq_eq_false_iff_ne];omega
   have e4:(k ==4)= false:=by rw[beq_eq_false_iff_ne];omega
   have e18:(k ==18)= false:=by rw[beq_eq_false_iff_ne];omega
   have e15:(k ==15)= false:=by rw[beq_eq_false_iff_ne];omega
   have e16:(k ==16)= false:=by rw[beq_eq_false_iff_ne];omega
   have e17:(k ==17)= false:=by rw[beq_eq_false_iff_ne];omega
   have e19:(k ==19)= false:=by rw[beq_eq_false_iff_ne];omega
   have l20:20≤k:=by omega
   have l23: ¬ (k≤23):=by omega
   have l5:5≤k:=by omega
   have l14: ¬ (k≤14):=by omega
   clear h h1
   go_enter Tryz.func89,Tryz.ntmps89
   go_wp2
   go_ret
   exact⟨by rw[HR.out];rfl,rfl⟩
def wordB (s:ByteArray):Bool:=((s.toList ==[116,114,117,101]) ||((s.toList ==[102,97,108,115,101]) ||((s.toList ==[110,97,110]) ||((s.toList ==[105,110,102]) ||((s.toList ==[108,101,110]) ||((s.toList ==[102,108,111,97,116]) ||((s.toList ==[105,110,116]) ||(s.toList ==[115,116,114]))))))))
theorem z9X (s:ByteArray) (w:World):Calls Tryz.prog 147 #[.string s] w fun e w'=>e= .returned (.bool (wordB s))∧w'= w:=by
 cases h0:(s.toList ==[116,114,117,101]) with
 |true=>
  have HR:Hid (wordB s= true):=hid (by unfold wordB;rw[h0];rfl)
  go_enter Tryz.func147,Tryz.ntmps147
  go_wp2
  go_ret
  exact⟨by rw[HR.out];rfl,rfl⟩
 |false=>
  cases h1:(s.toList ==[102,97,108,115,101]) with
  |true=>
   have HR:Hid (wordB s= true):=hid (by unfold wordB;rw[h0,h1];rfl)
   go_enter Tryz.func147,Tryz.ntmps147
   go_wp2
   go_ret
   exact⟨by rw[HR.out];rfl,rfl⟩
  |false=>
   cases h2:(s.toList ==[110,97,110]) with
   |true=>
    have HR:Hid (wordB s= true):=hid (by unfold wordB;rw[h0,h1,h2];rfl)
    go_enter Tryz.func147,Tryz.ntmps147
    go_wp2
    go_ret
    exact⟨by rw[HR.out];rfl,rfl⟩
   |false=>
    cases h3:(s.toList ==[105,110,102]) with
    |true=>
     have HR:Hid (wordB s= true):=hid (by unfold wordB;rw[h0,h1,h2,h3];rfl)
     go_enter Tryz.func147,Tryz.ntmps147
     go_wp2
     go_ret
     exact⟨by rw[HR.out];rfl,rfl⟩
    |false=>
     cases h4:(s.toList ==[108,101,110]) with
     |true=>
      have HR:Hid (wordB s= true):=hid (by unfold wordB;rw[h0,h1,h2,h3,h4];rfl)
      go_enter Tryz.func147,Tryz.ntmps147
      go_wp2
      go_ret
      exact⟨by rw[HR.out];rfl,rfl⟩
     |false=>
      cases h5:(s.toList ==[102,108,111,97,116]) with
      |true=>
       have HR:Hid (wordB s= true):=hid (by unfold wordB;rw[h0,h1,h2,h3,h4,h5];rfl)
       go_enter Tryz.func147,Tryz.ntmps147
       go_wp2
       go_ret
       exact⟨by rw[HR.out];rfl,rfl⟩
      |false=>
       cases h6:(s.toList ==[105,110,116]) with
       |true=>
        have HR:Hid (wordB s= true):=hid (by unfold wordB;rw[h0,h1,h2,h3,h4,h5,h6];rfl)
        go_enter Tryz.func147,Tryz.ntmps147
        go_wp2
        go_ret
        exact⟨by rw[HR.out];rfl,rfl⟩
       |false=>
        cases h7:(s.toList ==[115,116,114]) with
        |true=>
         have HR:Hid (wordB s= true):=hid (by unfold wordB;rw[h0,h1,h2,h3,h4,h5,h6,h7];rfl)
         go_enter Tryz.func147,Tryz.ntmps147
         go_wp2
         go_ret
         exact⟨by rw[HR.out];rfl,rfl⟩
        |false=>
         have HR:Hid (wordB s= false):=hid (by unfold wordB;rw[h0,h1,h2,h3,h4,h5,h6,h7];rfl)
         go_enter Tryz.func147,Tryz.ntmps147
         go_wp2
         go_ret
         exact⟨by rw[HR.out];rfl,rfl⟩
theorem z9H (s:ByteArray) (w:World):Calls Tryz.prog 93 #[.string s] w fun e w'=>e= .returned (.bool (wordB s))∧w'= w:=by
 cases h0:(s.toList ==[116,114,117,101]) with
 |true=>
  have HR:Hid (wordB s= true):=hid (by unfold wordB;rw[h0];rfl)
  go_enter Tryz.func93,Tryz.ntmps93
  go_wp2
  go_ret
  exact⟨by rw[HR.out];rfl,rfl⟩
 |false=>
  cases h1:(s.toList ==[102,97,108,115,101]) with
  |true=>
   have HR:Hid (wordB s= true):=hid (by unfold wordB;rw[h0,h1];rfl)
   go_enter Tryz.func93,Tryz.ntmps93
   go_wp2
   go_ret
   exact⟨by rw[HR.out];rfl,rfl⟩
  |false=>
   cases h2:(s.toList ==[110,97,110]) with
   |true=>
    have HR:Hid (wordB s= true):=hid (by unfold wordB;rw[h0,h1,h2];rfl)
    go_enter Tryz.func93,Tryz.ntmps93
    go_wp2
    go_ret
    exact⟨by rw[HR.out];rfl,rfl⟩
   |false=>
    cases h3:(s.toList ==[105,110,102]) with
    |true=>
     have HR:Hid (wordB s= true):=hid (by unfold wordB;rw[h0,h1,h2,h3];rfl)
     go_enter Tryz.func93,Tryz.ntmps93
     go_wp2
     go_ret
     exact⟨by rw[HR.out];rfl,rfl⟩
    |false=>
     cases h4:(s.toList ==[108,101,110]) with
     |true=>
      have HR:Hid (wordB s= true):=hid (by unfold wordB;rw[h0,h1,h2,h3,h4];rfl)
      go_enter Tryz.func93,Tryz.ntmps93
      go_wp2
      go_ret
      exact⟨by rw[HR.out];rfl,rfl⟩
     |false=>
      cases h5:(s.toList ==[102,108,111,97,116]) with
      |true=>
       have HR:Hid (wordB s= true):=hid (by unfold wordB;rw[h0,h1,h2,h3,h4,h5];rfl)
       go_enter Tryz.func93,Tryz.ntmps93
       go_wp2
       go_ret
       exact⟨by rw[HR.out];rfl,rfl⟩
      |false=>
       cases h6:(s.toList ==[105,110,116]) with
       |true=>
        have HR:Hid (wordB s= true):=hid (by unfold wordB;rw[h0,h1,h2,h3,h4,h5,h6];rfl)
        go_enter Tryz.func93,Tryz.ntmps93
        go_wp2
        go_ret
        exact⟨by rw[HR.out];rfl,rfl⟩
       |false=>
        cases h7:(s.toList ==[115,116,114]) with
        |true=>
         have HR:Hid (wordB s= true):=hid (by unfold wordB;rw[h0,h1,h2,h3,h4,h5,h6,h7];rfl)
         go_enter Tryz.func93,Tryz.ntmps93
         go_wp2
         go_ret
         exact⟨by rw[HR.out];rfl,rfl⟩
        |false=>
         have HR:Hid (wordB s= false):=hid (by unfold wordB;rw[h0,h1,h2,h3,h4,h5,h6,h7];rfl)
         go_enter Tryz.func93,Tryz.ntmps93
         go_wp2
         go_ret
         exact⟨by rw[HR.out];rfl,rfl⟩
def zE (s:ByteArray):Bool:=nameB s && (!(s.toList ==[110,97,110]) && !(s.toList ==[105,110,102]))
theorem z2z (s:ByteArray) (w:World):Calls Tryz.prog 148 #[.string s] w fun e w'=>e= .returned (.bool (zE s))∧Below w.heap.size w w':=by
 have HN:=hid (z7p s w)
 cases h0:nameB s with
 |false=>
  have HR:Hid (zE s= false):=hid (by unfold zE;rw[h0];rfl)
  rw[h0] at HN
  clear h0
  go_enter Tryz.func148,Tryz.ntmps148
  go_wp2_with (go_at_call 146;refine HN.out.mono ?_;rintro e z ⟨rfl,hb⟩;have HB:=hid hb;clear hb)
  go_ret
  exact⟨by rw[HR.out];rfl,HB.out⟩
 |true=>
  cases h1:(s.toList ==[110,97,110]) with
  |true=>
   have HR:Hid (zE s= false):=hid (by unfold zE;rw[h0,h1];rfl)
   rw[h0] at HN
   clear h0
   go_enter Tryz.func148,Tryz.ntmps148
   go_wp2_with (go_at_call 146;refine HN.out.mono ?_;rintro e z ⟨rfl,hb⟩;have HB:=hid hb;clear hb)
   go_ret
   exact⟨by rw[HR.out];rfl,HB.out⟩
  |false=>
   cases h2:(s.toList ==[105,110,102]) with
   |true=>
    have HR:Hid (zE s= false):=hid (by unfold zE;rw[h0,h1,h2];rfl)
    rw[h0] at HN
    clear h0
    go_enter Tryz.func148,Tryz.ntmps148
    go_wp2_with (go_at_call 146;refine HN.out.mono ?_;rintro e z ⟨rfl,hb⟩;have HB:=hid hb;clear hb)
    go_ret
    exact⟨by rw[HR.out];rfl,HB.out⟩
   |false=>
    have HR:Hid (zE s= true):=hid (by unfold zE;rw[h0,h1,h2];rfl)
    rw[h0] at HN
    clear h0
    go_enter Tryz.func148,Tryz.ntmps148
    go_wp2_with (go_at_call 146;refine HN.out.mono ?_;rintro e z ⟨rfl,hb⟩;have HB:=hid hb;clear hb)
    go_ret
    exact⟨by rw[HR.out];rfl,HB.out⟩
theorem z4K (s:ByteArray) (w:World):Calls Tryz.prog 94 #[.string s] w fun e w'=>e= .returned (.bool (zE s))∧w'= w:=by
 have HN:=hid (z3z s w)
 cases h0:nameB s with
 |false=>
  have HR:Hid (zE s= false):=hid (by unfold zE;rw[h0];rfl)
  rw[h0] at HN
  clear h0
  go_enter Tryz.func94,Tryz.ntmps94
  go_wp2_with (go_at_call 92;refine HN.out.mono ?_;rintro e z ⟨rfl,hb⟩;subst hb)
  go_ret
  exact⟨by rw[HR.out];rfl,rfl⟩
 |true=>
  cases h1:(s.toList ==[110,97,110]) with
  |true=>
   have HR:Hid (zE s= false):=hid (by unfold zE;rw[h0,h1];rfl)
   rw[h0] at HN
   clear h0
   go_enter Tryz.func94,Tryz.ntmps94
   go_wp2_with (go_at_call 92;refine HN.out.mono ?_;rintro e z ⟨rfl,hb⟩;subst hb)
   go_ret
   exact⟨by rw[HR.out];rfl,rfl⟩
  |false=>
   cases h2:(s.toList ==[105,110,102]) with
   |true=>
    have HR:Hid (zE s= false):=hid (by unfold zE;rw[h0,h1,h2];rfl)
    rw[h0] at HN
    clear h0
    go_enter Tryz.func94,Tryz.ntmps94
    go_wp2_with (go_at_call 92;refine HN.out.mono ?_;rintro e z ⟨rfl,hb⟩;subst hb)
    go_ret
    exact⟨by rw[HR.out];rfl,rfl⟩
   |false=>
    have HR:Hid (zE s= true):=hid (by unfold zE;rw[h0,h1,h2];rfl)
    rw[h0] at HN
    clear h0
    go_enter Tryz.func94,Tryz.ntmps94
    go_wp2_with (go_at_call 92;refine HN.out.mono ?_;rintro e z ⟨rfl,hb⟩;subst hb)
    go_ret
    exact⟨by rw[HR.out];rfl,rfl⟩
def noneB (k n:Int) (f:Nat) (s:ByteArray) (ns its:Nat):Bool:=(k ==0) && ((n ==0) && ((cmpF f 0 ==0) && (s.toList.isEmpty && (((ns:Int) ==0) && ((its:Int) ==0)))))
theorem z41 (p o:Nat) (k n:Int) (f:Nat) (s:ByteArray) (A D:Option Addr) (ns its ca cd:Nat) (w:World) (hf:f < 2 ^ 64) (h:w.rangeAt p o [.int .i64 k,.int .i64 n,.float .f64 f,.string s,.slice A ns ca,.slice D its cd]):
  Calls Tryz.prog 108 #[.pointer (some ⟨p,o,none⟩)] w fun e w'=>e= .returned (.bool (noneB k n f s ns its))∧w'= w:=by
 have d0:w.cell? ⟨p,o,none⟩= some (.int .i64 k):=h 0 _ rfl
 have d1:=h 1 _ rfl
 have d2:=h 2 _ rfl
 have d3:=h 3 _ rfl
 have d4:=h 4 _ rfl
 have d5:=h 5 _ rfl
 have HFO:=hid (fun w=>z0G f 0 hf (by decide) w)
 clear h hf
 cases h0:(k ==0) with
 |false=>
  have HR:Hid (noneB k n f s ns its= false):=hid (by unfold noneB;rw[h0];rfl)
  generalize cmpF f 0= cf at*
  go_enter Tryz.func108,Tryz.ntmps108
  go_wp2_with (go_at_call 145;refine(HFO.out _).mono ?_;rintro e z ⟨rfl,rfl⟩)
  go_ret
  exact⟨z7 HR.out.symm,rfl⟩
 |true=>
  cases h1:(n ==0) with
  |false=>
   have HR:Hid (noneB k n f s ns its= false):=hid (by unfold noneB;rw[h0,h1];rfl)
   generalize cmpF f 0= cf at*
   go_enter Tryz.func108,Tryz.ntmps108
   go_wp2_with (go_at_call 145;refine(HFO.out _).mono ?_;rintro e z ⟨rfl,rfl⟩)
   go_ret
   exact⟨z7 HR.out.symm,rfl⟩
  |true=>
   cases h2:(cmpF f 0 ==0) with
   |false=>
    have HR:Hid (noneB k n f s ns its= false):=hid (by unfold noneB;rw[h0,h1,h2];rfl)
    generalize cmpF f 0= cf at*
    go_enter Tryz.func108,Tryz.ntmps108
    go_wp2_with (go_at_call 145;refine(HFO.out _).mono ?_;rintro e z ⟨rfl,rfl⟩)
    go_ret
    exact⟨z7 HR.out.symm,rfl⟩
   |true=>
    cases h3:s.toList.isEmpty with
    |false=>
     have HR:Hid (noneB k n f s ns its= false):=hid (by unfold noneB;rw[h0,h1,h2,h3];rfl)
     generalize cmpF f 0= cf at*
     go_enter Tryz.func108,Tryz.ntmps108
     go_wp2_with (go_at_call 145;refine(HFO.out _).mono ?_;rintro e z ⟨rfl,rfl⟩)
     go_ret
     exact⟨z7 HR.out.symm,rfl⟩
    |true=>
     cases h4:((ns:Int) ==0) with
     |false=>
      have HR:Hid (noneB k n f s ns its= false):=hid (by unfold noneB;rw[h0,h1,h2,h3,h4];rfl)
      generalize cmpF f 0= cf at*
      go_enter Tryz.func108,Tryz.ntmps108
      go_wp2_with (go_at_call 145;refine(HFO.out _).mono ?_;rintro e z ⟨rfl,rfl⟩)
      go_ret
      exact⟨z7 HR.out.symm,rfl⟩
     |true=>
      cases h5:((its:Int) ==0) with
      |false=>
       have HR:Hid (noneB k n f s ns its= false):=hid (by unfold noneB;rw[h0,h1,h2,h3,h4,h5];rfl)
       generalize cmpF f 0= cf at*
       go_enter Tryz.func108,Tryz.ntmps108
       go_wp2_with (go_at_call 145;refine(HFO.out _).mono ?_;rintro e z ⟨rfl,rfl⟩)
       go_ret
       exact⟨z7 HR.out.symm,rfl⟩
      |true=>
       have HR:Hid (noneB k n f s ns its= true):=hid (by unfold noneB;rw[h0,h1,h2,h3,h4,h5];rfl)
       generalize cmpF f 0= cf at*
       go_enter Tryz.func108,Tryz.ntmps108
       go_wp2_with (go_at_call 145;refine(HFO.out _).mono ?_;rintro e z ⟨rfl,rfl⟩)
       go_ret
       exact⟨z7 HR.out.symm,rfl⟩
theorem zbI (k n:Int) (f:Nat) (s:ByteArray) (A D:Option Addr) (ns its ca cd:Nat) (w:World) (hf:f < 2 ^ 64):
  Calls Tryz.prog 91 #[.agg ⟨[.int .i64 k,.int .i64 n,.float .f64 f,.string s,.slice A ns ca,.slice D its cd]⟩] w fun e w'=>e= .returned (.bool (noneB k n f s ns its))∧Below w.heap.size w w':=by
 have HFO:=hid (fun w=>z5a f hf w)
 have HB1:=hid (zc w (.cells ⟨[.int .i64 k,.int .i64 n,.float .f64 f,.string s,.slice A ns ca,.slice D its cd]⟩ 26))
 clear hf
 cases h0:(k ==0) with
 |false=>
  have HR:Hid (noneB k n f s ns its= false):=hid (by unfold noneB;rw[h0];rfl)
  generalize (cmpF f 0 ==0)= cf at*
  go_enter Tryz.func91,Tryz.ntmps91
  go_wp2_with (go_at_call 137;refine(HFO.out _).mono ?_;rintro e z ⟨rfl,rfl⟩)
  go_ret
  exact⟨z7 HR.out.symm,HB1.out⟩
 |true=>
  cases h1:(n ==0) with
  |false=>
   have HR:Hid (noneB k n f s ns its= false):=hid (by unfold noneB;rw[h0,h1];rfl)
   generalize (cmpF f 0 ==0)= cf at*
   go_enter Tryz.func91,Tryz.ntmps91
   go_wp2_with (go_at_call 137;refine(HFO.out _).mono ?_;rintro e z ⟨rfl,rfl⟩)
   go_ret
   exact⟨z7 HR.out.symm,HB1.out⟩
  |true=>
   cases h2:(cmpF f 0 ==0) with
   |false=>
    have HR:Hid (noneB k n f s ns its= false):=hid (by unfold noneB;rw[h0,h1,h2];rfl)
    generalize (cmpF f 0 ==0)= cf at*
    go_enter Tryz.func91,Tryz.ntmps91
    go_wp2_with (go_at_call 137;refine(HFO.out _).mono ?_;rintro e z ⟨rfl,rfl⟩)
    go_ret
    exact⟨z7 HR.out.symm,HB1.out⟩
   |true=>
    cases h3:s.toList.isEmpty with
    |false=>
     have HR:Hid (noneB k n f s ns its= false):=hid (by unfold noneB;rw[h0,h1,h2,h3];rfl)
     generalize (cmpF f 0 ==0)= cf at*
     go_enter Tryz.func91,Tryz.ntmps91
     go_wp2_with (go_at_call 137;refine(HFO.out _).mono ?_;rintro e z ⟨rfl,rfl⟩)
     go_ret
     exact⟨z7 HR.out.symm,HB1.out⟩
    |true=>
     cases h4:((ns:Int) ==0) with
     |false=>
      have HR:Hid (noneB k n f s ns its= false):=hid (by unfold noneB;rw[h0,h1,h2,h3,h4];rfl)
      generalize (cmpF f 0 ==0)= cf at*
      go_enter Tryz.func91,Tryz.ntmps91
      go_wp2_with (go_at_call 137;refine(HFO.out _).mono ?_;rintro e z ⟨rfl,rfl⟩)
      go_ret
      exact⟨z7 HR.out.symm,HB1.out⟩
     |true=>
      cases h5:((its:Int) ==0) with
      |false=>
       have HR:Hid (noneB k n f s ns its= false):=hid (by unfold noneB;rw[h0,h1,h2,h3,h4,h5];rfl)
       generalize (cmpF f 0 ==0)= cf at*
       go_enter Tryz.func91,Tryz.ntmps91
       go_wp2_with (go_at_call 137;refine(HFO.out _).mono ?_;rintro e z ⟨rfl,rfl⟩)
       go_ret
       exact⟨z7 HR.out.symm,HB1.out⟩
      |true=>
       have HR:Hid (noneB k n f s ns its= true):=hid (by unfold noneB;rw[h0,h1,h2,h3,h4,h5];rfl)
       generalize (cmpF f 0 ==0)= cf at*
       go_enter Tryz.func91,Tryz.ntmps91
       go_wp2_with (go_at_call 137;refine(HFO.out _).mono ?_;rintro e z ⟨rfl,rfl⟩)
       go_ret
       exact⟨z7 HR.out.symm,HB1.out⟩
end Go.Proofs.YtmpbepjjbaeebaaGreatDoor
end
section
namespace Go.Proofs.YtmpbepjjbaeebaaGreatDoor
open Go Go.RowKit
open Go.Lib (hid)
def riseF:Option ByteArray→List ByteArray→Bool
 |_,[]=>true
 |none,s::l=>zE s && riseF (some s) l
 |some p,s::l=>zE s && (Op.bytesLess p.toList s.toList && riseF (some s) l)
theorem z4b {l:List ByteArray} {s:ByteArray} (h:l[0]?= some s):riseF (prevK l 0) (l.drop 0)=(zE s && riseF (prevK l 1) (l.drop 1)):=by
 rw[z0m h]
 show(zE s && riseF (some s) (l.drop 1))= _
 unfold prevK
 simp[h]
theorem z57 {l:List ByteArray} {k:Nat} {p s:ByteArray} (hp:l[k]?= some p) (h:l[k+1]?= some s):riseF (prevK l (k+1)) (l.drop (k+1))=(zE s && (Op.bytesLess p.toList s.toList && riseF (prevK l (k+2)) (l.drop (k+2)))):=by
 rw[z0m h]
 have h1:prevK l (k+1)= some p:=by unfold prevK;simp[hp]
 have h2:prevK l (k+2)= some s:=by unfold prevK;simp[h]
 rw[h1,h2]
 rfl
theorem z5V {l:List ByteArray}:riseF (prevK l l.length) (l.drop l.length)= true:=by
 rw[List.drop_eq_nil_of_le (Nat.le_refl _)];rw[riseF]
def zH (k:Int) (s:ByteArray) (ns:List ByteArray) (nk:Nat):Bool:=
 if k= 2 then !wordB s && (zE s && ((ns.length:Int) ==0))
 else if k= 18 then zE s && ((ns.length:Int) ==0)
 else if k= 17 then riseF none ns && (s.toList.isEmpty && ((ns.length:Int) ==(nk:Int)))
 else s.toList.isEmpty && ((ns.length:Int) ==0)
theorem zd9 (p o:Nat) (sx:ByteArray) (v0 v1 v2 v3 v4 v5:Value) (A K:Option Addr) (c nk kc:Nat) (l:List ByteArray) (w:World) (hr:w.rangeAt p o [.int .i64 18,.string sx,v0,v1,v2,v3,v4,v5,.slice A l.length c,.slice K nk kc]) (hv:SlAt w w.heap.size 1 StrR (.slice A l.length c) l):
  Calls Tryz.prog 106 #[.pointer (some ⟨p,o,none⟩)] w fun e w'=>e= .returned (.bool (zH (18) sx l nk))∧Below w.heap.size w w':=by
 have d0:w.cell? ⟨p,o,none⟩= some (.int .i64 18):=hr 0 _ rfl
 have d1:w.cell? ⟨p,o+1,none⟩= some (.string sx):=hr 1 _ rfl
 have d8:w.cell? ⟨p,o+8,none⟩= some (.slice A l.length c):=hr 8 _ rfl
 have d9:w.cell? ⟨p,o+9,none⟩= some (.slice K nk kc):=hr 9 _ rfl
 have HPL:Hid (p < w.heap.size):=hid (z25 d0)
 have D8:=hid d8
 clear hr hv d8
 have d8:=D8.out
 have HFD:=hid (fun w=>z2z sx w)
 cases hf:zE sx with
 |false=>
  have HR:Hid (zH 18 sx l nk= false):=hid (by unfold zH;rw[if_neg (by decide),if_pos rfl];rw[hf];rfl)
  rw[hf] at HFD
  skip
  clear hf
  go_enter Tryz.func106,Tryz.ntmps106
  go_wp2_with (go_at_call 148;refine(HFD.out _).mono ?_;rintro e z ⟨rfl,hb⟩;have HB:=hid hb;have e8:=(hb.cell (p:=⟨p,o+8,none⟩) HPL.out).trans D8.out;clear hb)
  go_ret
  exact⟨z7 HR.out.symm,HB.out⟩
 |true=>
  cases hl:((l.length:Int) ==0) with
  |true=>
   have HR:Hid (zH 18 sx l nk= true):=hid (by unfold zH;rw[if_neg (by decide),if_pos rfl];rw[hf,hl];rfl)
   rw[hf] at HFD
   skip
   clear hf
   go_enter Tryz.func106,Tryz.ntmps106
   go_wp2_with (go_at_call 148;refine(HFD.out _).mono ?_;rintro e z ⟨rfl,hb⟩;have HB:=hid hb;have e8:=(hb.cell (p:=⟨p,o+8,none⟩) HPL.out).trans D8.out;clear hb)
   go_ret
   exact⟨z7 HR.out.symm,HB.out⟩
  |false=>
   have HR:Hid (zH 18 sx l nk= false):=hid (by unfold zH;rw[if_neg (by decide),if_pos rfl];rw[hf,hl];rfl)
   rw[hf] at HFD
   skip
   clear hf
   go_enter Tryz.func106,Tryz.ntmps106
   go_wp2_with (go_at_call 148;refine(HFD.out _).mono ?_;rintro e z ⟨rfl,hb⟩;have HB:=hid hb;have e8:=(hb.cell (p:=⟨p,o+8,none⟩) HPL.out).trans D8.out;clear hb)
   go_ret
   exact⟨z7 HR.out.symm,HB.out⟩
theorem zdy (p o:Nat) (sx:ByteArray) (v0 v1 v2 v3 v4 v5:Value) (A K:Option Addr) (c nk kc:Nat) (l:List ByteArray) (w:World) (hr:w.rangeAt p o [.int .i64 2,.string sx,v0,v1,v2,v3,v4,v5,.slice A l.length c,.slice K nk kc]) (hv:SlAt w w.heap.size 1 StrR (.slice A l.length c) l):
  Calls Tryz.prog 106 #[.pointer (some ⟨p,o,none⟩)] w fun e w'=>e= .returned (.bool (zH (2) sx l nk))∧Below w.heap.size w w':=by
 have d0:w.cell? ⟨p,o,none⟩= some (.int .i64 2):=hr 0 _ rfl
 have d1:w.cell? ⟨p,o+1,none⟩= some (.string sx):=hr 1 _ rfl
 have d8:w.cell? ⟨p,o+8,none⟩= some (.slice A l.length c):=hr 8 _ rfl
 have d9:w.cell? ⟨p,o+9,none⟩= some (.slice K nk kc):=hr 9 _ rfl
 have HPL:Hid (p < w.heap.size):=hid (z25 d0)
 have D8:=hid d8
 clear hr hv d8
 have d8:=D8.out
 have HWD:=hid (fun w=>z9X sx w)
 cases hw:wordB sx with
 |true=>
  have HR:Hid (zH 2 sx l nk= false):=hid (by unfold zH;rw[if_pos rfl,hw];rfl)
  rw[hw] at HWD
  clear hw
  go_enter Tryz.func106,Tryz.ntmps106
  go_wp2_with (go_at_call 147;refine(HWD.out _).mono ?_;rintro e z ⟨rfl,rfl⟩)
  go_ret
  exact⟨z7 HR.out.symm,Below.refl _ _⟩
 |false=>
  have HFD:=hid (fun w=>z2z sx w)
  cases hf:zE sx with
  |false=>
   have HR:Hid (zH 2 sx l nk= false):=hid (by unfold zH;rw[if_pos rfl];rw[hw,hf];rfl)
   rw[hf] at HFD
   rw[hw] at HWD
   clear hf hw
   go_enter Tryz.func106,Tryz.ntmps106
   go_wp2_with (first|(go_at_call 148;refine(HFD.out _).mono ?_;rintro e z ⟨rfl,hb⟩;have HB:=hid hb;have e8:=(hb.cell (p:=⟨p,o+8,none⟩) HPL.out).trans D8.out;clear hb)|(go_at_call 147;refine(HWD.out _).mono ?_;rintro e z ⟨rfl,rfl⟩))
   go_ret
   exact⟨z7 HR.out.symm,HB.out⟩
  |true=>
   cases hl:((l.length:Int) ==0) with
   |true=>
    have HR:Hid (zH 2 sx l nk= true):=hid (by unfold zH;rw[if_pos rfl];rw[hw,hf,hl];rfl)
    rw[hf] at HFD
    rw[hw] at HWD
    clear hf hw
    go_enter Tryz.func106,Tryz.ntmps106
    go_wp2_with (first|(go_at_call 148;refine(HFD.out _).mono ?_;rintro e z ⟨rfl,hb⟩;have HB:=hid hb;have e8:=(hb.cell (p:=⟨p,o+8,none⟩) HPL.out).trans D8.out;clear hb)|(go_at_call 147;refine(HWD.out _).mono ?_;rintro e z ⟨rfl,rfl⟩))
    go_ret
    exact⟨z7 HR.out.symm,HB.out⟩
   |false=>
    have HR:Hid (zH 2 sx l nk= false):=hid (by unfold zH;rw[if_pos rfl];rw[hw,hf,hl];rfl)
    rw[hf] at HFD
    rw[hw] at HWD
    clear hf hw
    go_enter Tryz.func106,Tryz.ntmps106
    go_wp2_with (first|(go_at_call 148;refine(HFD.out _).mono ?_;rintro e z ⟨rfl,hb⟩;have HB:=hid hb;have e8:=(hb.cell (p:=⟨p,o+8,none⟩) HPL.out).trans D8.out;clear hb)|(go_at_call 147;refine(HWD.out _).mono ?_;rintro e z ⟨rfl,rfl⟩))
    go_ret
    exact⟨z7 HR.out.symm,HB.out⟩
theorem zdi (k:Int) (h2:k≠2) (h17:k≠17) (h18:k≠18) (p o:Nat) (sx:ByteArray) (v0 v1 v2 v3 v4 v5:Value) (A K:Option Addr) (c nk kc:Nat) (l:List ByteArray) (w:World) (hr:w.rangeAt p o [.int .i64 k,.string sx,v0,v1,v2,v3,v4,v5,.slice A l.length c,.slice K nk kc]) (hv:SlAt w w.heap.size 1 StrR (.slice A l.length c) l):
  Calls Tryz.prog 106 #[.pointer (some ⟨p,o,none⟩)] w fun e w'=>e= .returned (.bool (zH k sx l nk))∧Below w.heap.size w w':=by
 have d0:w.cell? ⟨p,o,none⟩= some (.int .i64 k):=hr 0 _ rfl
 have d1:w.cell? ⟨p,o+1,none⟩= some (.string sx):=hr 1 _ rfl
 have d8:w.cell? ⟨p,o+8,none⟩= some (.slice A l.length c):=hr 8 _ rfl
 have d9:w.cell? ⟨p,o+9,none⟩= some (.slice K nk kc):=hr 9 _ rfl
 have HPL:Hid (p < w.heap.size):=hid (z25 d0)
 have D8:=hid d8
 have e2:(k ==2)= false:=by rw[beq_eq_false_iff_ne];exact h2
 have e17:(k ==17)= false:=by rw[beq_eq_false_iff_ne];exact h17
 have e18:(k ==18)= false:=by rw[beq_eq_false_iff_ne];exact h18
 have HU:Hid (zH k sx l nk=(sx.toList.isEmpty && ((l.length:Int) ==0))):=hid (by unfold zH;rw[if_neg h2,if_neg h18,if_neg h17])
 clear hr hv h2 h17 h18
 cases hs:sx.toList.isEmpty with
 |false=>
  have HR:=hid (HU.out.trans (by rw[hs];rfl:_= false))
  go_enter Tryz.func106,Tryz.ntmps106
  go_wp2
  go_ret
  exact⟨z7 HR.out.symm,Below.refl _ _⟩
 |true=>
  cases hl:((l.length:Int) ==0) with
  |false=>
   have HR:=hid (HU.out.trans (by rw[hs,hl];rfl:_= false))
   go_enter Tryz.func106,Tryz.ntmps106
   go_wp2
   go_ret
   exact⟨z7 HR.out.symm,Below.refl _ _⟩
  |true=>
   have HR:=hid (HU.out.trans (by rw[hs,hl];rfl:_= true))
   go_enter Tryz.func106,Tryz.ntmps106
   go_wp2
   go_ret
   exact⟨z7 HR.out.symm,Below.refl _ _⟩
theorem zcY (p o:Nat) (sx:ByteArray) (v0 v1 v2 v3 v4 v5:Value) (A K:Option Addr) (c nk kc:Nat) (l:List ByteArray) (w:World) (hr:w.rangeAt p o [.int .i64 17,.string sx,v0,v1,v2,v3,v4,v5,.slice A l.length c,.slice K nk kc]) (hv:SlAt w w.heap.size 1 StrR (.slice A l.length c) l):
  Calls Tryz.prog 106 #[.pointer (some ⟨p,o,none⟩)] w fun e w'=>e= .returned (.bool (zH (17) sx l nk))∧Below w.heap.size w w':=by
 have d0:w.cell? ⟨p,o,none⟩= some (.int .i64 17):=hr 0 _ rfl
 have d1:w.cell? ⟨p,o+1,none⟩= some (.string sx):=hr 1 _ rfl
 have d8:w.cell? ⟨p,o+8,none⟩= some (.slice A l.length c):=hr 8 _ rfl
 have d9:w.cell? ⟨p,o+9,none⟩= some (.slice K nk kc):=hr 9 _ rfl
 have HPL:Hid (p < w.heap.size):=hid (z25 d0)
 have D8:=hid d8
 obtain⟨_,hl,ha⟩:=z1m hv
 have HA:=hid ha
 have H1:=hid (fun s=>z4b (l:=l) (s:=s))
 have H2:=hid (fun k p s=>z57 (l:=l) (k:=k) (p:=p) (s:=s))
 have HE:=hid (z5V (l:=l))
 have HU:Hid (zH 17 sx l nk=(riseF none l && (sx.toList.isEmpty && ((l.length:Int) ==(nk:Int))))):=hid (by unfold zH;rw[if_neg (by decide),if_neg (by decide),if_pos rfl])
 have H0:Hid (riseF (prevK l 0) (l.drop 0)= riseF none l):=hid rfl
 have hl2:(l.length:Int)≤9223372036854775807:=by omega
 have D1:=hid d1
 have D9:=hid d9
 clear ha hv hr
 obtain⟨res,hres0⟩:∃ res,riseF none l= res:=⟨_,rfl⟩
 have HRES:=hid hres0
 rw[hres0] at H0
 clear hres0
 go_enter Tryz.func106,Tryz.ntmps106
 go_upto_region 9 with (fail)
 go_loopg [38] l.length (fun q x u=>∃ k:Nat,k+q= l.length∧x= .int .i64 k∧Below w.heap.size w u∧riseF (prevK l k) (l.drop k)= res)
 case atStart=>exact⟨0,by omega,rfl,Below.refl _ _,H0.out⟩
 case round=>
  obtain⟨k,hk,rfl,hb,hres⟩:=hrel
  have HR:=hid hres
  have HBK:=hid hb
  clear hres hb
  cases gk with
  |zero=>
   obtain rfl:k= l.length:=by omega
   have hge: ¬ ((l.length:Int) <(l.length:Int)):=by omega
   have HV:=hid (HR.out.symm.trans HE.out)
   have x1:=(HBK.out.cell (p:=⟨p,o+1,none⟩) HPL.out).trans D1.out
   have x8:=(HBK.out.cell (p:=⟨p,o+8,none⟩) HPL.out).trans D8.out
   have x9:=(HBK.out.cell (p:=⟨p,o+9,none⟩) HPL.out).trans D9.out
   clear HR
   cases hs:sx.toList.isEmpty with
   |false=>
    have HR2:Hid (zH 17 sx l nk= false):=hid (by rw[HU.out,HRES.out,HV.out,hs];rfl)
    go_upto_region 14 with (fail)
    go_quiet (fail)
    go_wp2
    go_ret
    exact⟨z7 HR2.out.symm,HBK.out.trans ⟨rfl,rfl,rfl,Nat.le_refl _,fun _ _=>rfl⟩⟩
   |true=>
    cases hl:((l.length:Int) ==(nk:Int)) with
    |false=>
     have HR2:Hid (zH 17 sx l nk= false):=hid (by rw[HU.out,HRES.out,HV.out,hs,hl];rfl)
     go_upto_region 14 with (fail)
     go_quiet (fail)
     go_wp2
     go_ret
     exact⟨z7 HR2.out.symm,HBK.out.trans ⟨rfl,rfl,rfl,Nat.le_refl _,fun _ _=>rfl⟩⟩
    |true=>
     have HR2:Hid (zH 17 sx l nk= true):=hid (by rw[HU.out,HRES.out,HV.out,hs,hl];rfl)
     go_upto_region 14 with (fail)
     go_quiet (fail)
     go_wp2
     go_ret
     exact⟨z7 HR2.out.symm,HBK.out.trans ⟨rfl,rfl,rfl,Nat.le_refl _,fun _ _=>rfl⟩⟩
  |succ q=>
   have hlt:(k:Int) <(l.length:Int):=by omega
   obtain⟨s,hs⟩:∃ s,l[k]?= some s:=⟨_,List.getElem?_eq_getElem (by omega)⟩
   obtain⟨b,oo,rfl,hbl,hc⟩:=HA.out (by omega)
   have HCC:=hid (fun i x hx=>(hc i x hx).1)
   have HBL:=hid hbl
   have ds:=(HBK.out.cell (p:=⟨b,oo+k,none⟩) hbl).trans (hc k s hs).1
   have HNM:=hid (z2z s wr)
   have HSK:=hid hs
   clear hc hbl hs
   rcases Nat.eq_zero_or_pos k with hk0|hk0
   ·subst hk0
    have ds0:wr.cell? ⟨b,oo,none⟩= some (.string s):=ds
    have hlt0:(0:Int) <(l.length:Int):=by omega
    have HV:=hid (HR.out.symm.trans (H1.out s HSK.out))
    clear HR
    generalize zE s= nb at*
    cases nb with
    |false=>
     have HV2:Hid (res= false):=hid (HV.out.trans (Bool.false_and _))
     clear HV
     go_wp2_with (go_at_call 148;refine HNM.out.mono ?_;rintro e z ⟨rfl,hbz⟩;have HB3:=hid hbz;clear hbz)
     go_ret
     exact⟨z7 (by rw[HU.out,HRES.out,HV2.out];rfl),HBK.out.trans (HB3.out.mono HBK.out.size)⟩
    |true=>
     have HV2:=hid (HV.out.trans (Bool.true_and _))
     clear HV
     go_wp2_with (go_at_call 148;refine HNM.out.mono ?_;rintro e z ⟨rfl,hbz⟩;have HB3:=hid hbz;clear hbz)
     go_roundg q
     case measure=>omega
     case rel=>exact⟨1,by omega,by go_num,HBK.out.trans (HB3.out.mono HBK.out.size),HV2.out.symm⟩
   ·obtain⟨j,rfl⟩:∃ j,k= j+1:=⟨k - 1,by omega⟩
    obtain⟨pn,hp⟩:∃ pn,l[j]?= some pn:=⟨_,List.getElem?_eq_getElem (by omega)⟩
    have HV:=hid (HR.out.symm.trans (H2.out j pn s hp HSK.out))
    have HDP:=hid (HCC.out j pn hp)
    have hpos:(0:Int) <((j+1:Nat):Int):=by omega
    have hj2:(j:Int) <(l.length:Int):=by omega
    clear HR hp
    generalize zE s= nb at*
    cases nb with
    |false=>
     have HV2:Hid (res= false):=hid (HV.out.trans (Bool.false_and _))
     clear HV
     go_wp2_with (go_at_call 148;refine HNM.out.mono ?_;rintro e z ⟨rfl,hbz⟩;have HB3:=hid hbz;clear hbz)
     go_ret
     exact⟨z7 (by rw[HU.out,HRES.out,HV2.out];rfl),HBK.out.trans (HB3.out.mono HBK.out.size)⟩
    |true=>
     have HV2:=hid (HV.out.trans (Bool.true_and _))
     clear HV
     cases hlt3:Op.bytesLess pn.toList s.toList with
     |false=>
      have HV3:Hid (res= false):=hid (HV2.out.trans (by rw[hlt3];exact Bool.false_and _))
      go_wp2_with (go_at_call 148;refine HNM.out.mono ?_;rintro e z ⟨rfl,hbz⟩;have HB3:=hid hbz;have x8:=((HBK.out.trans (hbz.mono HBK.out.size)).cell (p:=⟨p,o+8,none⟩) HPL.out).trans D8.out;have dp:=(((HBK.out.trans (hbz.mono HBK.out.size)).cell (p:=⟨b,oo+j,none⟩) HBL.out)).trans HDP.out;clear hbz)
      go_ret
      exact⟨z7 (by rw[HU.out,HRES.out,HV3.out];rfl),HBK.out.trans (HB3.out.mono HBK.out.size)⟩
     |true=>
      have HV3:=hid (HV2.out.trans (by rw[hlt3,Bool.true_and]))
      go_wp2_with (go_at_call 148;refine HNM.out.mono ?_;rintro e z ⟨rfl,hbz⟩;have HB3:=hid hbz;have x8:=((HBK.out.trans (hbz.mono HBK.out.size)).cell (p:=⟨p,o+8,none⟩) HPL.out).trans D8.out;have dp:=(((HBK.out.trans (hbz.mono HBK.out.size)).cell (p:=⟨b,oo+j,none⟩) HBL.out)).trans HDP.out;clear hbz)
      go_roundg q
      case measure=>omega
      case rel=>exact⟨j+2,by omega,by go_num,HBK.out.trans (HB3.out.mono HBK.out.size),HV3.out.symm⟩
theorem z9l (k:Int) (p o:Nat) (sx:ByteArray) (v0 v1 v2 v3 v4 v5:Value) (A K:Option Addr) (c nk kc:Nat) (l:List ByteArray) (w:World) (hr:w.rangeAt p o [.int .i64 k,.string sx,v0,v1,v2,v3,v4,v5,.slice A l.length c,.slice K nk kc]) (hv:SlAt w w.heap.size 1 StrR (.slice A l.length c) l):
  Calls Tryz.prog 106 #[.pointer (some ⟨p,o,none⟩)] w fun e w'=>e= .returned (.bool (zH k sx l nk))∧Below w.heap.size w w':=by
 rcases Classical.em (k= 2) with rfl|h2
 ·exact zdy p o sx v0 v1 v2 v3 v4 v5 A K c nk kc l w hr hv
 rcases Classical.em (k= 17) with rfl|h17
 ·exact zcY p o sx v0 v1 v2 v3 v4 v5 A K c nk kc l w hr hv
 rcases Classical.em (k= 18) with rfl|h18
 ·exact zd9 p o sx v0 v1 v2 v3 v4 v5 A K c nk kc l w hr hv
 exact zdi k h2 h17 h18 p o sx v0 v1 v2 v3 v4 v5 A K c nk kc l w hr hv
end Go.Proofs.YtmpbepjjbaeebaaGreatDoor
end
