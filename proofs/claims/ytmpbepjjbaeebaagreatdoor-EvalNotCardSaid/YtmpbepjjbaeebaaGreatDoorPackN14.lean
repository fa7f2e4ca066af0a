/- Parts of a proof: RName, ELeaf. -/
import Derived.Test.YtmpbepjjbaeebaaGreatDoorPackN9
import Derived.Test.YtmpbepjjbaeebaaGreatDoorPackN13
set_option maxHeartbeats 8000000
set_option maxRecDepth 100000
set_option linter.unusedVariables false
set_option linter.unusedSimpArgs false
section
namespace Go.Proofs.YtmpbepjjbaeebaaGreatDoor
open Go Go.RowKit
open Go.Lib (hid)
theorem zdJ {s:ByteArray} {k:Nat} {c:UInt8} (h:s.data.toList[k]?= some c) (hk:k < s.size):s[k]'hk= c:=by
 have h2:s.data[k]?= some c:=by simpa using h
 obtain⟨h3,h4⟩:=Array.getElem?_eq_some_iff.1 h2
 exact h4
theorem z6k (s:ByteArray) (w:World):Calls Tryz.prog 92 #[.string s] w fun e w'=>e= .returned (.bool (nameB s))∧w'= w:=by
 have HN:Hid (nameB s=(decide (0 < s.size) && decide (s.size≤30) && zW s.data.toList 0)):=hid rfl
 have HL:Hid (s.data.toList.length= s.size):=hid (by cases s;rfl)
 by_cases h0:s.size= 0
 ·have t1:(s.size:Int) < 1:=by omega
  have HR:Hid (nameB s= false):=hid (by rw[HN.out,h0];rfl)
  clear h0
  go_enter Tryz.func92,Tryz.ntmps92
  go_wp2
  go_ret
  exact⟨za HR.out.symm,rfl⟩
 have t1: ¬ ((s.size:Int) < 1):=by omega
 by_cases h1:s.size≤30
 ·have t2: ¬ ((30:Int) <(s.size:Int)):=by omega
  have HR:Hid (nameB s= zW s.data.toList 0):=hid (by rw[HN.out,decide_eq_true (by omega),decide_eq_true h1];rfl)
  have HS:=hid (fun k c=>z4E (l:=s.data.toList) (k:=k) (c:=c))
  have HE:Hid (∀ k,zW (s.data.toList.drop s.size) k= true):=hid fun k=>by rw[List.drop_eq_nil_of_le (by rw[HL.out];exact Nat.le_refl _)];rfl
  have H0:Hid (zW (s.data.toList.drop 0) 0= zW s.data.toList 0):=hid rfl
  generalize zW s.data.toList 0= res at*
  go_enter Tryz.func92,Tryz.ntmps92
  go_wp2
  go_loopg [3] s.size (fun q x u=>∃ k:Nat,k+q= s.size∧x= .int .i64 k∧u= w∧zW (s.data.toList.drop k) k= res)
  case atStart=>exact⟨0,by omega,rfl,rfl,H0.out⟩
  case round=>
   obtain⟨k,hk,rfl,rfl,hres⟩:=hrel
   have HR2:=hid hres
   clear hres
   cases gk with
   |zero=>
    obtain rfl:k= s.size:=by omega
    have hge: ¬ ((s.size:Int) <(s.size:Int)):=by omega
    have HV:=hid (HR2.out.symm.trans (HE.out s.size))
    go_wp2
    go_ret
    exact⟨za (HR.out.trans HV.out).symm,rfl⟩
   |succ q=>
    have hlt:(k:Int) <(s.size:Int):=by omega
    obtain⟨c,hc⟩:∃ c,s.data.toList[k]?= some c:=⟨_,List.getElem?_eq_getElem (by rw[HL.out];omega)⟩
    have dk:=fun h=>zdJ (k:=k) (c:=c) hc h
    have HKC:=hid hc
    clear hc
    by_cases h97:97≤c.toNat
    ·have d97:decide (97≤c.toNat)= true:=decide_eq_true (by omega)
     have f97:97≤(c.toNat:Int):=by omega
     by_cases h122:c.toNat≤122
     ·have d122:decide (c.toNat≤122)= true:=decide_eq_true (by omega)
      have f122:(c.toNat:Int)≤122:=by omega
      have hok:okC k c= true:=by unfold okC;simp only[d97,d122,Bool.true_and,Bool.and_true,Bool.or_true,Bool.true_or,Bool.false_or,Bool.or_false,Bool.and_false,Bool.false_and]
      have HV:Hid (res= zW (s.data.toList.drop (k+1)) (k+1)):=hid (HR2.out.symm.trans ((HS.out k c HKC.out).trans (by rw[hok];exact Bool.true_and _)))
      clear hok
      go_wp2
      go_roundg q
      case measure=>omega
      case rel=>exact⟨k+1,by omega,by go_num,rfl,HV.out.symm⟩
     ·have d122:decide (c.toNat≤122)= false:=decide_eq_false (by omega)
      have f122: ¬ ((c.toNat:Int)≤122):=by omega
      by_cases hk0:k= 0
      ·subst hk0
       have dk0:decide ((0:Nat) < 0)= false:=rfl
       have hok:okC 0 c= false:=by unfold okC;simp only[d97,d122,dk0,Bool.true_and,Bool.and_true,Bool.or_true,Bool.true_or,Bool.false_or,Bool.or_false,Bool.and_false,Bool.false_and]
       have HV:Hid (res= false):=hid (HR2.out.symm.trans ((HS.out 0 c HKC.out).trans (by rw[hok];exact Bool.false_and _)))
       clear hok
       go_wp2
       go_ret
       exact⟨za (HR.out.trans HV.out).symm,rfl⟩
      ·have dk0:decide (0 < k)= true:=decide_eq_true (by omega)
       have k0':((k:Int) ==0)= false:=by rw[beq_eq_false_iff_ne];omega
       have k0i: ¬ ((k:Int)= 0):=by omega
       by_cases h48:48≤c.toNat
       ·have d48:decide (48≤c.toNat)= true:=decide_eq_true (by omega)
        have f48:48≤(c.toNat:Int):=by omega
        by_cases h57:c.toNat≤57
        ·have d57:decide (c.toNat≤57)= true:=decide_eq_true (by omega)
         have f57:(c.toNat:Int)≤57:=by omega
         have hok:okC k c= true:=by unfold okC;simp only[d97,d122,dk0,d48,d57,Bool.true_and,Bool.and_true,Bool.or_true,Bool.true_or,Bool.false_or,Bool.or_false,Bool.and_false,Bool.false_and]
         have HV:Hid (res= zW (s.data.toList.drop (k+1)) (k+1)):=hid (HR2.out.symm.trans ((HS.out k c HKC.out).trans (by rw[hok];exact Bool.true_and _)))
         clear hok
         go_wp2
         go_roundg q
         case measure=>omega
         case rel=>exact⟨k+1,by omega,by go_num,rfl,HV.out.symm⟩
        ·have d57:decide (c.toNat≤57)= false:=decide_eq_false (by omega)
         have f57: ¬ ((c.toNat:Int)≤57):=by omega
         by_cases h95:c.toNat= 95
         ·have e1:(c.toNat ==95)= true:=by simpa using h95
          have e2:((c.toNat:Int) ==95)= true:=by rw[beq_iff_eq];omega
          have e3:((c.toNat:Int) !=95)= false:=by rw[h95];rfl
          have hok:okC k c= true:=by unfold okC;simp only[d97,d122,dk0,d48,d57,e1,Bool.true_and,Bool.and_true,Bool.or_true,Bool.true_or,Bool.false_or,Bool.or_false,Bool.and_false,Bool.false_and]
          have HV:Hid (res= zW (s.data.toList.drop (k+1)) (k+1)):=hid (HR2.out.symm.trans ((HS.out k c HKC.out).trans (by rw[hok];exact Bool.true_and _)))
          clear hok
          go_wp2
          go_roundg q
          case measure=>omega
          case rel=>exact⟨k+1,by omega,by go_num,rfl,HV.out.symm⟩
         ·have e1:(c.toNat ==95)= false:=by simpa using h95
          have e2:((c.toNat:Int) ==95)= false:=by rw[beq_eq_false_iff_ne];omega
          have e3:((c.toNat:Int) !=95)= true:=by rw[bne_iff_ne];omega
          have hok:okC k c= false:=by unfold okC;simp only[d97,d122,dk0,d48,d57,e1,Bool.true_and,Bool.and_true,Bool.or_true,Bool.true_or,Bool.false_or,Bool.or_false,Bool.and_false,Bool.false_and]
          have HV:Hid (res= false):=hid (HR2.out.symm.trans ((HS.out k c HKC.out).trans (by rw[hok];exact Bool.false_and _)))
          clear hok
          go_wp2
          go_ret
          exact⟨za (HR.out.trans HV.out).symm,rfl⟩
       ·have d48:decide (48≤c.toNat)= false:=decide_eq_false (by omega)
        have f48: ¬ (48≤(c.toNat:Int)):=by omega
        have h95:c.toNat≠95:=by omega
        have e1:(c.toNat ==95)= false:=by simpa using h95
        have e2:((c.toNat:Int) ==95)= false:=by rw[beq_eq_false_iff_ne];omega
        have e3:((c.toNat:Int) !=95)= true:=by rw[bne_iff_ne];omega
        have hok:okC k c= false:=by unfold okC;simp only[d97,d122,dk0,d48,e1,Bool.true_and,Bool.and_true,Bool.or_true,Bool.true_or,Bool.false_or,Bool.or_false,Bool.and_false,Bool.false_and]
        have HV:Hid (res= false):=hid (HR2.out.symm.trans ((HS.out k c HKC.out).trans (by rw[hok];exact Bool.false_and _)))
        clear hok
        go_wp2
        go_ret
        exact⟨za (HR.out.trans HV.out).symm,rfl⟩
    ·have d97:decide (97≤c.toNat)= false:=decide_eq_false (by omega)
     have f97: ¬ (97≤(c.toNat:Int)):=by omega
     by_cases hk0:k= 0
     ·subst hk0
      have dk0:decide ((0:Nat) < 0)= false:=rfl
      have hok:okC 0 c= false:=by unfold okC;simp only[d97,dk0,Bool.true_and,Bool.and_true,Bool.or_true,Bool.true_or,Bool.false_or,Bool.or_false,Bool.and_false,Bool.false_and]
      have HV:Hid (res= false):=hid (HR2.out.symm.trans ((HS.out 0 c HKC.out).trans (by rw[hok];exact Bool.false_and _)))
      clear hok
      go_wp2
      go_ret
      exact⟨za (HR.out.trans HV.out).symm,rfl⟩
     ·have dk0:decide (0 < k)= true:=decide_eq_true (by omega)
      have k0':((k:Int) ==0)= false:=by rw[beq_eq_false_iff_ne];omega
      have k0i: ¬ ((k:Int)= 0):=by omega
      by_cases h48:48≤c.toNat
      ·have d48:decide (48≤c.toNat)= true:=decide_eq_true (by omega)
       have f48:48≤(c.toNat:Int):=by omega
       by_cases h57:c.toNat≤57
       ·have d57:decide (c.toNat≤57)= true:=decide_eq_true (by omega)
        have f57:(c.toNat:Int)≤57:=by omega
        have hok:okC k c= true:=by unfold okC;simp only[d97,dk0,d48,d57,Bool.true_and,Bool.and_true,Bool.or_true,Bool.true_or,Bool.false_or,Bool.or_false,Bool.and_false,Bool.false_and]
        have HV:Hid (res= zW (s.data.toList.drop (k+1)) (k+1)):=hid (HR2.out.symm.trans ((HS.out k c HKC.out).trans (by rw[hok];exact Bool.true_and _)))
        clear hok
        go_wp2
        go_roundg q
        case measure=>omega
        case rel=>exact⟨k+1,by omega,by go_num,rfl,HV.out.symm⟩
       ·have d57:decide (c.toNat≤57)= false:=decide_eq_false (by omega)
        have f57: ¬ ((c.toNat:Int)≤57):=by omega
        by_cases h95:c.toNat= 95
        ·have e1:(c.toNat ==95)= true:=by simpa using h95
         have e2:((c.toNat:Int) ==95)= true:=by rw[beq_iff_eq];omega
         have e3:((c.toNat:Int) !=95)= false:=by rw[h95];rfl
         have hok:okC k c= true:=by unfold okC;simp only[d97,dk0,d48,d57,e1,Bool.true_and,Bool.and_true,Bool.or_true,Bool.true_or,Bool.false_or,Bool.or_false,Bool.and_false,Bool.false_and]
         have HV:Hid (res= zW (s.data.toList.drop (k+1)) (k+1)):=hid (HR2.out.symm.trans ((HS.out k c HKC.out).trans (by rw[hok];exact Bool.true_and _)))
         clear hok
         go_wp2
         go_roundg q
         case measure=>omega
         case rel=>exact⟨k+1,by omega,by go_num,rfl,HV.out.symm⟩
        ·have e1:(c.toNat ==95)= false:=by simpa using h95
         have e2:((c.toNat:Int) ==95)= false:=by rw[beq_eq_false_iff_ne];omega
         have e3:((c.toNat:Int) !=95)= true:=by rw[bne_iff_ne];omega
         have hok:okC k c= false:=by unfold okC;simp only[d97,dk0,d48,d57,e1,Bool.true_and,Bool.and_true,Bool.or_true,Bool.true_or,Bool.false_or,Bool.or_false,Bool.and_false,Bool.false_and]
         have HV:Hid (res= false):=hid (HR2.out.symm.trans ((HS.out k c HKC.out).trans (by rw[hok];exact Bool.false_and _)))
         clear hok
         go_wp2
         go_ret
         exact⟨za (HR.out.trans HV.out).symm,rfl⟩
      ·have d48:decide (48≤c.toNat)= false:=decide_eq_false (by omega)
       have f48: ¬ (48≤(c.toNat:Int)):=by omega
       have h95:c.toNat≠95:=by omega
       have e1:(c.toNat ==95)= false:=by simpa using h95
       have e2:((c.toNat:Int) ==95)= false:=by rw[beq_eq_false_iff_ne];omega
       have e3:((c.toNat:Int) !=95)= true:=by rw[bne_iff_ne];omega
       have hok:okC k c= false:=by unfold okC;simp only[d97,dk0,d48,e1,Bool.true_and,Bool.and_true,Bool.or_true,Bool.true_or,Bool.false_or,Bool.or_false,Bool.and_false,Bool.false_and]
       have HV:Hid (res= false):=hid (HR2.out.symm.trans ((HS.out k c HKC.out).trans (by rw[hok];exact Bool.false_and _)))
       clear hok
       go_wp2
       go_ret
       exact⟨za (HR.out.trans HV.out).symm,rfl⟩
 ·have t2:(30:Int) <(s.size:Int):=by omega
  have HR:Hid (nameB s= false):=hid (by rw[HN.out,decide_eq_false h1,Bool.and_false];rfl)
  go_enter Tryz.func92,Tryz.ntmps92
  go_wp2
  go_ret
  exact⟨za HR.out.symm,rfl⟩
end Go.Proofs.YtmpbepjjbaeebaaGreatDoor
end
section
namespace Go.Proofs.YtmpbepjjbaeebaaGreatDoor
open Go Go.RowKit
open Go.Lib (hid)
def z07 (k:Int):Int:=
 if k= 1∨k= 2 then 0 else if k= 3∨k= 4∨k= 18∨(20≤k∧k≤23) then 1 else if(5≤k∧k≤14)∨k= 19 then 2 else if k= 15 then 3 else if k= 16∨k= 17 then -1 else -2
theorem zcF (k:Int) (w:World):Calls Tryz.prog 105 #[.int .i64 k] w fun e w'=>e= .returned (.int .i64 (z07 k))∧w'= w:=by
 by_cases h:k= 1∨k= 2∨k= 3∨k= 4∨k= 5∨k= 6∨k= 7∨k= 8∨k= 9∨k= 10∨k= 11∨k= 12∨k= 13∨k= 14∨k= 15∨k= 16∨k= 17∨k= 18∨k= 19∨k= 20∨k= 21∨k= 22∨k= 23
 ·rcases h with rfl|rfl|rfl|rfl|rfl|rfl|rfl|rfl|rfl|rfl|rfl|rfl|rfl|rfl|rfl|rfl|rfl|rfl|rfl|rfl|rfl|rfl|rfl
  all_goals
   go_enter Tryz.func105,Tryz.ntmps105
   go_wp2
   go_ret
   exact⟨rfl,rfl⟩
 ·have HR:Hid (z07 k= -2):=hid (by unfold z07;rw[if_neg (by omega),if_neg (by omega),if_neg (by omega),if_neg (by omega),if_neg (by omega)])
  by_cases h1:k < 1
  ·have e1:(k ==1)= false:=by rw[beq_eq_false_iff_ne];omega
   have e2:(k ==2)= false:=by rw[beq_eq_false_iff_ne];omega
   have e3:(k ==3)= false:=by rw[beq_eq_false_iff_ne];omega
   have e4:(k ==4)= false:=by rw[beq_eq_false_iff_ne];omega
   have e18:(k ==18)= false:=by rw[beq_eq_false_iff_ne];omega
   have e15:(k ==15)= false:=by rw[beq_eq_false_iff_ne];omega
   have e16:(k ==16)= false:=by rw[beq_eq_false_iff_ne];omega
   have e17:(k ==17)= false:=by rw[beq_eq_false_iff_ne];omega
   have e19:(k ==19)= false:=by rw[beq_eq_false_iff_ne];omega
   have l20: ¬ (20≤k):=by omega
   have l5: ¬ (5≤k):=by omega
   clear h h1
   go_enter Tryz.func105,Tryz.ntmps105
   go_wp2
   go_ret
   exact⟨by rw[HR.out];rfl,rfl⟩
  ·have e1:(k ==1)= false:=by rw[beq_eq_false_iff_ne];omega
   have e2:(k ==2)= false:=by rw[beq_eq_false_iff_ne];omega
   have e3:(k ==3)= false:=by rw[beq_eq_false_iff_ne];omega
   have e4:(k ==4)= false:=by rw[beq_eq_false_iff_ne];omega
   have e18:(k ==18)= false:=by rw[beq_eq_false_iff_ne];omega
   have e15:(k ==15)= false:=by rw[beq_eq_false_iff_ne];omega
   have e16:(k ==16)= false:=by rw[beq_eq_false_iff_ne];omega
   have e17:(k ==17)= false:=by rw[beq_eq_false_iff_ne];omega
   have e19:(k ==19)= false:=by rw[beq_eq_false_iff_ne];omega
   have l20:20≤k:=by omega
   have l23: ¬ (k≤23):=by omega
   have l5:5≤k:=by omega
   have l14: ¬ (k≤14):=by omega
   clear h h1
   go_enter Tryz.func105,Tryz.ntmps105
   go_wp2
   go_ret
   exact⟨by rw[HR.out];rfl,rfl⟩
theorem zaT (k:Int) (w:World):Calls Tryz.prog 89 #[.int .i64 k] w fun e w'=>e= .returned (.int .i64 (z07 k))∧w'= w:=by
 by_cases h:k= 1∨k= 2∨k= 3∨k= 4∨k= 5∨k= 6∨k= 7∨k= 8∨k= 9∨k= 10∨k= 11∨k= 12∨k= 13∨k= 14∨k= 15∨k= 16∨k= 17∨k= 18∨k= 19∨k= 20∨k= 21∨k= 22∨k= 23
 ·rcases h with rfl|rfl|rfl|rfl|rfl|rfl|rfl|rfl|rfl|rfl|rfl|rfl|rfl|rfl|rfl|rfl|rfl|rfl|rfl|rfl|rfl|rfl|rfl
  all_goals
   go_enter Tryz.func89,Tryz.ntmps89
   go_wp2
   go_ret
   exact⟨rfl,rfl⟩
 ·have HR:Hid (z07 k= -2):=hid (by unfold z07;rw[if_neg (by omega),if_neg (by omega),if_neg (by omega),if_neg (by omega),if_neg (by omega)])
  by_cases h1:k < 1
  ·have e1:(k ==1)= false:=by rw[beq_eq_false_iff_ne];omega
   have e2:(k ==2)= false:=by rw[beq_eq_false_iff_ne];omega
   have e3:(k ==3)= false:=by rw[beq_eq_false_iff_ne];omega
   have e4:(k ==4)= false:=by rw[beq_eq_false_iff_ne];omega
   have e18:(k ==18)= false:=by rw[beq_eq_false_iff_ne];omega
   have e15:(k ==15)= false:=by rw[beq_eq_false_iff_ne];omega
   have e16:(k ==16)= false:=by rw[beq_eq_false_iff_ne];omega
   have e17:(k ==17)= false:=by rw[beq_eq_false_iff_ne];omega
   have e19:(k ==19)= false:=by rw[beq_eq_false_iff_ne];omega
   have l20: ¬ (20≤k):=by omega
   have l5: ¬ (5≤k):=by omega
   clear h h1
   go_enter Tryz.func89,Tryz.ntmps89
   go_wp2
   go_ret
   exact⟨by rw[HR.out];rfl,rfl⟩
  ·have e1:(k ==1)= false:=by rw[beq_eq_false_iff_ne];omega
   have e2:(k ==2)= false:=by rw[beq_eq_false_iff_ne];omega
   have e3:(k ==3)= false:=by rw[beq_eq_false_iff_ne];omega
   have e4:(k ==4)= false:=by rw[beq_eq_false_iff_ne];omega
   have e18:(k ==18)= false:=by rw[beq_eq_false_iff_ne];omega
   have e15:(k ==15)= false:=by rw[beq_eq_false_iff_ne];omega
   have e16:(k ==16)= false:=by rw[beq_eq_false_iff_ne];omega
   have e17:(k ==17)= false:=by rw[beq_eq_false_iff_ne];omega
   have e19:(k ==19)= false:=by rw[beq_eq_false_iff_ne];omega
   have l20:20≤k:=by omega
   have l23: ¬ (k≤23):=by omega
   have l5:5≤k:=by omega
   have l14: ¬ (k≤14):=by omega
   clear h h1
   go_enter Tryz.func89,Tryz.ntmps89
   go_wp2
   go_ret
   exact⟨by rw[HR.out];rfl,rfl⟩
def wordB (s:ByteArray):Bool:=((s.toList ==[116,114,117,101]) ||((s.toList ==[102,97,108,115,101]) ||((s.toList ==[110,97,110]) ||((s.toList ==[105,110,102]) ||((s.toList ==[108,101,110]) ||((s.toList ==[102,108,111,97,116]) ||((s.toList ==[105,110,116]) ||(s.toList ==[115,116,114]))))))))
theorem zbw (s:ByteArray) (w:World):Calls Tryz.prog 147 #[.string s] w fun e w'=>e= .returned (.bool (wordB s))∧w'= w:=by
 cases h0:(s.toList ==[116,114,117,101]) with
 |true=>
  have HR:Hid (wordB s= true):=hid (by unfold wordB;rw[h0];rfl)
  go_enter Tryz.func147,Tryz.ntmps147
  go_wp2
  go_ret
  exact⟨by rw[HR.out];rfl,rfl⟩
 |false=>
  cases h1:(s.toList ==[102,97,108,115,101]) with
  |true=>
   have HR:Hid (wordB s= true):=hid (by unfold wordB;rw[h0,h1];rfl)
   go_enter Tryz.func147,Tryz.ntmps147
   go_wp2
   go_ret
   exact⟨by rw[HR.out];rfl,rfl⟩
  |false=>
   cases h2:(s.toList ==[110,97,110]) with
   |true=>
    have HR:Hid (wordB s= true):=hid (by unfold wordB;rw[h0,h1,h2];rfl)
    go_enter Tryz.func147,Tryz.ntmps147
    go_wp2
    go_ret
    exact⟨by rw[HR.out];rfl,rfl⟩
   |false=>
    cases h3:(s.toList ==[105,110,102]) with
    |true=>
     have HR:Hid (wordB s= true):=hid (by unfold wordB;rw[h0,h1,h2,h3];rfl)
     go_enter Tryz.func147,Tryz.ntmps147
     go_wp2
     go_ret
     exact⟨by rw[HR.out];rfl,rfl⟩
    |false=>
     cases h4:(s.toList ==[108,101,110]) with
     |true=>
      have HR:Hid (wordB s= true):=hid (by unfold wordB;rw[h0,h1,h2,h3,h4];rfl)
      go_enter Tryz.func147,Tryz.ntmps147
      go_wp2
      go_ret
      exact⟨by rw[HR.out];rfl,rfl⟩
     |false=>
      cases h5:(s.toList ==[102,108,111,97,116]) with
      |true=>
       have HR:Hid (wordB s= true):=hid (by unfold wordB;rw[h0,h1,h2,h3,h4,h5];rfl)
       go_enter Tryz.func147,Tryz.ntmps147
       go_wp2
       go_ret
       exact⟨by rw[HR.out];rfl,rfl⟩
      |false=>
       cases h6:(s.toList ==[105,110,116]) with
       |true=>
        have HR:Hid (wordB s= true):=hid (by unfold wordB;rw[h0,h1,h2,h3,h4,h5,h6];rfl)
        go_enter Tryz.func147,Tryz.ntmps147
        go_wp2
        go_ret
        exact⟨by rw[HR.out];rfl,rfl⟩
       |false=>
        cases h7:(s.toList ==[115,116,114]) with
        |true=>
         have HR:Hid (wordB s= true):=hid (by unfold wordB;rw[h0,h1,h2,h3,h4,h5,h6,h7];rfl)
         go_enter Tryz.func147,Tryz.ntmps147
         go_wp2
         go_ret
         exact⟨by rw[HR.out];rfl,rfl⟩
        |false=>
         have HR:Hid (wordB s= false):=hid (by unfold wordB;rw[h0,h1,h2,h3,h4,h5,h6,h7];rfl)
         go_enter Tryz.func147,Tryz.ntmps147
         go_wp2
         go_ret
         exact⟨by rw[HR.out];rfl,rfl⟩
theorem zbI (s:ByteArray) (w:World):Calls Tryz.prog 93 #[.string s] w fun e w'=>e= .returned (.bool (wordB s))∧w'= w:=by
 cases h0:(s.toList ==[116,114,117,101]) with
 |true=>
  have HR:Hid (wordB s= true):=hid (by unfold wordB;rw[h0];rfl)
  go_enter Tryz.func93,Tryz.ntmps93
  go_wp2
  go_ret
  exact⟨by rw[HR.out];rfl,rfl⟩
 |false=>
  cases h1:(s.toList ==[102,97,108,115,101]) with
  |true=>
   have HR:Hid (wordB s= true):=hid (by unfold wordB;rw[h0,h1];rfl)
   go_enter Tryz.func93,Tryz.ntmps93
   go_wp2
   go_ret
   exact⟨by rw[HR.out];rfl,rfl⟩
  |false=>
   cases h2:(s.toList ==[110,97,110]) with
   |true=>
    have HR:Hid (wordB s= true):=hid (by unfold wordB;rw[h0,h1,h2];rfl)
    go_enter Tryz.func93,Tryz.ntmps93
    go_wp2
    go_ret
    exact⟨by rw[HR.out];rfl,rfl⟩
   |false=>
    cases h3:(s.toList ==[105,110,102]) with
    |true=>
     have HR:Hid (wordB s= true):=hid (by unfold wordB;rw[h0,h1,h2,h3];rfl)
     go_enter Tryz.func93,Tryz.ntmps93
     go_wp2
     go_ret
     exact⟨by rw[HR.out];rfl,rfl⟩
    |false=>
     cases h4:(s.toList ==[108,101,110]) with
     |true=>
      have HR:Hid (wordB s= true):=hid (by unfold wordB;rw[h0,h1,h2,h3,h4];rfl)
      go_enter Tryz.func93,Tryz.ntmps93
      go_wp2
      go_ret
      exact⟨by rw[HR.out];rfl,rfl⟩
     |false=>
      cases h5:(s.toList ==[102,108,111,97,116]) with
      |true=>
       have HR:Hid (wordB s= true):=hid (by unfold wordB;rw[h0,h1,h2,h3,h4,h5];rfl)
       go_enter Tryz.func93,Tryz.ntmps93
       go_wp2
       go_ret
       exact⟨by rw[HR.out];rfl,rfl⟩
      |false=>
       cases h6:(s.toList ==[105,110,116]) with
       |true=>
        have HR:Hid (wordB s= true):=hid (by unfold wordB;rw[h0,h1,h2,h3,h4,h5,h6];rfl)
        go_enter Tryz.func93,Tryz.ntmps93
        go_wp2
        go_ret
        exact⟨by rw[HR.out];rfl,rfl⟩
       |false=>
        cases h7:(s.toList ==[115,116,114]) with
        |true=>
         have HR:Hid (wordB s= true):=hid (by unfold wordB;rw[h0,h1,h2,h3,h4,h5,h6,h7];rfl)
         go_enter Tryz.func93,Tryz.ntmps93
         go_wp2
         go_ret
         exact⟨by rw[HR.out];rfl,rfl⟩
        |false=>
         have HR:Hid (wordB s= false):=hid (by unfold wordB;rw[h0,h1,h2,h3,h4,h5,h6,h7];rfl)
         go_enter Tryz.func93,Tryz.ntmps93
         go_wp2
         go_ret
         exact⟨by rw[HR.out];rfl,rfl⟩
def zH (s:ByteArray):Bool:=nameB s && (!(s.toList ==[110,97,110]) && !(s.toList ==[105,110,102]))
theorem z3s (s:ByteArray) (w:World):Calls Tryz.prog 148 #[.string s] w fun e w'=>e= .returned (.bool (zH s))∧Below w.heap.size w w':=by
 have HN:=hid (z7m s w)
 cases h0:nameB s with
 |false=>
  have HR:Hid (zH s= false):=hid (by unfold zH;rw[h0];rfl)
  rw[h0] at HN
  clear h0
  go_enter Tryz.func148,Tryz.ntmps148
  go_wp2_with (go_at_call 146;refine HN.out.mono ?_;rintro e z ⟨rfl,hb⟩;have HB:=hid hb;clear hb)
  go_ret
  exact⟨by rw[HR.out];rfl,HB.out⟩
 |true=>
  cases h1:(s.toList ==[110,97,110]) with
  |true=>
   have HR:Hid (zH s= false):=hid (by unfold zH;rw[h0,h1];rfl)
   rw[h0] at HN
   clear h0
   go_enter Tryz.func148,Tryz.ntmps148
   go_wp2_with (go_at_call 146;refine HN.out.mono ?_;rintro e z ⟨rfl,hb⟩;have HB:=hid hb;clear hb)
   go_ret
   exact⟨by rw[HR.out];rfl,HB.out⟩
  |false=>
   cases h2:(s.toList ==[105,110,102]) with
   |true=>
    have HR:Hid (zH s= false):=hid (by unfold zH;rw[h0,h1,h2];rfl)
    rw[h0] at HN
    clear h0
    go_enter Tryz.func148,Tryz.ntmps148
    go_wp2_with (go_at_call 146;refine HN.out.mono ?_;rintro e z ⟨rfl,hb⟩;have HB:=hid hb;clear hb)
    go_ret
    exact⟨by rw[HR.out];rfl,HB.out⟩
   |false=>
    have HR:Hid (zH s= true):=hid (by unfold zH;rw[h0,h1,h2];rfl)
    rw[h0] at HN
    clear h0
    go_enter Tryz.func148,Tryz.ntmps148
    go_wp2_with (go_at_call 146;refine HN.out.mono ?_;rintro e z ⟨rfl,hb⟩;have HB:=hid hb;clear hb)
    go_ret
    exact⟨by rw[HR.out];rfl,HB.out⟩
theorem z5Q (s:ByteArray) (w:World):Calls Tryz.prog 94 #[.string s] w fun e w'=>e= .returned (.bool (zH s))∧w'= w:=by
 have HN:=hid (z6k s w)
 cases h0:nameB s with
 |false=>
  have HR:Hid (zH s= false):=hid (by unfold zH;rw[h0];rfl)
  rw[h0] at HN
  clear h0
  go_enter Tryz.func94,Tryz.ntmps94
  go_wp2_with (go_at_call 92;refine HN.out.mono ?_;rintro e z ⟨rfl,hb⟩;subst hb)
  go_ret
  exact⟨by rw[HR.out];rfl,rfl⟩
 |true=>
  cases h1:(s.toList ==[110,97,110]) with
  |true=>
   have HR:Hid (zH s= false):=hid (by unfold zH;rw[h0,h1];rfl)
   rw[h0] at HN
   clear h0
   go_enter Tryz.func94,Tryz.ntmps94
   go_wp2_with (go_at_call 92;refine HN.out.mono ?_;rintro e z ⟨rfl,hb⟩;subst hb)
   go_ret
   exact⟨by rw[HR.out];rfl,rfl⟩
  |false=>
   cases h2:(s.toList ==[105,110,102]) with
   |true=>
    have HR:Hid (zH s= false):=hid (by unfold zH;rw[h0,h1,h2];rfl)
    rw[h0] at HN
    clear h0
    go_enter Tryz.func94,Tryz.ntmps94
    go_wp2_with (go_at_call 92;refine HN.out.mono ?_;rintro e z ⟨rfl,hb⟩;subst hb)
    go_ret
    exact⟨by rw[HR.out];rfl,rfl⟩
   |false=>
    have HR:Hid (zH s= true):=hid (by unfold zH;rw[h0,h1,h2];rfl)
    rw[h0] at HN
    clear h0
    go_enter Tryz.func94,Tryz.ntmps94
    go_wp2_with (go_at_call 92;refine HN.out.mono ?_;rintro e z ⟨rfl,hb⟩;subst hb)
    go_ret
    exact⟨by rw[HR.out];rfl,rfl⟩
def noneB (k n:Int) (f:Nat) (s:ByteArray) (ns its:Nat):Bool:=(k ==0) && ((n ==0) && ((cmpF f 0 ==0) && (s.toList.isEmpty && (((ns:Int) ==0) && ((its:Int) ==0)))))
theorem z4F (p o:Nat) (k n:Int) (f:Nat) (s:ByteArray) (A D:Option Addr) (ns its ca cd:Nat) (w:World) (hf:f < 2 ^ 64) (h:w.rangeAt p o [.int .i64 k,.int .i64 n,.float .f64 f,.string s,.slice A ns ca,.slice D its cd]):
  Calls Tryz.prog 108 #[.pointer (some ⟨p,o,none⟩)] w fun e w'=>e= .returned (.bool (noneB k n f s ns its))∧w'= w:=by
 have d0:w.cell? ⟨p,o,none⟩= some (.int .i64 k):=h 0 _ rfl
 have d1:=h 1 _ rfl
 have d2:=h 2 _ rfl
 have d3:=h 3 _ rfl
 have d4:=h 4 _ rfl
 have d5:=h 5 _ rfl
 have HFO:=hid (fun w=>z0P f 0 hf (by decide) w)
 clear h hf
 cases h0:(k ==0) with
 |false=>
  have HR:Hid (noneB k n f s ns its= false):=hid (by unfold noneB;rw[h0];rfl)
  generalize cmpF f 0= cf at*
  go_enter Tryz.func108,Tryz.ntmps108
  go_wp2_with (go_at_call 145;refine(HFO.out _).mono ?_;rintro e z ⟨rfl,rfl⟩)
  go_ret
  exact⟨za HR.out.symm,rfl⟩
 |true=>
  cases h1:(n ==0) with
  |false=>
   have HR:Hid (noneB k n f s ns its= false):=hid (by unfold noneB;rw[h0,h1];rfl)
   generalize cmpF f 0= cf at*
   go_enter Tryz.func108,Tryz.ntmps108
   go_wp2_with (go_at_call 145;refine(HFO.out _).mono ?_;rintro e z ⟨rfl,rfl⟩)
   go_ret
   exact⟨za HR.out.symm,rfl⟩
  |true=>
   cases h2:(cmpF f 0 ==0) with
   |false=>
    have HR:Hid (noneB k n f s ns its= false):=hid (by unfold noneB;rw[h0,h1,h2];rfl)
    generalize cmpF f 0= cf at*
    go_enter Tryz.func108,Tryz.ntmps108
    go_wp2_with (go_at_call 145;refine(HFO.out _).mono ?_;rintro e z ⟨rfl,rfl⟩)
    go_ret
    exact⟨za HR.out.symm,rfl⟩
   |true=>
    cases h3:s.toList.isEmpty with
    |false=>
     have HR:Hid (noneB k n f s ns its= false):=hid (by unfold noneB;rw[h0,h1,h2,h3];rfl)
     generalize cmpF f 0= cf at*
     go_enter Tryz.func108,Tryz.ntmps108
     go_wp2_with (go_at_call 145;refine(HFO.out _).mono ?_;rintro e z ⟨rfl,rfl⟩)
     go_ret
     exact⟨za HR.out.symm,rfl⟩
    |true=>
     cases h4:((ns:Int) ==0) with
     |false=>
      have HR:Hid (noneB k n f s ns its= false):=hid (by unfold noneB;rw[h0,h1,h2,h3,h4];rfl)
      generalize cmpF f 0= cf at*
      go_enter Tryz.func108,Tryz.ntmps108
      go_wp2_with (go_at_call 145;refine(HFO.out _).mono ?_;rintro e z ⟨rfl,rfl⟩)
      go_ret
      exact⟨za HR.out.symm,rfl⟩
     |true=>
      cases h5:((its:Int) ==0) with
      |false=>
       have HR:Hid (noneB k n f s ns its= false):=hid (by unfold noneB;rw[h0,h1,h2,h3,h4,h5];rfl)
       generalize cmpF f 0= cf at*
       go_enter Tryz.func108,Tryz.ntmps108
       go_wp2_with (go_at_call 145;refine(HFO.out _).mono ?_;rintro e z ⟨rfl,rfl⟩)
       go_ret
       exact⟨za HR.out.symm,rfl⟩
      |true=>
       have HR:Hid (noneB k n f s ns its= true):=hid (by unfold noneB;rw[h0,h1,h2,h3,h4,h5];rfl)
       generalize cmpF f 0= cf at*
       go_enter Tryz.func108,Tryz.ntmps108
       go_wp2_with (go_at_call 145;refine(HFO.out _).mono ?_;rintro e z ⟨rfl,rfl⟩)
       go_ret
       exact⟨za HR.out.symm,rfl⟩
theorem zcP (k n:Int) (f:Nat) (s:ByteArray) (A D:Option Addr) (ns its ca cd:Nat) (w:World) (hf:f < 2 ^ 64):
  Calls Tryz.prog 91 #[.agg ⟨[.int .i64 k,.int .i64 n,.float .f64 f,.string s,.slice A ns ca,.slice D its cd]⟩] w fun e w'=>e= .returned (.bool (noneB k n f s ns its))∧Below w.heap.size w w':=by
 have HFO:=hid (fun w=>z5D f hf w)
 have HB1:=hid (zc w (.cells ⟨[.int .i64 k,.int .i64 n,.float .f64 f,.string s,.slice A ns ca,.slice D its cd]⟩ 26))
 clear hf
 cases h0:(k ==0) with
 |false=>
  have HR:Hid (noneB k n f s ns its= false):=hid (by unfold noneB;rw[h0];rfl)
  generalize (cmpF f 0 ==0)= cf at*
  go_enter Tryz.func91,Tryz.ntmps91
  go_wp2_with (go_at_call 137;refine(HFO.out _).mono ?_;rintro e z ⟨rfl,rfl⟩)
  go_ret
  exact⟨za HR.out.symm,HB1.out⟩
 |true=>
  cases h1:(n ==0) with
  |false=>
   have HR:Hid (noneB k n f s ns its= false):=hid (by unfold noneB;rw[h0,h1];rfl)
   generalize (cmpF f 0 ==0)= cf at*
   go_enter Tryz.func91,Tryz.ntmps91
   go_wp2_with (go_at_call 137;refine(HFO.out _).mono ?_;rintro e z ⟨rfl,rfl⟩)
   go_ret
   exact⟨za HR.out.symm,HB1.out⟩
  |true=>
   cases h2:(cmpF f 0 ==0) with
   |false=>
    have HR:Hid (noneB k n f s ns its= false):=hid (by unfold noneB;rw[h0,h1,h2];rfl)
    generalize (cmpF f 0 ==0)= cf at*
    go_enter Tryz.func91,Tryz.ntmps91
    go_wp2_with (go_at_call 137;refine(HFO.out _).mono ?_;rintro e z ⟨rfl,rfl⟩)
    go_ret
    exact⟨za HR.out.symm,HB1.out⟩
   |true=>
    cases h3:s.toList.isEmpty with
    |false=>
     have HR:Hid (noneB k n f s ns its= false):=hid (by unfold noneB;rw[h0,h1,h2,h3];rfl)
     generalize (cmpF f 0 ==0)= cf at*
     go_enter Tryz.func91,Tryz.ntmps91
     go_wp2_with (go_at_call 137;refine(HFO.out _).mono ?_;rintro e z ⟨rfl,rfl⟩)
     go_ret
     exact⟨za HR.out.symm,HB1.out⟩
    |true=>
     cases h4:((ns:Int) ==0) with
     |false=>
      have HR:Hid (noneB k n f s ns its= false):=hid (by unfold noneB;rw[h0,h1,h2,h3,h4];rfl)
      generalize (cmpF f 0 ==0)= cf at*
      go_enter Tryz.func91,Tryz.ntmps91
      go_wp2_with (go_at_call 137;refine(HFO.out _).mono ?_;rintro e z ⟨rfl,rfl⟩)
      go_ret
      exact⟨za HR.out.symm,HB1.out⟩
     |true=>
      cases h5:((its:Int) ==0) with
      |false=>
       have HR:Hid (noneB k n f s ns its= false):=hid (by unfold noneB;rw[h0,h1,h2,h3,h4,h5];rfl)
       generalize (cmpF f 0 ==0)= cf at*
       go_enter Tryz.func91,Tryz.ntmps91
       go_wp2_with (go_at_call 137;refine(HFO.out _).mono ?_;rintro e z ⟨rfl,rfl⟩)
       go_ret
       exact⟨za HR.out.symm,HB1.out⟩
      |true=>
       have HR:Hid (noneB k n f s ns its= true):=hid (by unfold noneB;rw[h0,h1,h2,h3,h4,h5];rfl)
       generalize (cmpF f 0 ==0)= cf at*
       go_enter Tryz.func91,Tryz.ntmps91
       go_wp2_with (go_at_call 137;refine(HFO.out _).mono ?_;rintro e z ⟨rfl,rfl⟩)
       go_ret
       exact⟨za HR.out.symm,HB1.out⟩
end Go.Proofs.YtmpbepjjbaeebaaGreatDoor
end
