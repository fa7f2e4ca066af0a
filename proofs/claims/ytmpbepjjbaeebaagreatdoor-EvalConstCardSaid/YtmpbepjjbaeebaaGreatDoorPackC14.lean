/- Parts of a proof: VName, VBare, R03. -/
import Derived.Laws.IdiomStrings
import Derived.Test.YtmpbepjjbaeebaaGreatDoorPackC13
set_option maxHeartbeats 8000000
set_option maxRecDepth 100000
set_option linter.unusedVariables false
set_option linter.unusedSimpArgs false
namespace Go.Proofs.YtmpbepjjbaeebaaGreatDoor
section
open Go Go.RowKit
def okC (i:Nat) (c:UInt8):Bool:=(decide (97<=c.toNat) && decide (c.toNat<=122)) ||(decide (0 < i) && (c.toNat ==95 ||(decide (48<=c.toNat) && decide (c.toNat<=57))))
def zT:List UInt8->Nat->Bool
 |[],_=>true
 |c::l,i=>okC i c && zT l (i+1)
def nameB (s:ByteArray):Bool:=decide (0 < s.size) && decide (s.size<=30) && zT s.data.toList 0
theorem zaM (w:World) (C:Array Value) (T:TypeId) (fz:Nat × Nat) (i:Nat):(w.alloc (.cells C T fz)).cell? ⟨w.heap.size,i,none⟩= C[i]?:=by
 exact cell_of_row _ w.heap.size i C T fz (heap_alloc_new w _)
theorem z4v (s:ByteArray) (n k:Nat) {c:UInt8} (h:s.data.toList[k]?= some c):(bytesRow s n)[k]?= some (.int .u8 c.toNat):=by
 have h1:k < s.data.size:=by have:=(List.getElem?_eq_some_iff.1 h).1;simpa using this
 unfold bytesRow
 rw[Array.getElem?_append_left (by simpa using h1),Array.getElem?_map]
 have h2:s.data[k]?= some c:=by simpa using h
 rw[h2];rfl
theorem z4w {l:List UInt8} {k:Nat} {c:UInt8} (h:l[k]?= some c):zT (l.drop k) k=(okC k c && zT (l.drop (k+1)) (k+1)):=by
 rw[z08 h];rfl
theorem z7x (s:ByteArray) (w:World):Calls Tryz.prog 146 #[.string s] w fun e w'=>e= .returned (.bool (nameB s))/\Below w.heap.size w w':=by
 have HN:Hid (nameB s=(decide (0 < s.size) && decide (s.size<=30) && zT s.data.toList 0)):=I rfl
 have HL:Hid (s.data.toList.length= s.size):=I (by cases s;rfl)
 by_cases h0:s.size= 0
 ·have hl:s.data.toList=[]:=List.eq_nil_of_length_eq_zero (by rw[HL.out,h0])
  have t0:s.toList=[]:=by rw[toList_eq,hl]
  have t1:s.toList.isEmpty= true:=by rw[t0];rfl
  have HR:Hid (nameB s= false):=I (by rw[HN.out,h0];rfl)
  clear hl h0
  go_enter Tryz.func146,Tryz.ntmps146
  go_wp2
  go_ret
  exact⟨za HR.out.symm,Below.refl _ w⟩
 have t0: ¬ s.toList=[]:=fun h=>h0 (by rw[← HL.out,← toList_eq,h];rfl)
 have t1:s.toList.isEmpty= false:=by rw[Bool.eq_false_iff];intro h;exact t0 (List.isEmpty_iff.1 h)
 by_cases h1:s.size<=30
 ·have t2:(s.size:Int)<=30:=by omega
  have HR:Hid (nameB s= zT s.data.toList 0):=I (by rw[HN.out,decide_eq_true (by omega),decide_eq_true h1];rfl)
  have hcv:∀ W:World,(convert 9 164 (.string s)).run Tryz.prog W= .ok (.slice (some ⟨W.heap.size,0,none⟩) s.size (grownCap W s.size 0 5)) (W.drew.alloc (.cells (bytesRow s (grownCap W s.size 0 5)) 5 ((bytesRow s (grownCap W s.size 0 5)).size,(bytesRow s (grownCap W s.size 0 5)).size+1))):=fun W=>run_bytes_of_string W _ _ _ s Tryz.underlying9 Tryz.underlying164 Tryz.underlying5
  have HC:=I (fun(W:World) (n:Nat) fz (k:Nat) (c:UInt8) (h:s.data.toList[k]?= some c)=>(zaM W (bytesRow s n) 5 fz k).trans (z4v s n k h))
  have HS:=I (fun k c=>z4w (l:=s.data.toList) (k:=k) (c:=c))
  have HE:Hid (∀ k,zT (s.data.toList.drop s.size) k= true):=I fun k=>by rw[List.drop_eq_nil_of_le (by rw[HL.out];exact Nat.le_refl _)];rfl
  have H0:Hid (zT (s.data.toList.drop 0) 0= zT s.data.toList 0):=I rfl
  generalize zT s.data.toList 0= res at*
  go_enter Tryz.func146,Tryz.ntmps146
  go_upto_region 4 with (fail)
  have HCC:Hid (∀ (k:Nat) c,s.data.toList[k]?= some c->((w.alloc (Obj.cells (bytesRow s (grownCap w s.size 0 5)) 5 ((bytesRow s (grownCap w s.size 0 5)).size,(bytesRow s (grownCap w s.size 0 5)).size+1))).drew).cell? ⟨w.heap.size,k,none⟩= some (.int .u8 c.toNat)):=I (fun k c h=>HC.out w _ _ k c h)
  have HB:Hid (Below w.heap.size w ((w.alloc (Obj.cells (bytesRow s (grownCap w s.size 0 5)) 5 ((bytesRow s (grownCap w s.size 0 5)).size,(bytesRow s (grownCap w s.size 0 5)).size+1))).drew)):=I (ze w _).drew
  generalize (w.alloc (Obj.cells (bytesRow s (grownCap w s.size 0 5)) 5 ((bytesRow s (grownCap w s.size 0 5)).size,(bytesRow s (grownCap w s.size 0 5)).size+1))).drew= W1 at*
  generalize grownCap w s.size 0 5= cp at*
  clear hcv HC HN
  go_wp2
  go_loopg [15] s.size (fun q x u=>∃ k:Nat,k+q= s.size/\x= .int .i64 k/\u= W1/\zT (s.data.toList.drop k) k= res)
  case atStart=>exact⟨0,by omega,rfl,rfl,H0.out⟩
  case round=>
   obtain⟨k,hk,rfl,rfl,hres⟩:=hrel
   have HR2:=I hres
   clear hres
   cases gk with
   |zero=>
    obtain rfl:k= s.size:=by omega
    have hge: ¬ ((s.size:Int) <(s.size:Int)):=by omega
    have HV:=I (HR2.out.symm.trans (HE.out s.size))
    go_wp2
    go_ret
    exact⟨za (HR.out.trans HV.out).symm,HB.out⟩
   |succ q=>
    have hlt:(k:Int) <(s.size:Int):=by omega
    obtain⟨c,hc⟩:∃ c,s.data.toList[k]?= some c:=⟨_,List.getElem?_eq_getElem (by rw[HL.out];omega)⟩
    have dk:=HCC.out k c hc
    have HKC:=I hc
    clear hc
    by_cases h97:97<=c.toNat
    ·by_cases h122:c.toNat<=122
     ·have d97:decide (97<=c.toNat)= true:=decide_eq_true (by omega)
      have d122:decide (c.toNat<=122)= true:=decide_eq_true (by omega)
      have f97:97<=(c.toNat:Int):=by omega
      have f122:(c.toNat:Int)<=122:=by omega
      have hok:okC k c= true:=by unfold okC;simp only[d97,d122,Bool.and_self,Bool.true_or];try rfl
      have HV:Hid (res= zT (s.data.toList.drop (k+1)) (k+1)):=I (HR2.out.symm.trans ((HS.out k c HKC.out).trans (by rw[hok];exact Bool.true_and _)))
      clear hok
      go_wp2
      go_roundg q
      case measure=>omega
      case rel=>exact⟨k+1,by omega,by go_num,rfl,HV.out.symm⟩
     ·have d97:decide (97<=c.toNat)= true:=decide_eq_true (by omega)
      have d122:decide (c.toNat<=122)= false:=decide_eq_false (by omega)
      have f97:97<=(c.toNat:Int):=by omega
      have f122: ¬ ((c.toNat:Int)<=122):=by omega
      by_cases hk0:k= 0
      ·subst hk0
       have d0:decide ((0:Nat) < 0)= false:=rfl
       have hok:okC 0 c= false:=by unfold okC;simp only[d97,d122,Bool.and_false,Bool.false_or,d0,Bool.false_and,Bool.or_false,Bool.and_false,Bool.true_and];try rfl
       have HV:Hid (res= false):=I (HR2.out.symm.trans ((HS.out 0 c HKC.out).trans (by rw[hok];exact Bool.false_and _)))
       clear hok
       go_wp2
       go_ret
       exact⟨za (HR.out.trans HV.out).symm,HB.out⟩
      ·have d0:decide (0 < k)= true:=decide_eq_true (by omega)
       have k0':0 <(k:Int):=by omega
       by_cases h95:c.toNat= 95
       ·have e1:(c.toNat ==95)= true:=by simpa using h95
        have e1':(c.toNat:Int)= 95:=by omega
        have hok:okC k c= true:=by unfold okC;simp only[d97,d122,Bool.and_false,Bool.false_or,d0,e1,Bool.true_or,Bool.true_and,Bool.and_self,Bool.false_and,Bool.and_false,Bool.false_or];try rfl
        have HV:Hid (res= zT (s.data.toList.drop (k+1)) (k+1)):=I (HR2.out.symm.trans ((HS.out k c HKC.out).trans (by rw[hok];exact Bool.true_and _)))
        clear hok
        go_wp2
        go_roundg q
        case measure=>omega
        case rel=>exact⟨k+1,by omega,by go_num,rfl,HV.out.symm⟩
       ·have e1:(c.toNat ==95)= false:=by simpa using h95
        have e1':((c.toNat:Int) ==95)= false:=by rw[beq_eq_false_iff_ne];omega
        by_cases h48:48<=c.toNat
        ·by_cases h57:c.toNat<=57
         ·have d48:decide (48<=c.toNat)= true:=decide_eq_true (by omega)
          have d57:decide (c.toNat<=57)= true:=decide_eq_true (by omega)
          have f48:48<=(c.toNat:Int):=by omega
          have f57:(c.toNat:Int)<=57:=by omega
          have hok:okC k c= true:=by unfold okC;simp only[d97,d122,Bool.and_false,Bool.false_or,d0,e1,d48,d57,Bool.false_and,Bool.and_false,Bool.false_or,Bool.or_true,Bool.and_self];try rfl
          have HV:Hid (res= zT (s.data.toList.drop (k+1)) (k+1)):=I (HR2.out.symm.trans ((HS.out k c HKC.out).trans (by rw[hok];exact Bool.true_and _)))
          clear hok
          go_wp2
          go_roundg q
          case measure=>omega
          case rel=>exact⟨k+1,by omega,by go_num,rfl,HV.out.symm⟩
         ·have d48:decide (48<=c.toNat)= true:=decide_eq_true (by omega)
          have d57:decide (c.toNat<=57)= false:=decide_eq_false (by omega)
          have f48:48<=(c.toNat:Int):=by omega
          have f57: ¬ ((c.toNat:Int)<=57):=by omega
          have hok:okC k c= false:=by unfold okC;simp only[d97,d122,Bool.and_false,Bool.false_or,d0,e1,d48,d57,Bool.false_and,Bool.and_false,Bool.false_or,Bool.or_self,Bool.and_self];try rfl
          have HV:Hid (res= false):=I (HR2.out.symm.trans ((HS.out k c HKC.out).trans (by rw[hok];exact Bool.false_and _)))
          clear hok
          go_wp2
          go_ret
          exact⟨za (HR.out.trans HV.out).symm,HB.out⟩
        ·have d48:decide (48<=c.toNat)= false:=decide_eq_false (by omega)
         have f48: ¬ (48<=(c.toNat:Int)):=by omega
         have hok:okC k c= false:=by unfold okC;simp only[d97,d122,Bool.and_false,Bool.false_or,d0,e1,d48,Bool.false_and,Bool.and_false,Bool.false_or,Bool.or_self,Bool.and_self];try rfl
         have HV:Hid (res= false):=I (HR2.out.symm.trans ((HS.out k c HKC.out).trans (by rw[hok];exact Bool.false_and _)))
         clear hok
         go_wp2
         go_ret
         exact⟨za (HR.out.trans HV.out).symm,HB.out⟩
    ·have d97:decide (97<=c.toNat)= false:=decide_eq_false (by omega)
     have f97: ¬ (97<=(c.toNat:Int)):=by omega
     by_cases hk0:k= 0
     ·subst hk0
      have d0:decide ((0:Nat) < 0)= false:=rfl
      have hok:okC 0 c= false:=by unfold okC;simp only[d97,Bool.false_and,Bool.false_or,d0,Bool.false_and,Bool.or_false,Bool.and_false,Bool.true_and];try rfl
      have HV:Hid (res= false):=I (HR2.out.symm.trans ((HS.out 0 c HKC.out).trans (by rw[hok];exact Bool.false_and _)))
      clear hok
      go_wp2
      go_ret
      exact⟨za (HR.out.trans HV.out).symm,HB.out⟩
     ·have d0:decide (0 < k)= true:=decide_eq_true (by omega)
      have k0':0 <(k:Int):=by omega
      by_cases h95:c.toNat= 95
      ·have e1:(c.toNat ==95)= true:=by simpa using h95
       have e1':(c.toNat:Int)= 95:=by omega
       have hok:okC k c= true:=by unfold okC;simp only[d97,Bool.false_and,Bool.false_or,d0,e1,Bool.true_or,Bool.true_and,Bool.and_self,Bool.false_and,Bool.and_false,Bool.false_or];try rfl
       have HV:Hid (res= zT (s.data.toList.drop (k+1)) (k+1)):=I (HR2.out.symm.trans ((HS.out k c HKC.out).trans (by rw[hok];exact Bool.true_and _)))
       clear hok
       go_wp2
       go_roundg q
       case measure=>omega
       case rel=>exact⟨k+1,by omega,by go_num,rfl,HV.out.symm⟩
      ·have e1:(c.toNat ==95)= false:=by simpa using h95
       have e1':((c.toNat:Int) ==95)= false:=by rw[beq_eq_false_iff_ne];omega
       by_cases h48:48<=c.toNat
       ·by_cases h57:c.toNat<=57
        ·have d48:decide (48<=c.toNat)= true:=decide_eq_true (by omega)
         have d57:decide (c.toNat<=57)= true:=decide_eq_true (by omega)
         have f48:48<=(c.toNat:Int):=by omega
         have f57:(c.toNat:Int)<=57:=by omega
         have hok:okC k c= true:=by unfold okC;simp only[d97,Bool.false_and,Bool.false_or,d0,e1,d48,d57,Bool.false_and,Bool.and_false,Bool.false_or,Bool.or_true,Bool.and_self];try rfl
         have HV:Hid (res= zT (s.data.toList.drop (k+1)) (k+1)):=I (HR2.out.symm.trans ((HS.out k c HKC.out).trans (by rw[hok];exact Bool.true_and _)))
         clear hok
         go_wp2
         go_roundg q
         case measure=>omega
         case rel=>exact⟨k+1,by omega,by go_num,rfl,HV.out.symm⟩
        ·have d48:decide (48<=c.toNat)= true:=decide_eq_true (by omega)
         have d57:decide (c.toNat<=57)= false:=decide_eq_false (by omega)
         have f48:48<=(c.toNat:Int):=by omega
         have f57: ¬ ((c.toNat:Int)<=57):=by omega
         have hok:okC k c= false:=by unfold okC;simp only[d97,Bool.false_and,Bool.false_or,d0,e1,d48,d57,Bool.false_and,Bool.and_false,Bool.false_or,Bool.or_self,Bool.and_self];try rfl
         have HV:Hid (res= false):=I (HR2.out.symm.trans ((HS.out k c HKC.out).trans (by rw[hok];exact Bool.false_and _)))
         clear hok
         go_wp2
         go_ret
         exact⟨za (HR.out.trans HV.out).symm,HB.out⟩
       ·have d48:decide (48<=c.toNat)= false:=decide_eq_false (by omega)
        have f48: ¬ (48<=(c.toNat:Int)):=by omega
        have hok:okC k c= false:=by unfold okC;simp only[d97,Bool.false_and,Bool.false_or,d0,e1,d48,Bool.false_and,Bool.and_false,Bool.false_or,Bool.or_self,Bool.and_self];try rfl
        have HV:Hid (res= false):=I (HR2.out.symm.trans ((HS.out k c HKC.out).trans (by rw[hok];exact Bool.false_and _)))
        clear hok
        go_wp2
        go_ret
        exact⟨za (HR.out.trans HV.out).symm,HB.out⟩
 ·have t2: ¬ ((s.size:Int)<=30):=by omega
  have HR:Hid (nameB s= false):=I (by rw[HN.out,decide_eq_false h1,Bool.and_false];rfl)
  go_enter Tryz.func146,Tryz.ntmps146
  go_wp2
  go_ret
  exact⟨za HR.out.symm,Below.refl _ w⟩
end
section
open Go Go.RowKit
def bareB (a b c d:Bool) (n:Int) (f:Nat) (s:ByteArray) (ns its:Nat):Bool:=(a || n ==0) && ((b || cmpF f 0 ==0) && ((c || s.toList.isEmpty) && (d ||(ns ==0 && its ==0))))
theorem zb2 (p o:Nat) (k n:Int) (f:Nat) (s:ByteArray) (A D:Option Addr) (ns its ca cd:Nat) (w:World) (hf0:f < 2 ^ 64) (h:w.rangeAt p o [.int .i64 k,.int .i64 n,.float .f64 f,.string s,.slice A ns ca,.slice D its cd]):
  Calls Tryz.prog 102 #[.pointer (some ⟨p,o,none⟩),.bool true,.bool false,.bool false,.bool false] w fun e w'=>e= .returned (.bool (bareB true false false false n f s ns its))/\w'= w:=by
 have d1:=h 1 _ rfl
 have d2:=h 2 _ rfl
 have d3:=h 3 _ rfl
 have d4:=h 4 _ rfl
 have d5:=h 5 _ rfl
 have HFO:=I (fun w=>z0L f 0 hf0 (by decide) w)
 clear h hf0
 by_cases hf:cmpF f 0= 0
 ·have t2:(cmpF f 0 ==0)= true:=by simpa using hf
  by_cases hs:s.toList=[]
  ·have t3:s.toList.isEmpty= true:=by rw[hs];rfl
   by_cases hm:ns= 0
   ·have t4:(ns ==0)= true:=by simpa using hm
    have t4':((ns:Int) ==0)= true:=by rw[hm];rfl
    by_cases hi:its= 0
    ·have t5:(its ==0)= true:=by simpa using hi
     have t5':((its:Int) ==0)= true:=by rw[hi];rfl
     have HR:Hid (bareB true false false false n f s ns its= true):=I (by unfold bareB;simp[t2,t3,t4,t5])
     generalize cmpF f 0= cf at*
     go_enter Tryz.func102,Tryz.ntmps102
     go_wp2_with (go_at_call 145;refine(HFO.out _).mono ?_;rintro e z ⟨rfl,rfl⟩)
     go_ret
     exact⟨za HR.out.symm,rfl⟩
    ·have t5:(its ==0)= false:=by simpa using hi
     have t5':((its:Int) ==0)= false:=by rw[beq_eq_false_iff_ne];omega
     have HR:Hid (bareB true false false false n f s ns its= false):=I (by unfold bareB;simp[t2,t3,t4,t5])
     generalize cmpF f 0= cf at*
     go_enter Tryz.func102,Tryz.ntmps102
     go_wp2_with (go_at_call 145;refine(HFO.out _).mono ?_;rintro e z ⟨rfl,rfl⟩)
     go_ret
     exact⟨za HR.out.symm,rfl⟩
   ·have t4:(ns ==0)= false:=by simpa using hm
    have t4':((ns:Int) ==0)= false:=by rw[beq_eq_false_iff_ne];omega
    have HR:Hid (bareB true false false false n f s ns its= false):=I (by unfold bareB;simp[t2,t3,t4])
    generalize cmpF f 0= cf at*
    go_enter Tryz.func102,Tryz.ntmps102
    go_wp2_with (go_at_call 145;refine(HFO.out _).mono ?_;rintro e z ⟨rfl,rfl⟩)
    go_ret
    exact⟨za HR.out.symm,rfl⟩
  ·have t3:s.toList.isEmpty= false:=by rw[Bool.eq_false_iff];intro h;exact hs (List.isEmpty_iff.1 h)
   have HR:Hid (bareB true false false false n f s ns its= false):=I (by unfold bareB;simp[t2,t3])
   generalize cmpF f 0= cf at*
   go_enter Tryz.func102,Tryz.ntmps102
   go_wp2_with (go_at_call 145;refine(HFO.out _).mono ?_;rintro e z ⟨rfl,rfl⟩)
   go_ret
   exact⟨za HR.out.symm,rfl⟩
 ·have t2:(cmpF f 0 ==0)= false:=by simpa using hf
  have HR:Hid (bareB true false false false n f s ns its= false):=I (by unfold bareB;simp[t2])
  generalize cmpF f 0= cf at*
  go_enter Tryz.func102,Tryz.ntmps102
  go_wp2_with (go_at_call 145;refine(HFO.out _).mono ?_;rintro e z ⟨rfl,rfl⟩)
  go_ret
  exact⟨za HR.out.symm,rfl⟩
theorem zeo (p o:Nat) (k n:Int) (f:Nat) (s:ByteArray) (A D:Option Addr) (ns its ca cd:Nat) (w:World) (hf0:f < 2 ^ 64) (h:w.rangeAt p o [.int .i64 k,.int .i64 n,.float .f64 f,.string s,.slice A ns ca,.slice D its cd]):
  Calls Tryz.prog 102 #[.pointer (some ⟨p,o,none⟩),.bool false,.bool true,.bool false,.bool false] w fun e w'=>e= .returned (.bool (bareB false true false false n f s ns its))/\w'= w:=by
 have d1:=h 1 _ rfl
 have d2:=h 2 _ rfl
 have d3:=h 3 _ rfl
 have d4:=h 4 _ rfl
 have d5:=h 5 _ rfl
 have HFO:=I (fun w=>z0L f 0 hf0 (by decide) w)
 clear h hf0
 by_cases hn:n= 0
 ·have t1:(n ==0)= true:=by simpa using hn
  by_cases hs:s.toList=[]
  ·have t3:s.toList.isEmpty= true:=by rw[hs];rfl
   by_cases hm:ns= 0
   ·have t4:(ns ==0)= true:=by simpa using hm
    have t4':((ns:Int) ==0)= true:=by rw[hm];rfl
    by_cases hi:its= 0
    ·have t5:(its ==0)= true:=by simpa using hi
     have t5':((its:Int) ==0)= true:=by rw[hi];rfl
     have HR:Hid (bareB false true false false n f s ns its= true):=I (by unfold bareB;simp[t1,t3,t4,t5])
     generalize cmpF f 0= cf at*
     go_enter Tryz.func102,Tryz.ntmps102
     go_wp2_with (go_at_call 145;refine(HFO.out _).mono ?_;rintro e z ⟨rfl,rfl⟩)
     go_ret
     exact⟨za HR.out.symm,rfl⟩
    ·have t5:(its ==0)= false:=by simpa using hi
     have t5':((its:Int) ==0)= false:=by rw[beq_eq_false_iff_ne];omega
     have HR:Hid (bareB false true false false n f s ns its= false):=I (by unfold bareB;simp[t1,t3,t4,t5])
     generalize cmpF f 0= cf at*
     go_enter Tryz.func102,Tryz.ntmps102
     go_wp2_with (go_at_call 145;refine(HFO.out _).mono ?_;rintro e z ⟨rfl,rfl⟩)
     go_ret
     exact⟨za HR.out.symm,rfl⟩
   ·have t4:(ns ==0)= false:=by simpa using hm
    have t4':((ns:Int) ==0)= false:=by rw[beq_eq_false_iff_ne];omega
    have HR:Hid (bareB false true false false n f s ns its= false):=I (by unfold bareB;simp[t1,t3,t4])
    generalize cmpF f 0= cf at*
    go_enter Tryz.func102,Tryz.ntmps102
    go_wp2_with (go_at_call 145;refine(HFO.out _).mono ?_;rintro e z ⟨rfl,rfl⟩)
    go_ret
    exact⟨za HR.out.symm,rfl⟩
  ·have t3:s.toList.isEmpty= false:=by rw[Bool.eq_false_iff];intro h;exact hs (List.isEmpty_iff.1 h)
   have HR:Hid (bareB false true false false n f s ns its= false):=I (by unfold bareB;simp[t1,t3])
   generalize cmpF f 0= cf at*
   go_enter Tryz.func102,Tryz.ntmps102
   go_wp2_with (go_at_call 145;refine(HFO.out _).mono ?_;rintro e z ⟨rfl,rfl⟩)
   go_ret
   exact⟨za HR.out.symm,rfl⟩
 ·have t1:(n ==0)= false:=by simpa using hn
  have HR:Hid (bareB false true false false n f s ns its= false):=I (by unfold bareB;simp[t1])
  generalize cmpF f 0= cf at*
  go_enter Tryz.func102,Tryz.ntmps102
  go_wp2_with (go_at_call 145;refine(HFO.out _).mono ?_;rintro e z ⟨rfl,rfl⟩)
  go_ret
  exact⟨za HR.out.symm,rfl⟩
theorem zez (p o:Nat) (k n:Int) (f:Nat) (s:ByteArray) (A D:Option Addr) (ns its ca cd:Nat) (w:World) (hf0:f < 2 ^ 64) (h:w.rangeAt p o [.int .i64 k,.int .i64 n,.float .f64 f,.string s,.slice A ns ca,.slice D its cd]):
  Calls Tryz.prog 102 #[.pointer (some ⟨p,o,none⟩),.bool false,.bool false,.bool true,.bool false] w fun e w'=>e= .returned (.bool (bareB false false true false n f s ns its))/\w'= w:=by
 have d1:=h 1 _ rfl
 have d2:=h 2 _ rfl
 have d3:=h 3 _ rfl
 have d4:=h 4 _ rfl
 have d5:=h 5 _ rfl
 have HFO:=I (fun w=>z0L f 0 hf0 (by decide) w)
 clear h hf0
 by_cases hn:n= 0
 ·have t1:(n ==0)= true:=by simpa using hn
  by_cases hf:cmpF f 0= 0
  ·have t2:(cmpF f 0 ==0)= true:=by simpa using hf
   by_cases hm:ns= 0
   ·have t4:(ns ==0)= true:=by simpa using hm
    have t4':((ns:Int) ==0)= true:=by rw[hm];rfl
    by_cases hi:its= 0
    ·have t5:(its ==0)= true:=by simpa using hi
     have t5':((its:Int) ==0)= true:=by rw[hi];rfl
     have HR:Hid (bareB false false true false n f s ns its= true):=I (by unfold bareB;simp[t1,t2,t4,t5])
     generalize cmpF f 0= cf at*
     go_enter Tryz.func102,Tryz.ntmps102
     go_wp2_with (go_at_call 145;refine(HFO.out _).mono ?_;rintro e z ⟨rfl,rfl⟩)
     go_ret
     exact⟨za HR.out.symm,rfl⟩
    ·have t5:(its ==0)= false:=by simpa using hi
     have t5':((its:Int) ==0)= false:=by rw[beq_eq_false_iff_ne];omega
     have HR:Hid (bareB false false true false n f s ns its= false):=I (by unfold bareB;simp[t1,t2,t4,t5])
     generalize cmpF f 0= cf at*
     go_enter Tryz.func102,Tryz.ntmps102
     go_wp2_with (go_at_call 145;refine(HFO.out _).mono ?_;rintro e z ⟨rfl,rfl⟩)
     go_ret
     exact⟨za HR.out.symm,rfl⟩
   ·have t4:(ns ==0)= false:=by simpa using hm
    have t4':((ns:Int) ==0)= false:=by rw[beq_eq_false_iff_ne];omega
    have HR:Hid (bareB false false true false n f s ns its= false):=I (by unfold bareB;simp[t1,t2,t4])
    generalize cmpF f 0= cf at*
    go_enter Tryz.func102,Tryz.ntmps102
    go_wp2_with (go_at_call 145;refine(HFO.out _).mono ?_;rintro e z ⟨rfl,rfl⟩)
    go_ret
    exact⟨za HR.out.symm,rfl⟩
  ·have t2:(cmpF f 0 ==0)= false:=by simpa using hf
   have HR:Hid (bareB false false true false n f s ns its= false):=I (by unfold bareB;simp[t1,t2])
   generalize cmpF f 0= cf at*
   go_enter Tryz.func102,Tryz.ntmps102
   go_wp2_with (go_at_call 145;refine(HFO.out _).mono ?_;rintro e z ⟨rfl,rfl⟩)
   go_ret
   exact⟨za HR.out.symm,rfl⟩
 ·have t1:(n ==0)= false:=by simpa using hn
  have HR:Hid (bareB false false true false n f s ns its= false):=I (by unfold bareB;simp[t1])
  generalize cmpF f 0= cf at*
  go_enter Tryz.func102,Tryz.ntmps102
  go_wp2_with (go_at_call 145;refine(HFO.out _).mono ?_;rintro e z ⟨rfl,rfl⟩)
  go_ret
  exact⟨za HR.out.symm,rfl⟩
theorem z9Z (p o:Nat) (k n:Int) (f:Nat) (s:ByteArray) (A D:Option Addr) (ns its ca cd:Nat) (w:World) (hf0:f < 2 ^ 64) (h:w.rangeAt p o [.int .i64 k,.int .i64 n,.float .f64 f,.string s,.slice A ns ca,.slice D its cd]):
  Calls Tryz.prog 102 #[.pointer (some ⟨p,o,none⟩),.bool false,.bool false,.bool false,.bool true] w fun e w'=>e= .returned (.bool (bareB false false false true n f s ns its))/\w'= w:=by
 have d1:=h 1 _ rfl
 have d2:=h 2 _ rfl
 have d3:=h 3 _ rfl
 have d4:=h 4 _ rfl
 have d5:=h 5 _ rfl
 have HFO:=I (fun w=>z0L f 0 hf0 (by decide) w)
 clear h hf0
 by_cases hn:n= 0
 ·have t1:(n ==0)= true:=by simpa using hn
  by_cases hf:cmpF f 0= 0
  ·have t2:(cmpF f 0 ==0)= true:=by simpa using hf
   by_cases hs:s.toList=[]
   ·have t3:s.toList.isEmpty= true:=by rw[hs];rfl
    have HR:Hid (bareB false false false true n f s ns its= true):=I (by unfold bareB;simp[t1,t2,t3])
    generalize cmpF f 0= cf at*
    go_enter Tryz.func102,Tryz.ntmps102
    go_wp2_with (go_at_call 145;refine(HFO.out _).mono ?_;rintro e z ⟨rfl,rfl⟩)
    go_ret
    exact⟨za HR.out.symm,rfl⟩
   ·have t3:s.toList.isEmpty= false:=by rw[Bool.eq_false_iff];intro h;exact hs (List.isEmpty_iff.1 h)
    have HR:Hid (bareB false false false true n f s ns its= false):=I (by unfold bareB;simp[t1,t2,t3])
    generalize cmpF f 0= cf at*
    go_enter Tryz.func102,Tryz.ntmps102
    go_wp2_with (go_at_call 145;refine(HFO.out _).mono ?_;rintro e z ⟨rfl,rfl⟩)
    go_ret
    exact⟨za HR.out.symm,rfl⟩
  ·have t2:(cmpF f 0 ==0)= false:=by simpa using hf
   have HR:Hid (bareB false false false true n f s ns its= false):=I (by unfold bareB;simp[t1,t2])
   generalize cmpF f 0= cf at*
   go_enter Tryz.func102,Tryz.ntmps102
   go_wp2_with (go_at_call 145;refine(HFO.out _).mono ?_;rintro e z ⟨rfl,rfl⟩)
   go_ret
   exact⟨za HR.out.symm,rfl⟩
 ·have t1:(n ==0)= false:=by simpa using hn
  have HR:Hid (bareB false false false true n f s ns its= false):=I (by unfold bareB;simp[t1])
  generalize cmpF f 0= cf at*
  go_enter Tryz.func102,Tryz.ntmps102
  go_wp2_with (go_at_call 145;refine(HFO.out _).mono ?_;rintro e z ⟨rfl,rfl⟩)
  go_ret
  exact⟨za HR.out.symm,rfl⟩
def riseB:Option ByteArray->List ByteArray->Bool
 |_,[]=>true
 |none,s::l=>nameB s && riseB (some s) l
 |some p,s::l=>nameB s && (Op.bytesLess p.toList s.toList && riseB (some s) l)
def prevK (l:List ByteArray) (k:Nat):Option ByteArray:=if k= 0 then none else l[k - 1]?
theorem z5F {l:List ByteArray} {s:ByteArray} (h:l[0]?= some s):riseB (prevK l 0) (l.drop 0)=(nameB s && riseB (prevK l 1) (l.drop 1)):=by
 rw[z08 h]
 show(nameB s && riseB (some s) (l.drop 1))= _
 unfold prevK
 simp[h]
theorem z6B {l:List ByteArray} {k:Nat} {p s:ByteArray} (hp:l[k]?= some p) (h:l[k+1]?= some s):riseB (prevK l (k+1)) (l.drop (k+1))=(nameB s && (Op.bytesLess p.toList s.toList && riseB (prevK l (k+2)) (l.drop (k+2)))):=by
 rw[z08 h]
 have h1:prevK l (k+1)= some p:=by unfold prevK;simp[hp]
 have h2:prevK l (k+2)= some s:=by unfold prevK;simp[h]
 rw[h1,h2]
 rfl
theorem z7i {l:List ByteArray}:riseB (prevK l l.length) (l.drop l.length)= true:=by
 rw[List.drop_eq_nil_of_le (Nat.le_refl _)];rw[riseB]
theorem z5v (v:Value) (l:List ByteArray) (w:World) (hv:SlAt w w.heap.size 1 StrR v l):
  Calls Tryz.prog 103 #[v] w fun e w'=>e= .returned (.bool (riseB none l))/\Below w.heap.size w w':=by
 obtain⟨_,A,c,rfl,_⟩:=id hv
 obtain⟨_,hl,ha⟩:=z1l hv
 have HA:=I ha
 have H1:=I (fun s=>z5F (l:=l) (s:=s))
 have H2:=I (fun k p s=>z6B (l:=l) (k:=k) (p:=p) (s:=s))
 have HE:=I (z7i (l:=l))
 have H0:Hid (riseB (prevK l 0) (l.drop 0)= riseB none l):=I rfl
 have hl2:(l.length:Int)<=9223372036854775807:=by omega
 clear ha hv
 generalize riseB none l= res at*
 go_enter Tryz.func103,Tryz.ntmps103
 go_wp2
 go_loopg [7] l.length (fun q x u=>∃ k:Nat,k+q= l.length/\x= .int .i64 k/\Below w.heap.size w u/\riseB (prevK l k) (l.drop k)= res)
 case atStart=>exact⟨0,by omega,rfl,Below.refl _ _,H0.out⟩
 case round=>
  obtain⟨k,hk,rfl,hb,hres⟩:=hrel
  have HR:=I hres
  have HBK:=I hb
  clear hres hb
  cases gk with
  |zero=>
   obtain rfl:k= l.length:=by omega
   have hge: ¬ ((l.length:Int) <(l.length:Int)):=by omega
   have HV:=I (HR.out.symm.trans HE.out)
   clear HR
   go_wp2
   go_ret
   exact⟨za HV.out.symm,HBK.out⟩
  |succ q=>
   have hlt:(k:Int) <(l.length:Int):=by omega
   obtain⟨s,hs⟩:∃ s,l[k]?= some s:=⟨_,List.getElem?_eq_getElem (by omega)⟩
   obtain⟨b,o,rfl,hbl,hc⟩:=HA.out (by omega)
   have HCC:=I (fun i x hx=>(hc i x hx).1)
   have HBL:=I hbl
   have ds:=(HBK.out.cell (p:=⟨b,o+k,none⟩) hbl).trans (hc k s hs).1
   have HNM:=I (z7x s wr)
   have HSK:=I hs
   clear hc hbl hs
   rcases Nat.eq_zero_or_pos k with hk0|hk0
   ·subst hk0
    have ds0:wr.cell? ⟨b,o,none⟩= some (.string s):=ds
    have hlt0:(0:Int) <(l.length:Int):=by omega
    have HV:=I (HR.out.symm.trans (H1.out s HSK.out))
    clear HR
    generalize nameB s= nb at*
    cases nb with
    |false=>
     have HV2:Hid (res= false):=I (HV.out.trans (Bool.false_and _))
     clear HV
     go_wp2_with (go_at_call 146;refine HNM.out.mono ?_;rintro e z ⟨rfl,hbz⟩;have HB3:=I hbz;clear hbz)
     go_ret
     exact⟨za HV2.out.symm,HBK.out.trans (HB3.out.mono HBK.out.size)⟩
    |true=>
     have HV2:=I (HV.out.trans (Bool.true_and _))
     clear HV
     go_wp2_with (go_at_call 146;refine HNM.out.mono ?_;rintro e z ⟨rfl,hbz⟩;have HB3:=I hbz;clear hbz)
     go_roundg q
     case measure=>omega
     case rel=>exact⟨1,by omega,by go_num,HBK.out.trans (HB3.out.mono HBK.out.size),HV2.out.symm⟩
   ·obtain⟨j,rfl⟩:∃ j,k= j+1:=⟨k - 1,by omega⟩
    obtain⟨p,hp⟩:∃ p,l[j]?= some p:=⟨_,List.getElem?_eq_getElem (by omega)⟩
    have HV:=I (HR.out.symm.trans (H2.out j p s hp HSK.out))
    have HDP:=I (HCC.out j p hp)
    have hpos:(0:Int) <((j+1:Nat):Int):=by omega
    have hj2:(j:Int) <(l.length:Int):=by omega
    clear HR hp
    generalize nameB s= nb at*
    cases nb with
    |false=>
     have HV2:Hid (res= false):=I (HV.out.trans (Bool.false_and _))
     clear HV
     go_wp2_with (go_at_call 146;refine HNM.out.mono ?_;rintro e z ⟨rfl,hbz⟩;have HB3:=I hbz;clear hbz)
     go_ret
     exact⟨za HV2.out.symm,HBK.out.trans (HB3.out.mono HBK.out.size)⟩
    |true=>
     have HV2:=I (HV.out.trans (Bool.true_and _))
     clear HV
     cases hlt3:Op.bytesLess p.toList s.toList with
     |false=>
      have HV3:Hid (res= false):=I (HV2.out.trans (by rw[hlt3];exact Bool.false_and _))
      go_wp2_with (go_at_call 146;refine HNM.out.mono ?_;rintro e z ⟨rfl,hbz⟩;have HB3:=I hbz;have dp:=(((HBK.out.trans (hbz.mono HBK.out.size)).cell (p:=⟨b,o+j,none⟩) HBL.out)).trans HDP.out;clear hbz)
      go_ret
      exact⟨za HV3.out.symm,HBK.out.trans (HB3.out.mono HBK.out.size)⟩
     |true=>
      have HV3:=I (HV2.out.trans (by rw[hlt3,Bool.true_and]))
      go_wp2_with (go_at_call 146;refine HNM.out.mono ?_;rintro e z ⟨rfl,hbz⟩;have HB3:=I hbz;have dp:=(((HBK.out.trans (hbz.mono HBK.out.size)).cell (p:=⟨b,o+j,none⟩) HBL.out)).trans HDP.out;clear hbz)
      go_roundg q
      case measure=>omega
      case rel=>exact⟨j+2,by omega,by go_num,HBK.out.trans (HB3.out.mono HBK.out.size),HV3.out.symm⟩
mutual
def cntV:VT->Nat->Nat
 | .mk _ _ _ _ _ its,n=>cntL its (n+1)
def cntL:List VT->Nat->Nat
 |[],n=>n
 |a::l,n=>if 500<=n then n else cntL l (cntV a n)
end
theorem z8T:∀ (l:List VT) (n:Nat),(∀ x∈l,∀ m,m < 500->cntV x m<=500)->n<=500->cntL l n<=500
 |[],n,_,h=>by rw[cntL];exact h
 |a::l,n,h,hn=>by
  rw[cntL]
  split
  ·exact hn
  ·exact z8T l _ (fun x hx=>h x (List.mem_cons_of_mem _ hx)) (h a (List.mem_cons_self ..) n (by omega))
theorem z8W (t:VT):∀ m,m < 500->cntV t m<=500:=by
 induction t using VT.ind with
 |h k n f s ns its ih=>exact fun m hm=>by rw[cntV];exact z8T its _ ih (by omega)
theorem z6f {l:List VT} {k m:Nat} {x:VT} (h:l[k]?= some x):cntL (l.drop k) m= if 500<=m then m else cntL (l.drop (k+1)) (cntV x m):=by
 rw[z08 h,cntL]
theorem z84 {l:List VT} {m:Nat}:cntL (l.drop l.length) m= m:=by
 rw[List.drop_eq_nil_of_le (Nat.le_refl _),cntL]
theorem z8J:∀ (t:VT) (m:Nat) (cs:List Value) (p o:Nat) (w:World),m < 500->w.rangeAt p o cs->ValAt w w.heap.size cs t->
  Calls Tryz.prog 101 #[.pointer (some ⟨p,o,none⟩),.int .i64 m] w fun e w'=>e= .returned (.int .i64 (cntV t m:Nat))/\w'= w:=by
 intro t
 induction t using VT.ind with
 |h k n f s ns its ih=>
  intro m cs p o w hm hr hv
  have IH:=I ih
  obtain⟨vn,vi,rfl,_,_,_,_,_,_,hi⟩:=hv.inv
  obtain⟨A,c,rfl,hil,hA⟩:=z0F hi
  have HA:=I hA
  have d5:=hr 5 _ rfl
  have HS:=I (fun k m x=>z6f (l:=its) (k:=k) (m:=m) (x:=x))
  have HE:=I (fun m=>z84 (l:=its) (m:=m))
  have HLE:=I (fun x m hm=>z8W x m hm)
  have H0:Hid (cntL (its.drop 0) (m+1)= cntV (.mk k n f s ns its) m):=I (by rw[cntV];rfl)
  have hm2:(m:Int) < 500:=by omega
  clear ih hi hA hr hv
  generalize cntV (.mk k n f s ns its) m= res at*
  go_enter Tryz.func101,Tryz.ntmps101
  go_wp2
  go_loopg [1,13] its.length (fun q n x u=>∃ (j m:Nat),j+q= its.length/\x= .int .i64 j/\n= .int .i64 m/\m<=500/\u= w/\cntL (its.drop j) m= res)
  case atStart=>exact⟨0,m+1,by omega,rfl,by go_num,by omega,rfl,H0.out⟩
  case round=>
   obtain⟨j,m,hj,rfl,rfl,hm5,rfl,hres⟩:=hrel
   have HR:=I hres
   clear hres
   cases gk with
   |zero=>
    obtain rfl:j= its.length:=by omega
    have hge: ¬ ((its.length:Int) <(its.length:Int)):=by omega
    have HV:=I (HR.out.symm.trans (HE.out m))
    go_wp2
    go_ret
    exact⟨by rw[HV.out];rfl,rfl⟩
   |succ q=>
    have hlt:(j:Int) <(its.length:Int):=by omega
    obtain⟨x,hx⟩:∃ x,its[j]?= some x:=⟨_,List.getElem?_eq_getElem (by omega)⟩
    obtain⟨b,o',rfl,hbl,hc⟩:=HA.out (by omega)
    obtain⟨ks,hks,hvx⟩:=hc j x hx
    have HV:=I (HR.out.symm.trans (HS.out j m x hx))
    by_cases h5:500<=m
    ·have HV2:=I (HV.out.trans (if_pos h5))
     have t1:(500:Int)<=(m:Int):=by omega
     clear hc hks hvx hx HV
     go_wp2
     go_ret
     exact⟨by rw[HV2.out];rfl,rfl⟩
    ·have HV2:=I (HV.out.trans (if_neg h5))
     have t1: ¬ ((500:Int)<=(m:Int)):=by omega
     have HC:=I (IH.out x (List.mem_of_getElem? hx) m ks b (o'+j*6) wr (by omega) hks hvx)
     have hle:=HLE.out x m (by omega)
     clear hc hks hvx hx HV h5
     go_wp2_with (go_at_call 101;refine HC.out.mono ?_;rintro e z ⟨rfl,rfl⟩)
     go_roundg q
     case measure=>omega
     case rel=>exact⟨j+1,_,by omega,by go_num,rfl,hle,rfl,HV2.out.symm⟩
theorem zaf (t:VT) (cs:List Value) (w:World) (hv:ValAt w w.heap.size cs t):Calls Tryz.prog 58 #[.agg ⟨cs⟩] w fun e w'=>e= .returned (.int .i64 (cntV t 0:Nat))/\Below w.heap.size w w':=by
 have HB1:=I (ze w (.cells ⟨cs⟩ 26))
 have HC:=I (z8J t 0 cs w.heap.size 0 (w.alloc (.cells ⟨cs⟩ 26)) (by decide) (zq w cs 26) (hv.next HB1.out))
 go_enter Tryz.func58,Tryz.ntmps58
 go_wp2_with (go_at_call 101;refine HC.out.mono ?_;rintro e z ⟨rfl,rfl⟩)
 go_ret
 exact⟨rfl,HB1.out⟩
end
section
open Go Go.RowKit
theorem z6S (f:Nat):cmpF f 0= 0↔f= 0:=by
 constructor
 ·intro h
  have h0:nanB 0= false:=by decide +kernel
  unfold cmpF at h
  rw[h0] at h
  by_cases hn:nanB f= true
  ·rw[hn] at h;simp at h
  ·have hn':nanB f= false:=by simpa using hn
   rw[hn'] at h
   simp only[ne_eq,not_true_eq_false,if_false,Bool.false_eq_true] at h
   by_cases hf:f= 0
   ·exact hf
   ·exfalso
    have hr0:rankZ 0= 0:=by unfold rankZ;simp
    rw[hr0] at h
    rcases hord:fOrd f 0 with _|o
    ·unfold nanB at hn'
     rw[z2K] at hord hn'
     have ha:nanD (dat f)= 0:=by
      rw[z0P] at*
      by_cases hd:nanD (dat f)= 0
      ·exact hd
      ·rw[z1M _ _ (.inl hd)] at hn';simp at hn'
     have hb:nanD (dat 0)= 0:=by have:=z0P 0;rw[h0] at this;simpa using this.symm
     obtain⟨h1,h2,h3⟩:=z1P (dat f) (dat 0) (z0Z f) (z0Z 0) ha hb
     have h4:=z7e (dat f) (dat 0)
     rw[hord] at h1 h2 h3
     simp at h1 h2 h3
     omega
    ·have hz:rankZ f= if(fOrd f 0 ==some .eq)= true then -1 else 0:=by unfold rankZ;simp[hf]
     rw[hord] at h hz
     cases o
     ·simp at h
     ·simp at hz;rw[hz] at h;simp at h
     ·simp at h
 ·rintro rfl
  exact cmpF_good.refl 0
def nanR (f:Nat):Bool:=decide (18437736874454810624 < IntKind.u64.wrap ((f:Int) *2))
theorem z3j (f:Nat) (hf:f < 2 ^ 64) (w:World):Calls Tryz.prog 138 #[.float .f64 f] w fun e w'=>e= .returned (.bool (nanR f))/\w'= w:=by
 have e1:∀ W:World,(callFunc 166 #[.float .f64 f]).run Tryz.prog W= .ok (.value (.int .u64 f)) W:=fun W=>by
  rw[run_callFunc_extern Tryz.func166 (by kernel_rfl) (by kernel_rfl) (by kernel_rfl) (e:=Extern.MathFloatBits.float64bits) (by kernel_rfl)]
  rfl
 go_enter Tryz.func138,Tryz.ntmps138
 go_wp2
 go_ret
 exact⟨rfl,rfl⟩
def canR (f:Nat):Nat:=if nanR f= true then 9221120237041090560 else f
theorem z4n (f:Nat) (hf:f < 2 ^ 64) (w:World):Calls Tryz.prog 125 #[.float .f64 f] w fun e w'=>e= .returned (.float .f64 (canR f))/\w'= w:=by
 have e1:∀ W:World,(callFunc 149 #[.int .u64 9221120237041090560]).run Tryz.prog W= .ok (.value (.float .f64 9221120237041090560)) W:=fun W=>by
  rw[run_callFunc_extern Tryz.func149 (by kernel_rfl) (by kernel_rfl) (by kernel_rfl) (e:=Extern.MathFloatBits.float64frombits) (by kernel_rfl)]
  rfl
 have HC:=I (fun w=>z3j f hf w)
 clear hf
 cases hn:nanR f with
 |true=>
  have HV:Hid (canR f= 9221120237041090560):=I (if_pos hn)
  rw[hn] at HC
  clear hn
  go_enter Tryz.func125,Tryz.ntmps125
  go_wp2_with (go_at_call 138;refine(HC.out _).mono ?_;rintro e z ⟨rfl,rfl⟩)
  go_ret
  exact⟨congrArg (fun x=>Ending.returned (.float .f64 x)) HV.out.symm,rfl⟩
 |false=>
  have HV:Hid (canR f= f):=I (if_neg (by rw[hn];decide))
  rw[hn] at HC
  clear hn
  go_enter Tryz.func125,Tryz.ntmps125
  go_wp2_with (go_at_call 138;refine(HC.out _).mono ?_;rintro e z ⟨rfl,rfl⟩)
  go_ret
  exact⟨congrArg (fun x=>Ending.returned (.float .f64 x)) HV.out.symm,rfl⟩
theorem z7z {f:Nat}:canR f= 0↔f= 0:=by
 unfold canR
 split
 ·next h=>
  constructor
  ·intro h2;omega
  ·rintro rfl;revert h;decide +kernel
 ·exact Iff.rfl
theorem z5c (f:Nat) (hf:f < 2 ^ 64) (w:World):Calls Tryz.prog 137 #[.float .f64 f,.float .f64 0] w fun e w'=>e= .returned (.bool (cmpF f 0 ==0))/\w'= w:=by
 have HC:=I (fun w=>z4n f hf w)
 have HZ:=I (fun w=>z4n 0 (by decide) w)
 have hz:canR 0= 0:=z7z.2 rfl
 rw[hz] at HZ
 have HV:Hid ((cmpF f 0 ==0)=((canR f:Int) ==0)):=I (by
  have h1:=z6S f
  have h2:=z7z (f:=f)
  by_cases h:f= 0
  ·rw[h1.2 h,h2.2 h];rfl
  ·rw[beq_eq_false_iff_ne.2 fun h3=>h (h1.1 h3),beq_eq_false_iff_ne.2]
   intro h3;exact h (h2.1 (by omega)))
 clear hz hf
 generalize canR f= g at*
 have e1:∀ W:World,(callFunc 166 #[.float .f64 g]).run Tryz.prog W= .ok (.value (.int .u64 g)) W:=fun W=>by
  rw[run_callFunc_extern Tryz.func166 (by kernel_rfl) (by kernel_rfl) (by kernel_rfl) (e:=Extern.MathFloatBits.float64bits) (by kernel_rfl)]
  rfl
 have e2:∀ W:World,(callFunc 166 #[.float .f64 0]).run Tryz.prog W= .ok (.value (.int .u64 0)) W:=fun W=>by
  rw[run_callFunc_extern Tryz.func166 (by kernel_rfl) (by kernel_rfl) (by kernel_rfl) (e:=Extern.MathFloatBits.float64bits) (by kernel_rfl)]
  rfl
 go_enter Tryz.func137,Tryz.ntmps137
 go_wp2_with (first|(go_at_call 125;refine(HC.out _).mono ?_;rintro e z ⟨rfl,rfl⟩)|(go_at_call 125;refine(HZ.out _).mono ?_;rintro e z ⟨rfl,rfl⟩))
 go_ret
 exact⟨za HV.out.symm,rfl⟩
theorem za3 (k n:Int) (f:Nat) (s:ByteArray) (vn vi:Value) (hf:f < 2 ^ 64) (w:World):Calls Tryz.prog 86 #[.agg ⟨[.int .i64 k,.int .i64 n,.float .f64 f,.string s,vn,vi]⟩] w fun e w'=>e= .returned (.bool (cmpF f 0 ==0))/\Below w.heap.size w w':=by
 have HC:=I (fun w=>z5c f hf w)
 have HB1:=I (ze w (.cells ⟨[.int .i64 k,.int .i64 n,.float .f64 f,.string s,vn,vi]⟩ 26))
 clear hf
 go_enter Tryz.func86,Tryz.ntmps86
 go_wp2_with (go_at_call 137;refine(HC.out _).mono ?_;rintro e z ⟨rfl,rfl⟩)
 go_ret
 exact⟨rfl,HB1.out⟩
end
end Go.Proofs.YtmpbepjjbaeebaaGreatDoor
