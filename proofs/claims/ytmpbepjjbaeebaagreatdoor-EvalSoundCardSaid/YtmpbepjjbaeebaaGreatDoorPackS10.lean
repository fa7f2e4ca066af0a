/- Parts of a proof: VName, VBare, VRight, CanonP, R03, RName, RRight. -/
import Derived.Laws.IdiomStrings
import Derived.Test.YtmpbepjjbaeebaaGreatDoorPackS9
set_option maxHeartbeats 8000000
set_option maxRecDepth 100000
set_option linter.unusedVariables false
set_option linter.unusedSimpArgs false
namespace Go.Proofs.YtmpbepjjbaeebaaGreatDoor
section
open Go Go.RowKit
def okC (i:Nat) (c:UInt8):Bool:=(decide (97<=c.toNat) && decide (c.toNat<=122)) ||(decide (0 < i) && (c.toNat ==95 ||(decide (48<=c.toNat) && decide (c.toNat<=57))))
def zW:List UInt8->Nat->Bool
 |[],_=>true
 |c::l,i=>okC i c && zW l (i+1)
def nameB (s:ByteArray):Bool:=decide (0 < s.size) && decide (s.size<=30) && zW s.data.toList 0
theorem zbo (w:World) (C:Array Value) (T:TypeId) (fz:Nat × Nat) (i:Nat):(w.alloc (.cells C T fz)).cell? ⟨w.heap.size,i,none⟩= C[i]?:=by
 exact cell_of_row _ w.heap.size i C T fz (heap_alloc_new w _)
theorem z4L (s:ByteArray) (n k:Nat) {c:UInt8} (h:s.data.toList[k]?= some c):(bytesRow s n)[k]?= some (.int .u8 c.toNat):=by
 have h1:k < s.data.size:=by have:=(List.getElem?_eq_some_iff.1 h).1;simpa using this
 unfold bytesRow
 rw[Array.getElem?_append_left (by simpa using h1),Array.getElem?_map]
 have h2:s.data[k]?= some c:=by simpa using h
 rw[h2];rfl
theorem z4y {l:List UInt8} {k:Nat} {c:UInt8} (h:l[k]?= some c):zW (l.drop k) k=(okC k c && zW (l.drop (k+1)) (k+1)):=by
 rw[z0e h];rfl
theorem z7g (s:ByteArray) (w:World):Calls Tryz.prog 146 #[.string s] w fun e w'=>e= .returned (.bool (nameB s))/\Below w.heap.size w w':=by
 have HN:Hid (nameB s=(decide (0 < s.size) && decide (s.size<=30) && zW s.data.toList 0)):=I rfl
 have HL:Hid (s.data.toList.length= s.size):=I (by cases s;rfl)
 by_cases h0:s.size= 0
 ·have hl:s.data.toList=[]:=List.eq_nil_of_length_eq_zero (by rw[HL.o,h0])
  have t0:s.toList=[]:=by rw[toList_eq,hl]
  have t1:s.toList.isEmpty= true:=by rw[t0];rfl
  have HR:Hid (nameB s= false):=I (by rw[HN.o,h0];rfl)
  clear hl h0
  go_enter Tryz.func146,Tryz.ntmps146
  go_wp2
  go_ret
  exact⟨z7 HR.o.symm,Below.refl _ w⟩
 have t0: ¬ s.toList=[]:=fun h=>h0 (by rw[← HL.o,← toList_eq,h];rfl)
 have t1:s.toList.isEmpty= false:=by rw[Bool.eq_false_iff];intro h;exact t0 (List.isEmpty_iff.1 h)
 by_cases h1:s.size<=30
 ·have t2:(s.size:Int)<=30:=by omega
  have HR:Hid (nameB s= zW s.data.toList 0):=I (by rw[HN.o,decide_eq_true (by omega),decide_eq_true h1];rfl)
  have hcv:∀ W:World,(convert 9 164 (.string s)).run Tryz.prog W= .ok (.slice (some ⟨W.heap.size,0,none⟩) s.size (grownCap W s.size 0 5)) (W.drew.alloc (.cells (bytesRow s (grownCap W s.size 0 5)) 5 ((bytesRow s (grownCap W s.size 0 5)).size,(bytesRow s (grownCap W s.size 0 5)).size+1))):=fun W=>run_bytes_of_string W _ _ _ s Tryz.underlying9 Tryz.underlying164 Tryz.underlying5
  have HC:=I (fun(W:World) (n:Nat) fz (k:Nat) (c:UInt8) (h:s.data.toList[k]?= some c)=>(zbo W (bytesRow s n) 5 fz k).trans (z4L s n k h))
  have HS:=I (fun k c=>z4y (l:=s.data.toList) (k:=k) (c:=c))
  have HE:Hid (∀ k,zW (s.data.toList.drop s.size) k= true):=I fun k=>by rw[List.drop_eq_nil_of_le (by rw[HL.o];exact Nat.le_refl _)];rfl
  have H0:Hid (zW (s.data.toList.drop 0) 0= zW s.data.toList 0):=I rfl
  generalize zW s.data.toList 0= res at*
  go_enter Tryz.func146,Tryz.ntmps146
  go_upto_region 4 with (fail)
  have HCC:Hid (∀ (k:Nat) c,s.data.toList[k]?= some c->((w.alloc (Obj.cells (bytesRow s (grownCap w s.size 0 5)) 5 ((bytesRow s (grownCap w s.size 0 5)).size,(bytesRow s (grownCap w s.size 0 5)).size+1))).drew).cell? ⟨w.heap.size,k,none⟩= some (.int .u8 c.toNat)):=I (fun k c h=>HC.o w _ _ k c h)
  have HB:Hid (Below w.heap.size w ((w.alloc (Obj.cells (bytesRow s (grownCap w s.size 0 5)) 5 ((bytesRow s (grownCap w s.size 0 5)).size,(bytesRow s (grownCap w s.size 0 5)).size+1))).drew)):=I (zd w _).drew
  generalize (w.alloc (Obj.cells (bytesRow s (grownCap w s.size 0 5)) 5 ((bytesRow s (grownCap w s.size 0 5)).size,(bytesRow s (grownCap w s.size 0 5)).size+1))).drew= W1 at*
  generalize grownCap w s.size 0 5= cp at*
  clear hcv HC HN
  go_wp2
  go_loopg [15] s.size (fun q x u=>∃ k:Nat,k+q= s.size/\x= .int .i64 k/\u= W1/\zW (s.data.toList.drop k) k= res)
  case atStart=>exact⟨0,by omega,rfl,rfl,H0.o⟩
  case round=>
   obtain⟨k,hk,rfl,rfl,hres⟩:=hrel
   have HR2:=I hres
   clear hres
   cases gk with
   |zero=>
    obtain rfl:k= s.size:=by omega
    have hge: ¬ ((s.size:Int) <(s.size:Int)):=by omega
    have HV:=I (HR2.o.symm.trans (HE.o s.size))
    go_wp2
    go_ret
    exact⟨z7 (HR.o.trans HV.o).symm,HB.o⟩
   |succ q=>
    have hlt:(k:Int) <(s.size:Int):=by omega
    obtain⟨c,hc⟩:∃ c,s.data.toList[k]?= some c:=⟨_,List.getElem?_eq_getElem (by rw[HL.o];omega)⟩
    have dk:=HCC.o k c hc
    have HKC:=I hc
    clear hc
    by_cases h97:97<=c.toNat
    ·by_cases h122:c.toNat<=122
     ·have d97:decide (97<=c.toNat)= true:=decide_eq_true (by omega)
      have d122:decide (c.toNat<=122)= true:=decide_eq_true (by omega)
      have f97:97<=(c.toNat:Int):=by omega
      have f122:(c.toNat:Int)<=122:=by omega
      have hok:okC k c= true:=by unfold okC;simp only[d97,d122,Bool.and_self,Bool.true_or];try rfl
      have HV:Hid (res= zW (s.data.toList.drop (k+1)) (k+1)):=I (HR2.o.symm.trans ((HS.o k c HKC.o).trans (by rw[hok];exact Bool.true_and _)))
      clear hok
      go_wp2
      go_roundg q
      case measure=>omega
      case rel=>exact⟨k+1,by omega,by go_num,rfl,HV.o.symm⟩
     ·have d97:decide (97<=c.toNat)= true:=decide_eq_true (by omega)
      have d122:decide (c.toNat<=122)= false:=decide_eq_false (by omega)
      have f97:97<=(c.toNat:Int):=by omega
      have f122: ¬ ((c.toNat:Int)<=122):=by omega
      by_cases hk0:k= 0
      ·subst hk0
       have d0:decide ((0:Nat) < 0)= false:=rfl
       have hok:okC 0 c= false:=by unfold okC;simp only[d97,d122,Bool.and_false,Bool.false_or,d0,Bool.false_and,Bool.or_false,Bool.and_false,Bool.true_and];try rfl
       have HV:Hid (res= false):=I (HR2.o.symm.trans ((HS.o 0 c HKC.o).trans (by rw[hok];exact Bool.false_and _)))
       clear hok
       go_wp2
       go_ret
       exact⟨z7 (HR.o.trans HV.o).symm,HB.o⟩
      ·have d0:decide (0 < k)= true:=decide_eq_true (by omega)
       have k0':0 <(k:Int):=by omega
       by_cases h95:c.toNat= 95
       ·have e1:(c.toNat ==95)= true:=by simpa using h95
        have e1':(c.toNat:Int)= 95:=by omega
        have hok:okC k c= true:=by unfold okC;simp only[d97,d122,Bool.and_false,Bool.false_or,d0,e1,Bool.true_or,Bool.true_and,Bool.and_self,Bool.false_and,Bool.and_false,Bool.false_or];try rfl
        have HV:Hid (res= zW (s.data.toList.drop (k+1)) (k+1)):=I (HR2.o.symm.trans ((HS.o k c HKC.o).trans (by rw[hok];exact Bool.true_and _)))
        clear hok
        go_wp2
        go_roundg q
        case measure=>omega
        case rel=>exact⟨k+1,by omega,by go_num,rfl,HV.o.symm⟩
       ·have e1:(c.toNat ==95)= false:=by simpa using h95
        have e1':((c.toNat:Int) ==95)= false:=by rw[beq_eq_false_iff_ne];omega
        by_cases h48:48<=c.toNat
        ·by_cases h57:c.toNat<=57
         ·have d48:decide (48<=c.toNat)= true:=decide_eq_true (by omega)
          have d57:decide (c.toNat<=57)= true:=decide_eq_true (by omega)
          have f48:48<=(c.toNat:Int):=by omega
          have f57:(c.toNat:Int)<=57:=by omega
          have hok:okC k c= true:=by unfold okC;simp only[d97,d122,Bool.and_false,Bool.false_or,d0,e1,d48,d57,Bool.false_and,Bool.and_false,Bool.false_or,Bool.or_true,Bool.and_self];try rfl
          have HV:Hid (res= zW (s.data.toList.drop (k+1)) (k+1)):=I (HR2.o.symm.trans ((HS.o k c HKC.o).trans (by rw[hok];exact Bool.true_and _)))
          clear hok
          go_wp2
          go_roundg q
          case measure=>omega
          case rel=>exact⟨k+1,by omega,by go_num,rfl,HV.o.symm⟩
         ·have d48:decide (48<=c.toNat)= true:=decide_eq_true (by omega)
          have d57:decide (c.toNat<=57)= false:=decide_eq_false (by omega)
          have f48:48<=(c.toNat:Int):=by omega
          have f57: ¬ ((c.toNat:Int)<=57):=by omega
          have hok:okC k c= false:=by unfold okC;simp only[d97,d122,Bool.and_false,Bool.false_or,d0,e1,d48,d57,Bool.false_and,Bool.and_false,Bool.false_or,Bool.or_self,Bool.and_self];try rfl
          have HV:Hid (res= false):=I (HR2.o.symm.trans ((HS.o k c HKC.o).trans (by rw[hok];exact Bool.false_and _)))
          clear hok
          go_wp2
          go_ret
          exact⟨z7 (HR.o.trans HV.o).symm,HB.o⟩
        ·have d48:decide (48<=c.toNat)= false:=decide_eq_false (by omega)
         have f48: ¬ (48<=(c.toNat:Int)):=by omega
         have hok:okC k c= false:=by unfold okC;simp only[d97,d122,Bool.and_false,Bool.false_or,d0,e1,d48,Bool.false_and,Bool.and_false,Bool.false_or,Bool.or_self,Bool.and_self];try rfl
         have HV:Hid (res= false):=I (HR2.o.symm.trans ((HS.o k c HKC.o).trans (by rw[hok];exact Bool.false_and _)))
         clear hok
         go_wp2
         go_ret
         exact⟨z7 (HR.o.trans HV.o).symm,HB.o⟩
    ·have d97:decide (97<=c.toNat)= false:=decide_eq_false (by omega)
     have f97: ¬ (97<=(c.toNat:Int)):=by omega
     by_cases hk0:k= 0
     ·subst hk0
      have d0:decide ((0:Nat) < 0)= false:=rfl
      have hok:okC 0 c= false:=by unfold okC;simp only[d97,Bool.false_and,Bool.false_or,d0,Bool.false_and,Bool.or_false,Bool.and_false,Bool.true_and];try rfl
      have HV:Hid (res= false):=I (HR2.o.symm.trans ((HS.o 0 c HKC.o).trans (by rw[hok];exact Bool.false_and _)))
      clear hok
      go_wp2
      go_ret
      exact⟨z7 (HR.o.trans HV.o).symm,HB.o⟩
     ·have d0:decide (0 < k)= true:=decide_eq_true (by omega)
      have k0':0 <(k:Int):=by omega
      by_cases h95:c.toNat= 95
      ·have e1:(c.toNat ==95)= true:=by simpa using h95
       have e1':(c.toNat:Int)= 95:=by omega
       have hok:okC k c= true:=by unfold okC;simp only[d97,Bool.false_and,Bool.false_or,d0,e1,Bool.true_or,Bool.true_and,Bool.and_self,Bool.false_and,Bool.and_false,Bool.false_or];try rfl
       have HV:Hid (res= zW (s.data.toList.drop (k+1)) (k+1)):=I (HR2.o.symm.trans ((HS.o k c HKC.o).trans (by rw[hok];exact Bool.true_and _)))
       clear hok
       go_wp2
       go_roundg q
       case measure=>omega
       case rel=>exact⟨k+1,by omega,by go_num,rfl,HV.o.symm⟩
      ·have e1:(c.toNat ==95)= false:=by simpa using h95
       have e1':((c.toNat:Int) ==95)= false:=by rw[beq_eq_false_iff_ne];omega
       by_cases h48:48<=c.toNat
       ·by_cases h57:c.toNat<=57
        ·have d48:decide (48<=c.toNat)= true:=decide_eq_true (by omega)
         have d57:decide (c.toNat<=57)= true:=decide_eq_true (by omega)
         have f48:48<=(c.toNat:Int):=by omega
         have f57:(c.toNat:Int)<=57:=by omega
         have hok:okC k c= true:=by unfold okC;simp only[d97,Bool.false_and,Bool.false_or,d0,e1,d48,d57,Bool.false_and,Bool.and_false,Bool.false_or,Bool.or_true,Bool.and_self];try rfl
         have HV:Hid (res= zW (s.data.toList.drop (k+1)) (k+1)):=I (HR2.o.symm.trans ((HS.o k c HKC.o).trans (by rw[hok];exact Bool.true_and _)))
         clear hok
         go_wp2
         go_roundg q
         case measure=>omega
         case rel=>exact⟨k+1,by omega,by go_num,rfl,HV.o.symm⟩
        ·have d48:decide (48<=c.toNat)= true:=decide_eq_true (by omega)
         have d57:decide (c.toNat<=57)= false:=decide_eq_false (by omega)
         have f48:48<=(c.toNat:Int):=by omega
         have f57: ¬ ((c.toNat:Int)<=57):=by omega
         have hok:okC k c= false:=by unfold okC;simp only[d97,Bool.false_and,Bool.false_or,d0,e1,d48,d57,Bool.false_and,Bool.and_false,Bool.false_or,Bool.or_self,Bool.and_self];try rfl
         have HV:Hid (res= false):=I (HR2.o.symm.trans ((HS.o k c HKC.o).trans (by rw[hok];exact Bool.false_and _)))
         clear hok
         go_wp2
         go_ret
         exact⟨z7 (HR.o.trans HV.o).symm,HB.o⟩
       ·have d48:decide (48<=c.toNat)= false:=decide_eq_false (by omega)
        have f48: ¬ (48<=(c.toNat:Int)):=by omega
        have hok:okC k c= false:=by unfold okC;simp only[d97,Bool.false_and,Bool.false_or,d0,e1,d48,Bool.false_and,Bool.and_false,Bool.false_or,Bool.or_self,Bool.and_self];try rfl
        have HV:Hid (res= false):=I (HR2.o.symm.trans ((HS.o k c HKC.o).trans (by rw[hok];exact Bool.false_and _)))
        clear hok
        go_wp2
        go_ret
        exact⟨z7 (HR.o.trans HV.o).symm,HB.o⟩
 ·have t2: ¬ ((s.size:Int)<=30):=by omega
  have HR:Hid (nameB s= false):=I (by rw[HN.o,decide_eq_false h1,Bool.and_false];rfl)
  go_enter Tryz.func146,Tryz.ntmps146
  go_wp2
  go_ret
  exact⟨z7 HR.o.symm,Below.refl _ w⟩
end
section
open Go Go.RowKit
def bareB (a b c d:Bool) (n:Int) (f:Nat) (s:ByteArray) (ns its:Nat):Bool:=(a || n ==0) && ((b || cmpF f 0 ==0) && ((c || s.toList.isEmpty) && (d ||(ns ==0 && its ==0))))
theorem zas (p o:Nat) (k n:Int) (f:Nat) (s:ByteArray) (A D:Option Addr) (ns its ca cd:Nat) (w:World) (hf0:f < 2 ^ 64) (h:w.rangeAt p o [.int .i64 k,.int .i64 n,.float .f64 f,.string s,.slice A ns ca,.slice D its cd]):
  Calls Tryz.prog 102 #[.pointer (some ⟨p,o,none⟩),.bool true,.bool false,.bool false,.bool false] w fun e w'=>e= .returned (.bool (bareB true false false false n f s ns its))/\w'= w:=by
 have d1:=h 1 _ rfl
 have d2:=h 2 _ rfl
 have d3:=h 3 _ rfl
 have d4:=h 4 _ rfl
 have d5:=h 5 _ rfl
 have HFO:=I (fun w=>z11 f 0 hf0 (by decide) w)
 clear h hf0
 by_cases hf:cmpF f 0= 0
 ·have t2:(cmpF f 0 ==0)= true:=by simpa using hf
  by_cases hs:s.toList=[]
  ·have t3:s.toList.isEmpty= true:=by rw[hs];rfl
   by_cases hm:ns= 0
   ·have t4:(ns ==0)= true:=by simpa using hm
    have t4':((ns:Int) ==0)= true:=by rw[hm];rfl
    by_cases hi:its= 0
    ·have t5:(its ==0)= true:=by simpa using hi
     have t5':((its:Int) ==0)= true:=by rw[hi];rfl
     have HR:Hid (bareB true false false false n f s ns its= true):=I (by unfold bareB;simp[t2,t3,t4,t5])
     generalize cmpF f 0= cf at*
     go_enter Tryz.func102,Tryz.ntmps102
     go_wp2_with (go_at_call 145;refine(HFO.o _).mono ?_;rintro e z ⟨rfl,rfl⟩)
     go_ret
     exact⟨z7 HR.o.symm,rfl⟩
    ·have t5:(its ==0)= false:=by simpa using hi
     have t5':((its:Int) ==0)= false:=by rw[beq_eq_false_iff_ne];omega
     have HR:Hid (bareB true false false false n f s ns its= false):=I (by unfold bareB;simp[t2,t3,t4,t5])
     generalize cmpF f 0= cf at*
     go_enter Tryz.func102,Tryz.ntmps102
     go_wp2_with (go_at_call 145;refine(HFO.o _).mono ?_;rintro e z ⟨rfl,rfl⟩)
     go_ret
     exact⟨z7 HR.o.symm,rfl⟩
   ·have t4:(ns ==0)= false:=by simpa using hm
    have t4':((ns:Int) ==0)= false:=by rw[beq_eq_false_iff_ne];omega
    have HR:Hid (bareB true false false false n f s ns its= false):=I (by unfold bareB;simp[t2,t3,t4])
    generalize cmpF f 0= cf at*
    go_enter Tryz.func102,Tryz.ntmps102
    go_wp2_with (go_at_call 145;refine(HFO.o _).mono ?_;rintro e z ⟨rfl,rfl⟩)
    go_ret
    exact⟨z7 HR.o.symm,rfl⟩
  ·have t3:s.toList.isEmpty= false:=by rw[Bool.eq_false_iff];intro h;exact hs (List.isEmpty_iff.1 h)
   have HR:Hid (bareB true false false false n f s ns its= false):=I (by unfold bareB;simp[t2,t3])
   generalize cmpF f 0= cf at*
   go_enter Tryz.func102,Tryz.ntmps102
   go_wp2_with (go_at_call 145;refine(HFO.o _).mono ?_;rintro e z ⟨rfl,rfl⟩)
   go_ret
   exact⟨z7 HR.o.symm,rfl⟩
 ·have t2:(cmpF f 0 ==0)= false:=by simpa using hf
  have HR:Hid (bareB true false false false n f s ns its= false):=I (by unfold bareB;simp[t2])
  generalize cmpF f 0= cf at*
  go_enter Tryz.func102,Tryz.ntmps102
  go_wp2_with (go_at_call 145;refine(HFO.o _).mono ?_;rintro e z ⟨rfl,rfl⟩)
  go_ret
  exact⟨z7 HR.o.symm,rfl⟩
theorem zew (p o:Nat) (k n:Int) (f:Nat) (s:ByteArray) (A D:Option Addr) (ns its ca cd:Nat) (w:World) (hf0:f < 2 ^ 64) (h:w.rangeAt p o [.int .i64 k,.int .i64 n,.float .f64 f,.string s,.slice A ns ca,.slice D its cd]):
  Calls Tryz.prog 102 #[.pointer (some ⟨p,o,none⟩),.bool false,.bool true,.bool false,.bool false] w fun e w'=>e= .returned (.bool (bareB false true false false n f s ns its))/\w'= w:=by
 have d1:=h 1 _ rfl
 have d2:=h 2 _ rfl
 have d3:=h 3 _ rfl
 have d4:=h 4 _ rfl
 have d5:=h 5 _ rfl
 have HFO:=I (fun w=>z11 f 0 hf0 (by decide) w)
 clear h hf0
 by_cases hn:n= 0
 ·have t1:(n ==0)= true:=by simpa using hn
  by_cases hs:s.toList=[]
  ·have t3:s.toList.isEmpty= true:=by rw[hs];rfl
   by_cases hm:ns= 0
   ·have t4:(ns ==0)= true:=by simpa using hm
    have t4':((ns:Int) ==0)= true:=by rw[hm];rfl
    by_cases hi:its= 0
    ·have t5:(its ==0)= true:=by simpa using hi
     have t5':((its:Int) ==0)= true:=by rw[hi];rfl
     have HR:Hid (bareB false true false false n f s ns its= true):=I (by unfold bareB;simp[t1,t3,t4,t5])
     generalize cmpF f 0= cf at*
     go_enter Tryz.func102,Tryz.ntmps102
     go_wp2_with (go_at_call 145;refine(HFO.o _).mono ?_;rintro e z ⟨rfl,rfl⟩)
     go_ret
     exact⟨z7 HR.o.symm,rfl⟩
    ·have t5:(its ==0)= false:=by simpa using hi
     have t5':((its:Int) ==0)= false:=by rw[beq_eq_false_iff_ne];omega
     have HR:Hid (bareB false true false false n f s ns its= false):=I (by unfold bareB;simp[t1,t3,t4,t5])
     generalize cmpF f 0= cf at*
     go_enter Tryz.func102,Tryz.ntmps102
     go_wp2_with (go_at_call 145;refine(HFO.o _).mono ?_;rintro e z ⟨rfl,rfl⟩)
     go_ret
     exact⟨z7 HR.o.symm,rfl⟩
   ·have t4:(ns ==0)= false:=by simpa using hm
    have t4':((ns:Int) ==0)= false:=by rw[beq_eq_false_iff_ne];omega
    have HR:Hid (bareB false true false false n f s ns its= false):=I (by unfold bareB;simp[t1,t3,t4])
    generalize cmpF f 0= cf at*
    go_enter Tryz.func102,Tryz.ntmps102
    go_wp2_with (go_at_call 145;refine(HFO.o _).mono ?_;rintro e z ⟨rfl,rfl⟩)
    go_ret
    exact⟨z7 HR.o.symm,rfl⟩
  ·have t3:s.toList.isEmpty= false:=by rw[Bool.eq_false_iff];intro h;exact hs (List.isEmpty_iff.1 h)
   have HR:Hid (bareB false true false false n f s ns its= false):=I (by unfold bareB;simp[t1,t3])
   generalize cmpF f 0= cf at*
   go_enter Tryz.func102,Tryz.ntmps102
   go_wp2_with (go_at_call 145;refine(HFO.o _).mono ?_;rintro e z ⟨rfl,rfl⟩)
   go_ret
   exact⟨z7 HR.o.symm,rfl⟩
 ·have t1:(n ==0)= false:=by simpa using hn
  have HR:Hid (bareB false true false false n f s ns its= false):=I (by unfold bareB;simp[t1])
  generalize cmpF f 0= cf at*
  go_enter Tryz.func102,Tryz.ntmps102
  go_wp2_with (go_at_call 145;refine(HFO.o _).mono ?_;rintro e z ⟨rfl,rfl⟩)
  go_ret
  exact⟨z7 HR.o.symm,rfl⟩
theorem zel (p o:Nat) (k n:Int) (f:Nat) (s:ByteArray) (A D:Option Addr) (ns its ca cd:Nat) (w:World) (hf0:f < 2 ^ 64) (h:w.rangeAt p o [.int .i64 k,.int .i64 n,.float .f64 f,.string s,.slice A ns ca,.slice D its cd]):
  Calls Tryz.prog 102 #[.pointer (some ⟨p,o,none⟩),.bool false,.bool false,.bool true,.bool false] w fun e w'=>e= .returned (.bool (bareB false false true false n f s ns its))/\w'= w:=by
 have d1:=h 1 _ rfl
 have d2:=h 2 _ rfl
 have d3:=h 3 _ rfl
 have d4:=h 4 _ rfl
 have d5:=h 5 _ rfl
 have HFO:=I (fun w=>z11 f 0 hf0 (by decide) w)
 clear h hf0
 by_cases hn:n= 0
 ·have t1:(n ==0)= true:=by simpa using hn
  by_cases hf:cmpF f 0= 0
  ·have t2:(cmpF f 0 ==0)= true:=by simpa using hf
   by_cases hm:ns= 0
   ·have t4:(ns ==0)= true:=by simpa using hm
    have t4':((ns:Int) ==0)= true:=by rw[hm];rfl
    by_cases hi:its= 0
    ·have t5:(its ==0)= true:=by simpa using hi
     have t5':((its:Int) ==0)= true:=by rw[hi];rfl
     have HR:Hid (bareB false false true false n f s ns its= true):=I (by unfold bareB;simp[t1,t2,t4,t5])
     generalize cmpF f 0= cf at*
     go_enter Tryz.func102,Tryz.ntmps102
     go_wp2_with (go_at_call 145;refine(HFO.o _).mono ?_;rintro e z ⟨rfl,rfl⟩)
     go_ret
     exact⟨z7 HR.o.symm,rfl⟩
    ·have t5:(its ==0)= false:=by simpa using hi
     have t5':((its:Int) ==0)= false:=by rw[beq_eq_false_iff_ne];omega
     have HR:Hid (bareB false false true false n f s ns its= false):=I (by unfold bareB;simp[t1,t2,t4,t5])
     generalize cmpF f 0= cf at*
     go_enter Tryz.func102,Tryz.ntmps102
     go_wp2_with (go_at_call 145;refine(HFO.o _).mono ?_;rintro e z ⟨rfl,rfl⟩)
     go_ret
     exact⟨z7 HR.o.symm,rfl⟩
   ·have t4:(ns ==0)= false:=by simpa using hm
    have t4':((ns:Int) ==0)= false:=by rw[beq_eq_false_iff_ne];omega
    have HR:Hid (bareB false false true false n f s ns its= false):=I (by unfold bareB;simp[t1,t2,t4])
    generalize cmpF f 0= cf at*
    go_enter Tryz.func102,Tryz.ntmps102
    go_wp2_with (go_at_call 145;refine(HFO.o _).mono ?_;rintro e z ⟨rfl,rfl⟩)
    go_ret
    exact⟨z7 HR.o.symm,rfl⟩
  ·have t2:(cmpF f 0 ==0)= false:=by simpa using hf
   have HR:Hid (bareB false false true false n f s ns its= false):=I (by unfold bareB;simp[t1,t2])
   generalize cmpF f 0= cf at*
   go_enter Tryz.func102,Tryz.ntmps102
   go_wp2_with (go_at_call 145;refine(HFO.o _).mono ?_;rintro e z ⟨rfl,rfl⟩)
   go_ret
   exact⟨z7 HR.o.symm,rfl⟩
 ·have t1:(n ==0)= false:=by simpa using hn
  have HR:Hid (bareB false false true false n f s ns its= false):=I (by unfold bareB;simp[t1])
  generalize cmpF f 0= cf at*
  go_enter Tryz.func102,Tryz.ntmps102
  go_wp2_with (go_at_call 145;refine(HFO.o _).mono ?_;rintro e z ⟨rfl,rfl⟩)
  go_ret
  exact⟨z7 HR.o.symm,rfl⟩
theorem zb8 (p o:Nat) (k n:Int) (f:Nat) (s:ByteArray) (A D:Option Addr) (ns its ca cd:Nat) (w:World) (hf0:f < 2 ^ 64) (h:w.rangeAt p o [.int .i64 k,.int .i64 n,.float .f64 f,.string s,.slice A ns ca,.slice D its cd]):
  Calls Tryz.prog 102 #[.pointer (some ⟨p,o,none⟩),.bool false,.bool false,.bool false,.bool true] w fun e w'=>e= .returned (.bool (bareB false false false true n f s ns its))/\w'= w:=by
 have d1:=h 1 _ rfl
 have d2:=h 2 _ rfl
 have d3:=h 3 _ rfl
 have d4:=h 4 _ rfl
 have d5:=h 5 _ rfl
 have HFO:=I (fun w=>z11 f 0 hf0 (by decide) w)
 clear h hf0
 by_cases hn:n= 0
 ·have t1:(n ==0)= true:=by simpa using hn
  by_cases hf:cmpF f 0= 0
  ·have t2:(cmpF f 0 ==0)= true:=by simpa using hf
   by_cases hs:s.toList=[]
   ·have t3:s.toList.isEmpty= true:=by rw[hs];rfl
    have HR:Hid (bareB false false false true n f s ns its= true):=I (by unfold bareB;simp[t1,t2,t3])
    generalize cmpF f 0= cf at*
    go_enter Tryz.func102,Tryz.ntmps102
    go_wp2_with (go_at_call 145;refine(HFO.o _).mono ?_;rintro e z ⟨rfl,rfl⟩)
    go_ret
    exact⟨z7 HR.o.symm,rfl⟩
   ·have t3:s.toList.isEmpty= false:=by rw[Bool.eq_false_iff];intro h;exact hs (List.isEmpty_iff.1 h)
    have HR:Hid (bareB false false false true n f s ns its= false):=I (by unfold bareB;simp[t1,t2,t3])
    generalize cmpF f 0= cf at*
    go_enter Tryz.func102,Tryz.ntmps102
    go_wp2_with (go_at_call 145;refine(HFO.o _).mono ?_;rintro e z ⟨rfl,rfl⟩)
    go_ret
    exact⟨z7 HR.o.symm,rfl⟩
  ·have t2:(cmpF f 0 ==0)= false:=by simpa using hf
   have HR:Hid (bareB false false false true n f s ns its= false):=I (by unfold bareB;simp[t1,t2])
   generalize cmpF f 0= cf at*
   go_enter Tryz.func102,Tryz.ntmps102
   go_wp2_with (go_at_call 145;refine(HFO.o _).mono ?_;rintro e z ⟨rfl,rfl⟩)
   go_ret
   exact⟨z7 HR.o.symm,rfl⟩
 ·have t1:(n ==0)= false:=by simpa using hn
  have HR:Hid (bareB false false false true n f s ns its= false):=I (by unfold bareB;simp[t1])
  generalize cmpF f 0= cf at*
  go_enter Tryz.func102,Tryz.ntmps102
  go_wp2_with (go_at_call 145;refine(HFO.o _).mono ?_;rintro e z ⟨rfl,rfl⟩)
  go_ret
  exact⟨z7 HR.o.symm,rfl⟩
def riseB:Option ByteArray->List ByteArray->Bool
 |_,[]=>true
 |none,s::l=>nameB s && riseB (some s) l
 |some p,s::l=>nameB s && (Op.bytesLess p.toList s.toList && riseB (some s) l)
def prevK (l:List ByteArray) (k:Nat):Option ByteArray:=if k= 0 then none else l[k - 1]?
theorem z5E {l:List ByteArray} {s:ByteArray} (h:l[0]?= some s):riseB (prevK l 0) (l.drop 0)=(nameB s && riseB (prevK l 1) (l.drop 1)):=by
 rw[z0e h]
 show(nameB s && riseB (some s) (l.drop 1))= _
 unfold prevK
 simp[h]
theorem z6F {l:List ByteArray} {k:Nat} {p s:ByteArray} (hp:l[k]?= some p) (h:l[k+1]?= some s):riseB (prevK l (k+1)) (l.drop (k+1))=(nameB s && (Op.bytesLess p.toList s.toList && riseB (prevK l (k+2)) (l.drop (k+2)))):=by
 rw[z0e h]
 have h1:prevK l (k+1)= some p:=by unfold prevK;simp[hp]
 have h2:prevK l (k+2)= some s:=by unfold prevK;simp[h]
 rw[h1,h2]
 rfl
theorem z7W {l:List ByteArray}:riseB (prevK l l.length) (l.drop l.length)= true:=by
 rw[List.drop_eq_nil_of_le (Nat.le_refl _)];rw[riseB]
theorem z99 (v:Value) (l:List ByteArray) (w:World) (hv:SlAt w w.heap.size 1 StrR v l):
  Calls Tryz.prog 103 #[v] w fun e w'=>e= .returned (.bool (riseB none l))/\Below w.heap.size w w':=by
 obtain⟨_,A,c,rfl,_⟩:=id hv
 obtain⟨_,hl,ha⟩:=z1J hv
 have HA:=I ha
 have H1:=I (fun s=>z5E (l:=l) (s:=s))
 have H2:=I (fun k p s=>z6F (l:=l) (k:=k) (p:=p) (s:=s))
 have HE:=I (z7W (l:=l))
 have H0:Hid (riseB (prevK l 0) (l.drop 0)= riseB none l):=I rfl
 have hl2:(l.length:Int)<=9223372036854775807:=by omega
 clear ha hv
 generalize riseB none l= res at*
 go_enter Tryz.func103,Tryz.ntmps103
 go_wp2
 go_loopg [7] l.length (fun q x u=>∃ k:Nat,k+q= l.length/\x= .int .i64 k/\Below w.heap.size w u/\riseB (prevK l k) (l.drop k)= res)
 case atStart=>exact⟨0,by omega,rfl,Below.refl _ _,H0.o⟩
 case round=>
  obtain⟨k,hk,rfl,hb,hres⟩:=hrel
  have HR:=I hres
  have HBK:=I hb
  clear hres hb
  cases gk with
  |zero=>
   obtain rfl:k= l.length:=by omega
   have hge: ¬ ((l.length:Int) <(l.length:Int)):=by omega
   have HV:=I (HR.o.symm.trans HE.o)
   clear HR
   go_wp2
   go_ret
   exact⟨z7 HV.o.symm,HBK.o⟩
  |succ q=>
   have hlt:(k:Int) <(l.length:Int):=by omega
   obtain⟨s,hs⟩:∃ s,l[k]?= some s:=⟨_,List.getElem?_eq_getElem (by omega)⟩
   obtain⟨b,o,rfl,hbl,hc⟩:=HA.o (by omega)
   have HCC:=I (fun i x hx=>(hc i x hx).1)
   have HBL:=I hbl
   have ds:=(HBK.o.cell (p:=⟨b,o+k,none⟩) hbl).trans (hc k s hs).1
   have HNM:=I (z7g s wr)
   have HSK:=I hs
   clear hc hbl hs
   rcases Nat.eq_zero_or_pos k with hk0|hk0
   ·subst hk0
    have ds0:wr.cell? ⟨b,o,none⟩= some (.string s):=ds
    have hlt0:(0:Int) <(l.length:Int):=by omega
    have HV:=I (HR.o.symm.trans (H1.o s HSK.o))
    clear HR
    generalize nameB s= nb at*
    cases nb with
    |false=>
     have HV2:Hid (res= false):=I (HV.o.trans (Bool.false_and _))
     clear HV
     go_wp2_with (go_at_call 146;refine HNM.o.mono ?_;rintro e z ⟨rfl,hbz⟩;have HB3:=I hbz;clear hbz)
     go_ret
     exact⟨z7 HV2.o.symm,HBK.o.trans (HB3.o.mono HBK.o.size)⟩
    |true=>
     have HV2:=I (HV.o.trans (Bool.true_and _))
     clear HV
     go_wp2_with (go_at_call 146;refine HNM.o.mono ?_;rintro e z ⟨rfl,hbz⟩;have HB3:=I hbz;clear hbz)
     go_roundg q
     case measure=>omega
     case rel=>exact⟨1,by omega,by go_num,HBK.o.trans (HB3.o.mono HBK.o.size),HV2.o.symm⟩
   ·obtain⟨j,rfl⟩:∃ j,k= j+1:=⟨k - 1,by omega⟩
    obtain⟨p,hp⟩:∃ p,l[j]?= some p:=⟨_,List.getElem?_eq_getElem (by omega)⟩
    have HV:=I (HR.o.symm.trans (H2.o j p s hp HSK.o))
    have HDP:=I (HCC.o j p hp)
    have hpos:(0:Int) <((j+1:Nat):Int):=by omega
    have hj2:(j:Int) <(l.length:Int):=by omega
    clear HR hp
    generalize nameB s= nb at*
    cases nb with
    |false=>
     have HV2:Hid (res= false):=I (HV.o.trans (Bool.false_and _))
     clear HV
     go_wp2_with (go_at_call 146;refine HNM.o.mono ?_;rintro e z ⟨rfl,hbz⟩;have HB3:=I hbz;clear hbz)
     go_ret
     exact⟨z7 HV2.o.symm,HBK.o.trans (HB3.o.mono HBK.o.size)⟩
    |true=>
     have HV2:=I (HV.o.trans (Bool.true_and _))
     clear HV
     cases hlt3:Op.bytesLess p.toList s.toList with
     |false=>
      have HV3:Hid (res= false):=I (HV2.o.trans (by rw[hlt3];exact Bool.false_and _))
      go_wp2_with (go_at_call 146;refine HNM.o.mono ?_;rintro e z ⟨rfl,hbz⟩;have HB3:=I hbz;have dp:=(((HBK.o.trans (hbz.mono HBK.o.size)).cell (p:=⟨b,o+j,none⟩) HBL.o)).trans HDP.o;clear hbz)
      go_ret
      exact⟨z7 HV3.o.symm,HBK.o.trans (HB3.o.mono HBK.o.size)⟩
     |true=>
      have HV3:=I (HV2.o.trans (by rw[hlt3,Bool.true_and]))
      go_wp2_with (go_at_call 146;refine HNM.o.mono ?_;rintro e z ⟨rfl,hbz⟩;have HB3:=I hbz;have dp:=(((HBK.o.trans (hbz.mono HBK.o.size)).cell (p:=⟨b,o+j,none⟩) HBL.o)).trans HDP.o;clear hbz)
      go_roundg q
      case measure=>omega
      case rel=>exact⟨j+2,by omega,by go_num,HBK.o.trans (HB3.o.mono HBK.o.size),HV3.o.symm⟩
mutual
def cntV:VT->Nat->Nat
 | .mk _ _ _ _ _ its,n=>cntL its (n+1)
def cntL:List VT->Nat->Nat
 |[],n=>n
 |a::l,n=>if 500<=n then n else cntL l (cntV a n)
end
theorem z8I:∀ (l:List VT) (n:Nat),(∀ x∈l,∀ m,m < 500->cntV x m<=500)->n<=500->cntL l n<=500
 |[],n,_,h=>by rw[cntL];exact h
 |a::l,n,h,hn=>by
  rw[cntL]
  split
  ·exact hn
  ·exact z8I l _ (fun x hx=>h x (List.mem_cons_of_mem _ hx)) (h a (List.mem_cons_self ..) n (by omega))
theorem z8V (t:VT):∀ m,m < 500->cntV t m<=500:=by
 induction t using VT.ind with
 |h k n f s ns its ih=>exact fun m hm=>by rw[cntV];exact z8I its _ ih (by omega)
theorem z6P {l:List VT} {k m:Nat} {x:VT} (h:l[k]?= some x):cntL (l.drop k) m= if 500<=m then m else cntL (l.drop (k+1)) (cntV x m):=by
 rw[z0e h,cntL]
theorem z7h {l:List VT} {m:Nat}:cntL (l.drop l.length) m= m:=by
 rw[List.drop_eq_nil_of_le (Nat.le_refl _),cntL]
theorem z8p:∀ (t:VT) (m:Nat) (cs:List Value) (p o:Nat) (w:World),m < 500->w.rangeAt p o cs->ValAt w w.heap.size cs t->
  Calls Tryz.prog 101 #[.pointer (some ⟨p,o,none⟩),.int .i64 m] w fun e w'=>e= .returned (.int .i64 (cntV t m:Nat))/\w'= w:=by
 intro t
 induction t using VT.ind with
 |h k n f s ns its ih=>
  intro m cs p o w hm hr hv
  have IH:=I ih
  obtain⟨vn,vi,rfl,_,_,_,_,_,_,hi⟩:=hv.inv
  obtain⟨A,c,rfl,hil,hA⟩:=z1k hi
  have HA:=I hA
  have d5:=hr 5 _ rfl
  have HS:=I (fun k m x=>z6P (l:=its) (k:=k) (m:=m) (x:=x))
  have HE:=I (fun m=>z7h (l:=its) (m:=m))
  have HLE:=I (fun x m hm=>z8V x m hm)
  have H0:Hid (cntL (its.drop 0) (m+1)= cntV (.mk k n f s ns its) m):=I (by rw[cntV];rfl)
  have hm2:(m:Int) < 500:=by omega
  clear ih hi hA hr hv
  generalize cntV (.mk k n f s ns its) m= res at*
  go_enter Tryz.func101,Tryz.ntmps101
  go_wp2
  go_loopg [1,13] its.length (fun q n x u=>∃ (j m:Nat),j+q= its.length/\x= .int .i64 j/\n= .int .i64 m/\m<=500/\u= w/\cntL (its.drop j) m= res)
  case atStart=>exact⟨0,m+1,by omega,rfl,by go_num,by omega,rfl,H0.o⟩
  case round=>
   obtain⟨j,m,hj,rfl,rfl,hm5,rfl,hres⟩:=hrel
   have HR:=I hres
   clear hres
   cases gk with
   |zero=>
    obtain rfl:j= its.length:=by omega
    have hge: ¬ ((its.length:Int) <(its.length:Int)):=by omega
    have HV:=I (HR.o.symm.trans (HE.o m))
    go_wp2
    go_ret
    exact⟨by rw[HV.o];rfl,rfl⟩
   |succ q=>
    have hlt:(j:Int) <(its.length:Int):=by omega
    obtain⟨x,hx⟩:∃ x,its[j]?= some x:=⟨_,List.getElem?_eq_getElem (by omega)⟩
    obtain⟨b,o',rfl,hbl,hc⟩:=HA.o (by omega)
    obtain⟨ks,hks,hvx⟩:=hc j x hx
    have HV:=I (HR.o.symm.trans (HS.o j m x hx))
    by_cases h5:500<=m
    ·have HV2:=I (HV.o.trans (if_pos h5))
     have t1:(500:Int)<=(m:Int):=by omega
     clear hc hks hvx hx HV
     go_wp2
     go_ret
     exact⟨by rw[HV2.o];rfl,rfl⟩
    ·have HV2:=I (HV.o.trans (if_neg h5))
     have t1: ¬ ((500:Int)<=(m:Int)):=by omega
     have HC:=I (IH.o x (List.mem_of_getElem? hx) m ks b (o'+j*6) wr (by omega) hks hvx)
     have hle:=HLE.o x m (by omega)
     clear hc hks hvx hx HV h5
     go_wp2_with (go_at_call 101;refine HC.o.mono ?_;rintro e z ⟨rfl,rfl⟩)
     go_roundg q
     case measure=>omega
     case rel=>exact⟨j+1,_,by omega,by go_num,rfl,hle,rfl,HV2.o.symm⟩
theorem zbb (t:VT) (cs:List Value) (w:World) (hv:ValAt w w.heap.size cs t):Calls Tryz.prog 58 #[.agg ⟨cs⟩] w fun e w'=>e= .returned (.int .i64 (cntV t 0:Nat))/\Below w.heap.size w w':=by
 have HB1:=I (zd w (.cells ⟨cs⟩ 26))
 have HC:=I (z8p t 0 cs w.heap.size 0 (w.alloc (.cells ⟨cs⟩ 26)) (by decide) (zv w cs 26) (hv.next HB1.o))
 go_enter Tryz.func58,Tryz.ntmps58
 go_wp2_with (go_at_call 101;refine HC.o.mono ?_;rintro e z ⟨rfl,rfl⟩)
 go_ret
 exact⟨rfl,HB1.o⟩
end
section
open Go Go.RowKit
mutual
def zm:VT->Nat->Bool
 | .mk k n f s ns its,d=>
  if 12 < d then false
  else if k= 1 then bareB true false false false n f s ns.length its.length && (n / 2 ==0)
  else if k= 2 then bareB true false false false n f s ns.length its.length
  else if k= 3 then bareB false true false false n f s ns.length its.length
  else if k= 4 then bareB false false true false n f s ns.length its.length && decide (s.size<=200)
  else if k= 6 then(ns.length ==its.length) && (riseB none ns && (bareB false false false true n f s ns.length its.length && zF its (d+1)))
  else if k= 5 then bareB false false false true n f s ns.length its.length && ((ns.length ==0) && zF its (d+1))
  else false
def zF:List VT->Nat->Bool
 |[],_=>true
 |a::l,d=>zm a d && zF l d
end
theorem z1V {l:List VT} {k d:Nat} {x:VT} (h:l[k]?= some x):zF (l.drop k) d=(zm x d && zF (l.drop (k+1)) d):=by
 rw[z0e h,zF]
theorem z2q {l:List VT} {d:Nat}:zF (l.drop l.length) d= true:=by
 rw[List.drop_eq_nil_of_le (Nat.le_refl _),zF]
theorem z9S:∀ (t:VT) (d:Nat) (cs:List Value) (p o:Nat) (w:World),d<=13->p < w.heap.size->w.rangeAt p o cs->ValAt w w.heap.size cs t->
  Calls Tryz.prog 59 #[.pointer (some ⟨p,o,none⟩),.int .i64 d] w fun e w'=>e= .returned (.bool (zm t d))/\Below w.heap.size w w':=by
 intro t
 induction t using VT.ind with
 |h k n f s ns its ih=>
  intro d cs p o w hd hp hr hv
  have IH:=I ih
  obtain⟨vn,vi,rfl,_,_,hf,_,hn,_,hi⟩:=hv.inv
  obtain⟨_,NA,nc,rfl,_⟩:=id hn
  obtain⟨A,c,rfl,hil,hA⟩:=z1k hi
  have hnl:=hn.1
  have HF:=I (wf64 hf)
  have HN:=I hn
  have HA:=I hA
  have HRG:=I hr
  have HP:=I hp
  have d0:w.cell? ⟨p,o,none⟩= some (.int .i64 k):=hr 0 _ rfl
  have d1:=hr 1 _ rfl
  have d3:=hr 3 _ rfl
  have d4:=hr 4 _ rfl
  have d5:=hr 5 _ rfl
  have HO:Hid (zm (.mk k n f s ns its) d= if 12 < d then false
   else if k= 1 then bareB true false false false n f s ns.length its.length && (n / 2 ==0)
   else if k= 2 then bareB true false false false n f s ns.length its.length
   else if k= 3 then bareB false true false false n f s ns.length its.length
   else if k= 4 then bareB false false true false n f s ns.length its.length && decide (s.size<=200)
   else if k= 6 then(ns.length ==its.length) && (riseB none ns && (bareB false false false true n f s ns.length its.length && zF its (d+1)))
   else if k= 5 then bareB false false false true n f s ns.length its.length && ((ns.length ==0) && zF its (d+1))
   else false):=I (by rw[zm])
  generalize hres:zm (.mk k n f s ns its) d= res at*
  clear ih hr hv hn hi hA hf hp hres
  by_cases hdeep:12 < d
  ·have HV:=I (HO.o.trans (if_pos hdeep))
   have t1:(12:Int) <(d:Int):=by omega
   clear HO hdeep
   go_enter Tryz.func59,Tryz.ntmps59
   go_wp2
   go_ret
   exact⟨z7 HV.o.symm,Below.refl _ w⟩
  have t1: ¬ ((12:Int) <(d:Int)):=by omega
  have HO1:=I (HO.o.trans (if_neg hdeep))
  clear HO
  by_cases k1:k= 1
  ·subst k1
   have HV:=I (HO1.o.trans (if_pos rfl))
   clear HO1
   have HBR:=I (fun w' (h:w'.rangeAt p o [(.int .i64 1),.int .i64 n,.float .f64 f,.string s,.slice NA ns.length nc,.slice A its.length c])=>zas p o 1 n f s NA A ns.length its.length nc c w' HF.o h)
   generalize bareB true false false false n f s ns.length its.length= bb at*
   cases bb with
   |false=>
    have HV2:Hid (res= false):=I (HV.o.trans (Bool.false_and _))
    clear HV d3 d4 d5
    go_enter Tryz.func59,Tryz.ntmps59
    go_wp2_with (go_at_call 102;refine(HBR.o _ HRG.o).mono ?_;rintro e z ⟨rfl,hzw⟩;obtain rfl:=hzw.symm)
    go_ret
    exact⟨z7 HV2.o.symm,Below.refl _ w⟩
   |true=>
    have HV2:Hid (res=(n / 2 ==0)):=I (HV.o.trans (Bool.true_and _))
    clear HV d3 d4 d5
    go_enter Tryz.func59,Tryz.ntmps59
    go_wp2_with (go_at_call 102;refine(HBR.o _ HRG.o).mono ?_;rintro e z ⟨rfl,hzw⟩;obtain rfl:=hzw.symm)
    go_ret
    exact⟨z7 HV2.o.symm,Below.refl _ w⟩
  have HO2:=I (HO1.o.trans (if_neg k1))
  clear HO1
  by_cases k2:k= 2
  ·subst k2
   have HV:=I (HO2.o.trans (if_pos rfl))
   clear HO2
   have HBR:=I (fun w' (h:w'.rangeAt p o [(.int .i64 2),.int .i64 n,.float .f64 f,.string s,.slice NA ns.length nc,.slice A its.length c])=>zas p o 2 n f s NA A ns.length its.length nc c w' HF.o h)
   generalize bareB true false false false n f s ns.length its.length= bb at*
   clear d1 d3 d4 d5
   go_enter Tryz.func59,Tryz.ntmps59
   go_wp2_with (go_at_call 102;refine(HBR.o _ HRG.o).mono ?_;rintro e z ⟨rfl,hzw⟩;obtain rfl:=hzw.symm)
   go_ret
   exact⟨z7 HV.o.symm,Below.refl _ w⟩
  have HO3:=I (HO2.o.trans (if_neg k2))
  clear HO2
  by_cases k3:k= 3
  ·subst k3
   have HV:=I (HO3.o.trans (if_pos rfl))
   clear HO3
   have HBR:=I (fun w' (h:w'.rangeAt p o [(.int .i64 3),.int .i64 n,.float .f64 f,.string s,.slice NA ns.length nc,.slice A its.length c])=>zew p o 3 n f s NA A ns.length its.length nc c w' HF.o h)
   generalize bareB false true false false n f s ns.length its.length= bb at*
   clear d1 d3 d4 d5
   go_enter Tryz.func59,Tryz.ntmps59
   go_wp2_with (go_at_call 102;refine(HBR.o _ HRG.o).mono ?_;rintro e z ⟨rfl,hzw⟩;obtain rfl:=hzw.symm)
   go_ret
   exact⟨z7 HV.o.symm,Below.refl _ w⟩
  have HO4:=I (HO3.o.trans (if_neg k3))
  clear HO3
  by_cases k4:k= 4
  ·subst k4
   have HV:=I (HO4.o.trans (if_pos rfl))
   clear HO4
   have HBR:=I (fun w' (h:w'.rangeAt p o [(.int .i64 4),.int .i64 n,.float .f64 f,.string s,.slice NA ns.length nc,.slice A its.length c])=>zel p o 4 n f s NA A ns.length its.length nc c w' HF.o h)
   generalize bareB false false true false n f s ns.length its.length= bb at*
   cases bb with
   |false=>
    have HV2:Hid (res= false):=I (HV.o.trans (Bool.false_and _))
    clear HV d1 d4 d5
    go_enter Tryz.func59,Tryz.ntmps59
    go_wp2_with (go_at_call 102;refine(HBR.o _ HRG.o).mono ?_;rintro e z ⟨rfl,hzw⟩;obtain rfl:=hzw.symm)
    go_ret
    exact⟨z7 HV2.o.symm,Below.refl _ w⟩
   |true=>
    have HV2:Hid (res= decide (s.size<=200)):=I (HV.o.trans (Bool.true_and _))
    clear HV d1 d4 d5
    by_cases hs:s.size<=200
    ·have t2:(s.size:Int)<=200:=by omega
     have HV3:=I (HV2.o.trans (decide_eq_true hs))
     go_enter Tryz.func59,Tryz.ntmps59
     go_wp2_with (go_at_call 102;refine(HBR.o _ HRG.o).mono ?_;rintro e z ⟨rfl,hzw⟩;obtain rfl:=hzw.symm)
     go_ret
     exact⟨z7 HV3.o.symm,Below.refl _ w⟩
    ·have t2:decide ((s.size:Int)<=200)= false:=decide_eq_false (by omega)
     have t2':(200:Int) <(s.size:Int):=by omega
     have HV3:=I (HV2.o.trans (decide_eq_false hs))
     go_enter Tryz.func59,Tryz.ntmps59
     go_wp2_with (go_at_call 102;refine(HBR.o _ HRG.o).mono ?_;rintro e z ⟨rfl,hzw⟩;obtain rfl:=hzw.symm)
     go_ret
     exact⟨z7 HV3.o.symm,Below.refl _ w⟩
  have HO5:=I (HO4.o.trans (if_neg k4))
  clear HO4
  by_cases k5:k= 5
  ·subst k5
   have HV:=I (HO5.o.trans ((if_neg (by decide)).trans (if_pos rfl)))
   clear HO5
   have HBR:=I (fun w' (h:w'.rangeAt p o [(.int .i64 5),.int .i64 n,.float .f64 f,.string s,.slice NA ns.length nc,.slice A its.length c])=>zb8 p o 5 n f s NA A ns.length its.length nc c w' HF.o h)
   generalize bareB false false false true n f s ns.length its.length= bb at*
   cases bb with
   |false=>
    have HV2:Hid (res= false):=I (HV.o.trans (Bool.false_and _))
    clear HV d1 d3
    go_enter Tryz.func59,Tryz.ntmps59
    go_wp2_with (go_at_call 102;refine(HBR.o _ HRG.o).mono ?_;rintro e z ⟨rfl,hzw⟩;obtain rfl:=hzw.symm)
    go_ret
    exact⟨z7 HV2.o.symm,Below.refl _ w⟩
   |true=>
    have HV2:=I (HV.o.trans (Bool.true_and _))
    clear HV d1 d3
    by_cases hnz:ns.length= 0
    ·have HV9:Hid (res= zF its (d+1)):=I (HV2.o.trans (by rw[hnz];exact Bool.true_and _))
     rw[hnz] at HRG HBR d4
     clear HV2 hnz HN
     go_enter Tryz.func59,Tryz.ntmps59
     go_wp2_with (go_at_call 102;refine(HBR.o _ HRG.o).mono ?_;rintro e z ⟨rfl,hzw⟩;obtain rfl:=hzw.symm)
     go_loopg [90] its.length (fun q x u=>∃ j:Nat,j+q= its.length/\x= .int .i64 j/\Below w.heap.size w u/\zF (its.drop j) (d+1)= res)
     case atStart=>exact⟨0,by omega,rfl,Below.refl _ _,HV9.o.symm⟩
     case round=>
      obtain⟨j,hj,rfl,hb,hres⟩:=hrel
      have HR:=I hres
      have HBK:=I hb
      clear hres hb
      cases gk with
      |zero=>
       obtain rfl:j= its.length:=by omega
       have hge: ¬ ((its.length:Int) <(its.length:Int)):=by omega
       have HVE:=I (HR.o.symm.trans z2q)
       go_wp2
       go_ret
       exact⟨z7 HVE.o.symm,HBK.o⟩
      |succ q=>
       have hlt:(j:Int) <(its.length:Int):=by omega
       obtain⟨x,hx⟩:∃ x,its[j]?= some x:=⟨_,List.getElem?_eq_getElem (by omega)⟩
       obtain⟨b,o',rfl,hbl,hc⟩:=HA.o (by omega)
       obtain⟨ks,hks,hvx⟩:=hc j x hx
       have HVS:=I (HR.o.symm.trans (z1V hx))
       have dd5:=(HBK.o.cell (p:=⟨p,o+5,none⟩) HP.o).trans (HRG.o 5 _ rfl)
       have HC:=I (IH.o x (List.mem_of_getElem? hx) (d+1) ks b (o'+j*6) wr (by omega) (Nat.lt_of_lt_of_le hbl HBK.o.size) (zc hks HBK.o hbl) (hvx.next HBK.o))
       have hd1:((d+1:Nat):Int)=(d:Int)+1:=by omega
       rw[hd1] at HC
       clear hc hks hvx hx hd1
       generalize zm x (d+1)= rx at*
       cases rx with
       |true=>
        have HV2:=I (HVS.o.trans (Bool.true_and _))
        clear HVS
        go_wp2_with (go_at_call 59;refine HC.o.mono ?_;rintro e z ⟨rfl,hbz⟩;have HB3:=I hbz;clear hbz)
        go_roundg q
        case measure=>omega
        case rel=>exact⟨j+1,by omega,by go_num,HBK.o.trans (HB3.o.mono HBK.o.size),HV2.o.symm⟩
       |false=>
        have HV2:Hid (res= false):=I (HVS.o.trans (Bool.false_and _))
        clear HVS
        go_wp2_with (go_at_call 59;refine HC.o.mono ?_;rintro e z ⟨rfl,hbz⟩;have HB3:=I hbz;clear hbz)
        go_ret
        exact⟨z7 HV2.o.symm,HBK.o.trans (HB3.o.mono HBK.o.size)⟩
    ·have HV3:Hid (res= false):=I (HV2.o.trans (by rw[beq_eq_false_iff_ne.2 hnz];exact Bool.false_and _))
     have t2:(0:Int) <(ns.length:Int):=by omega
     clear HV2 hnz
     go_enter Tryz.func59,Tryz.ntmps59
     go_wp2_with (go_at_call 102;refine(HBR.o _ HRG.o).mono ?_;rintro e z ⟨rfl,hzw⟩;obtain rfl:=hzw.symm)
     go_ret
     exact⟨z7 HV3.o.symm,Below.refl _ w⟩
  by_cases k6:k= 6
  ·subst k6
   have HV:=I (HO5.o.trans (if_pos rfl))
   clear HO5
   have HBR:=I (fun w' (h:w'.rangeAt p o [(.int .i64 6),.int .i64 n,.float .f64 f,.string s,.slice NA ns.length nc,.slice A its.length c])=>zb8 p o 6 n f s NA A ns.length its.length nc c w' HF.o h)
   have HRI:=I (fun z (hz:Below w.heap.size w z)=>z99 (.slice NA ns.length nc) ns z ((HN.o.below hz fun _ _ _ h=>h).more hz.size))
   by_cases hlen:ns.length= its.length
   ·have HV2:=I (HV.o.trans (by rw[show(ns.length ==its.length)= true from by rw[hlen];exact beq_self_eq_true _,Bool.true_and]))
    have t2:((ns.length:Int) !=(its.length:Int))= false:=by rw[hlen];exact bne_self_eq_false _
    clear HV hlen
    generalize riseB none ns= rb at*
    cases rb with
    |false=>
     have HV3:Hid (res= false):=I (HV2.o.trans (Bool.false_and _))
     clear HV2 d1 d3
     go_enter Tryz.func59,Tryz.ntmps59
     go_upto_region 14 with (fail)
     clear d0 d4 d5
     refine zB [(0,true),(1,true),(2,true),(3,true),(4,true),(5,true),(6,true),(7,true),(8,true),(9,true),(10,true),(11,true),(12,true),(13,true),(14,true),(15,true),(16,false),(17,true),(18,true)]
      (fun z=>Below w.heap.size w z) (by kernel_rfl) (by kernel_rfl) (by kernel_rfl) rfl (by intro c a d v w h;cases d<;>exact h) ?_
     have hs:Below w.heap.size w w.drew:=(Below.refl _ w).drew
     refine zg (some 48) (.pointer (some ⟨p,o,none⟩)) _ _ rfl rfl rfl (by exact wA rfl) hs rfl ?_
     go_frame
     refine z8 (some 49) (.pointer (some ⟨p,o,none⟩)) _ rfl rfl (by exact wA rfl) hs (fun z hz=>by go_simp) ?_
     go_frame
     refine z8 (some 50) (.pointer (some ⟨p,o+4,none⟩)) _ rfl rfl (by exact wA rfl) hs (fun z hz=>by go_simp) ?_
     go_frame
     refine z8 (some 51) (.slice NA ns.length nc) _ rfl rfl (by exact wA rfl) hs (fun z hz=>by have dd:=(hz.cell (p:=⟨p,o+4,none⟩) HP.o).trans (HRG.o 4 _ rfl);go_simp) ?_
     go_frame
     refine z8 (some 52) (.int .i64 ns.length) _ rfl rfl (by exact wA rfl) hs (fun z hz=>by go_simp) ?_
     go_frame
     refine zg (some 53) (.pointer (some ⟨p,o,none⟩)) _ _ rfl rfl rfl (by exact wA rfl) hs rfl ?_
     go_frame
     refine z8 (some 54) (.pointer (some ⟨p,o,none⟩)) _ rfl rfl (by exact wA rfl) hs (fun z hz=>by go_simp) ?_
     go_frame
     refine z8 (some 55) (.pointer (some ⟨p,o+5,none⟩)) _ rfl rfl (by exact wA rfl) hs (fun z hz=>by go_simp) ?_
     go_frame
     refine z8 (some 56) (.slice A its.length c) _ rfl rfl (by exact wA rfl) hs (fun z hz=>by have dd:=(hz.cell (p:=⟨p,o+5,none⟩) HP.o).trans (HRG.o 5 _ rfl);go_simp) ?_
     go_frame
     refine z8 (some 57) (.int .i64 its.length) _ rfl rfl (by exact wA rfl) hs (fun z hz=>by go_simp) ?_
     go_frame
     refine z8 (some 58) (.bool false) _ rfl rfl (by exact wA rfl) hs (fun z hz=>by go_simp) ?_
     go_frame
     refine zg (some 59) (.bool false) _ _ rfl rfl rfl (by exact wA rfl) hs rfl ?_
     go_frame
     refine zg (some 60) (.pointer (some ⟨p,o,none⟩)) _ _ rfl rfl rfl (by exact wA rfl) hs rfl ?_
     go_frame
     refine z8 (some 61) (.pointer (some ⟨p,o,none⟩)) _ rfl rfl (by exact wA rfl) hs (fun z hz=>by go_simp) ?_
     go_frame
     refine z8 (some 62) (.pointer (some ⟨p,o+4,none⟩)) _ rfl rfl (by exact wA rfl) hs (fun z hz=>by go_simp) ?_
     go_frame
     refine z8 (some 63) (.slice NA ns.length nc) _ rfl rfl (by exact wA rfl) hs (fun z hz=>by have dd:=(hz.cell (p:=⟨p,o+4,none⟩) HP.o).trans (HRG.o 4 _ rfl);go_simp) ?_
     go_frame
     refine zD (some 64) 103 Tryz.func103 (by kernel_rfl) (by kernel_rfl) [.slice NA ns.length nc] _ _ _ rfl rfl rfl (by exact wA rfl) rfl ?_
     refine(HRI.o _ hs).mono ?_
     rintro e z1 ⟨rfl,hb1⟩
     have hs2:Below w.heap.size w z1:=hs.trans (hb1.mono hs.size)
     refine⟨.bool false,rfl,hs2,?_⟩
     clear hb1
     go_frame
     refine z8 (some 65) (.bool true) _ rfl rfl (by exact wA rfl) hs2 (fun z hz=>by go_simp) ?_
     go_frame
     refine z7G (some 66) (.bool true) _ _ _ _ false rfl rfl rfl rfl (by exact wA rfl) hs2 rfl ?_
     go_frame
     refine z08 ?_
     have HB2:=I hs2
     clear hs hs2
     go_wp2
     go_ret
     exact⟨z7 HV3.o.symm,HB2.o⟩
    |true=>
     have HV3:=I (HV2.o.trans (Bool.true_and _))
     clear HV2 d1 d3
     generalize bareB false false false true n f s ns.length its.length= bb at*
     go_enter Tryz.func59,Tryz.ntmps59
     go_upto_region 14 with (fail)
     clear d0 d4 d5
     refine zB [(0,true),(1,true),(2,true),(3,true),(4,true),(5,true),(6,true),(7,true),(8,true),(9,true),(10,true),(11,true),(12,true),(13,true),(14,true),(15,true),(16,false),(17,true),(18,true)]
      (fun z=>Below w.heap.size w z) (by kernel_rfl) (by kernel_rfl) (by kernel_rfl) rfl (by intro c a d v w h;cases d<;>exact h) ?_
     have hs:Below w.heap.size w w.drew:=(Below.refl _ w).drew
     refine zg (some 48) (.pointer (some ⟨p,o,none⟩)) _ _ rfl rfl rfl (by exact wA rfl) hs rfl ?_
     go_frame
     refine z8 (some 49) (.pointer (some ⟨p,o,none⟩)) _ rfl rfl (by exact wA rfl) hs (fun z hz=>by go_simp) ?_
     go_frame
     refine z8 (some 50) (.pointer (some ⟨p,o+4,none⟩)) _ rfl rfl (by exact wA rfl) hs (fun z hz=>by go_simp) ?_
     go_frame
     refine z8 (some 51) (.slice NA ns.length nc) _ rfl rfl (by exact wA rfl) hs (fun z hz=>by have dd:=(hz.cell (p:=⟨p,o+4,none⟩) HP.o).trans (HRG.o 4 _ rfl);go_simp) ?_
     go_frame
     refine z8 (some 52) (.int .i64 ns.length) _ rfl rfl (by exact wA rfl) hs (fun z hz=>by go_simp) ?_
     go_frame
     refine zg (some 53) (.pointer (some ⟨p,o,none⟩)) _ _ rfl rfl rfl (by exact wA rfl) hs rfl ?_
     go_frame
     refine z8 (some 54) (.pointer (some ⟨p,o,none⟩)) _ rfl rfl (by exact wA rfl) hs (fun z hz=>by go_simp) ?_
     go_frame
     refine z8 (some 55) (.pointer (some ⟨p,o+5,none⟩)) _ rfl rfl (by exact wA rfl) hs (fun z hz=>by go_simp) ?_
     go_frame
     refine z8 (some 56) (.slice A its.length c) _ rfl rfl (by exact wA rfl) hs (fun z hz=>by have dd:=(hz.cell (p:=⟨p,o+5,none⟩) HP.o).trans (HRG.o 5 _ rfl);go_simp) ?_
     go_frame
     refine z8 (some 57) (.int .i64 its.length) _ rfl rfl (by exact wA rfl) hs (fun z hz=>by go_simp) ?_
     go_frame
     refine z8 (some 58) (.bool false) _ rfl rfl (by exact wA rfl) hs (fun z hz=>by go_simp) ?_
     go_frame
     refine zg (some 59) (.bool false) _ _ rfl rfl rfl (by exact wA rfl) hs rfl ?_
     go_frame
     refine zg (some 60) (.pointer (some ⟨p,o,none⟩)) _ _ rfl rfl rfl (by exact wA rfl) hs rfl ?_
     go_frame
     refine z8 (some 61) (.pointer (some ⟨p,o,none⟩)) _ rfl rfl (by exact wA rfl) hs (fun z hz=>by go_simp) ?_
     go_frame
     refine z8 (some 62) (.pointer (some ⟨p,o+4,none⟩)) _ rfl rfl (by exact wA rfl) hs (fun z hz=>by go_simp) ?_
     go_frame
     refine z8 (some 63) (.slice NA ns.length nc) _ rfl rfl (by exact wA rfl) hs (fun z hz=>by have dd:=(hz.cell (p:=⟨p,o+4,none⟩) HP.o).trans (HRG.o 4 _ rfl);go_simp) ?_
     go_frame
     refine zD (some 64) 103 Tryz.func103 (by kernel_rfl) (by kernel_rfl) [.slice NA ns.length nc] _ _ _ rfl rfl rfl (by exact wA rfl) rfl ?_
     refine(HRI.o _ hs).mono ?_
     rintro e z1 ⟨rfl,hb1⟩
     have hs2:Below w.heap.size w z1:=hs.trans (hb1.mono hs.size)
     refine⟨.bool true,rfl,hs2,?_⟩
     clear hb1
     go_frame
     refine z8 (some 65) (.bool false) _ rfl rfl (by exact wA rfl) hs2 (fun z hz=>by go_simp) ?_
     go_frame
     refine z7G (some 66) (.bool false) _ _ _ _ false rfl rfl rfl rfl (by exact wA rfl) hs2 rfl ?_
     go_frame
     refine z08 ?_
     have HB2:=I hs2
     clear hs hs2
     have HR1:=I (zc HRG.o HB2.o HP.o)
     have e0:z1.cell? ⟨p,o,none⟩= some (.int .i64 6):=HR1.o 0 _ rfl
     have e5:=HR1.o 5 _ rfl
     cases bb with
     |false=>
      have HV4:Hid (res= false):=I (HV3.o.trans (Bool.false_and _))
      go_wp2_with (go_at_call 102;refine(HBR.o _ HR1.o).mono ?_;rintro e z ⟨rfl,hzw⟩;obtain rfl:=hzw.symm)
      go_ret
      exact⟨z7 HV4.o.symm,HB2.o⟩
     |true=>
      have HV9:Hid (res= zF its (d+1)):=I (HV3.o.trans (Bool.true_and _))
      clear HV3
      go_wp2_with (go_at_call 102;refine(HBR.o _ HR1.o).mono ?_;rintro e z ⟨rfl,hzw⟩;obtain rfl:=hzw.symm)
      clear e0 e5
      go_loopg [90] its.length (fun q x u=>∃ j:Nat,j+q= its.length/\x= .int .i64 j/\Below w.heap.size w u/\zF (its.drop j) (d+1)= res)
      case atStart=>exact⟨0,by omega,rfl,HB2.o,HV9.o.symm⟩
      case round=>
       obtain⟨j,hj,rfl,hb,hres⟩:=hrel
       have HR:=I hres
       have HBK:=I hb
       clear hres hb
       cases gk with
       |zero=>
        obtain rfl:j= its.length:=by omega
        have hge: ¬ ((its.length:Int) <(its.length:Int)):=by omega
        have HVE:=I (HR.o.symm.trans z2q)
        go_wp2
        go_ret
        exact⟨z7 HVE.o.symm,HBK.o⟩
       |succ q=>
        have hlt:(j:Int) <(its.length:Int):=by omega
        obtain⟨x,hx⟩:∃ x,its[j]?= some x:=⟨_,List.getElem?_eq_getElem (by omega)⟩
        obtain⟨b,o',rfl,hbl,hc⟩:=HA.o (by omega)
        obtain⟨ks,hks,hvx⟩:=hc j x hx
        have HVS:=I (HR.o.symm.trans (z1V hx))
        have dd5:=(HBK.o.cell (p:=⟨p,o+5,none⟩) HP.o).trans (HRG.o 5 _ rfl)
        have HC:=I (IH.o x (List.mem_of_getElem? hx) (d+1) ks b (o'+j*6) wr (by omega) (Nat.lt_of_lt_of_le hbl HBK.o.size) (zc hks HBK.o hbl) (hvx.next HBK.o))
        have hd1:((d+1:Nat):Int)=(d:Int)+1:=by omega
        rw[hd1] at HC
        clear hc hks hvx hx hd1
        generalize zm x (d+1)= rx at*
        cases rx with
        |true=>
         have HV2:=I (HVS.o.trans (Bool.true_and _))
         clear HVS
         go_wp2_with (go_at_call 59;refine HC.o.mono ?_;rintro e z ⟨rfl,hbz⟩;have HB3:=I hbz;clear hbz)
         go_roundg q
         case measure=>omega
         case rel=>exact⟨j+1,by omega,by go_num,HBK.o.trans (HB3.o.mono HBK.o.size),HV2.o.symm⟩
        |false=>
         have HV2:Hid (res= false):=I (HVS.o.trans (Bool.false_and _))
         clear HVS
         go_wp2_with (go_at_call 59;refine HC.o.mono ?_;rintro e z ⟨rfl,hbz⟩;have HB3:=I hbz;clear hbz)
         go_ret
         exact⟨z7 HV2.o.symm,HBK.o.trans (HB3.o.mono HBK.o.size)⟩
   ·have HV2:Hid (res= false):=I (HV.o.trans (by rw[beq_eq_false_iff_ne.2 hlen];exact Bool.false_and _))
    have t2:((ns.length:Int) !=(its.length:Int))= true:=by rw[bne_iff_ne];omega
    clear HV hlen d1 d3
    go_enter Tryz.func59,Tryz.ntmps59
    go_wp2
    go_quiet (fail)
    go_wp2
    go_ret
    exact⟨z7 HV2.o.symm,zI (Below.refl _ w) _⟩
  have HV:=I (HO5.o.trans ((if_neg k6).trans (if_neg k5)))
  have s1:(k ==1)= false:=by simpa using k1
  have s2:(k ==2)= false:=by simpa using k2
  have s3:(k ==3)= false:=by simpa using k3
  have s4:(k ==4)= false:=by simpa using k4
  have s5:(k ==5)= false:=by simpa using k5
  have s6:(k ==6)= false:=by simpa using k6
  clear HO5 d1 d3 d4 d5 k1 k2 k3 k4 k5 k6
  go_enter Tryz.func59,Tryz.ntmps59
  go_wp2
  go_ret
  exact⟨z7 HV.o.symm,Below.refl _ w⟩
theorem z2a (t:VT) (cs:List Value) (w:World) (hv:ValAt w w.heap.size cs t):Calls Tryz.prog 37 #[.agg ⟨cs⟩] w fun e w'=>e= .returned (.bool (decide (cntV t 0<=200) && zm t 1))/\Below w.heap.size w w':=by
 have HB1:=I (zd w (.cells ⟨cs⟩ 26))
 have HS1:=I (zw w (.cells ⟨cs⟩ 26))
 have HR1:=I (zv w cs 26)
 have HL:=I (zj hv)
 have HV:=I (hv.next HB1.o)
 have HP:=I (zbb t cs (w.alloc (.cells ⟨cs⟩ 26)) HV.o)
 clear hv
 go_enter Tryz.func37,Tryz.ntmps37
 go_upto_region 1 with (fail)
 generalize w.alloc (.cells ⟨cs⟩ 26)= W at*
 by_cases hc:cntV t 0<=200
 ·have t1:((cntV t 0:Nat):Int)<=200:=by omega
  have HD:Hid ((decide (cntV t 0<=200) && zm t 1)= zm t 1):=I (by rw[decide_eq_true hc];exact Bool.true_and _)
  go_wp2_with (first|((with_reducible refine za 26 _ rfl ?_ w.heap.size 0 cs _ rfl HR1.o Tryz.underlying26 rfl ?_ ?_);exact wA rfl;rw[HL.o.1];kernel_rfl)|(go_at_call 58;refine HP.o.mono ?_;rintro e z ⟨rfl,hbz⟩;have HB2:=I hbz;clear hbz)|(go_at_call 59;refine(z9S t 1 cs w.heap.size 0 _ (by decide) (Nat.lt_of_lt_of_le HS1.o HB2.o.size) (zc HR1.o HB2.o HS1.o) (HV.o.next HB2.o)).mono ?_;rintro e z2 ⟨rfl,hbz⟩;have HB3:=I hbz;clear hbz))
  go_ret
  exact⟨z7 HD.o.symm,HB1.o.trans ((HB2.o.trans (HB3.o.mono HB2.o.size)).mono HB1.o.size)⟩
 ·have t1: ¬ (((cntV t 0:Nat):Int)<=200):=by omega
  have HD:Hid ((decide (cntV t 0<=200) && zm t 1)= false):=I (by rw[decide_eq_false hc];exact Bool.false_and _)
  go_wp2_with (first|((with_reducible refine za 26 _ rfl ?_ w.heap.size 0 cs _ rfl HR1.o Tryz.underlying26 rfl ?_ ?_);exact wA rfl;rw[HL.o.1];kernel_rfl)|(go_at_call 58;refine HP.o.mono ?_;rintro e z ⟨rfl,hbz⟩;have HB2:=I hbz;clear hbz))
  go_ret
  first|exact⟨z7 HD.o.symm,HB1.o.trans (HB2.o.mono HB1.o.size)⟩|exact⟨rfl,HB1.o.trans (HB2.o.mono HB1.o.size)⟩
end
section
open Go
def zk (f:Nat):Nat:=if nanB f= true then 9221120237041090560 else f
theorem z9o {f:Nat} (h:nanB f= true):cmpF (zk f) f= 0:=by
 have h1:nanB 9221120237041090560= true:=by decide +kernel
 unfold zk
 rw[if_pos h]
 unfold cmpF
 rw[h1,h]
 rfl
theorem z8r (f:Nat):cmpF (zk f) f= 0:=by
 by_cases h:nanB f= true
 ·exact z9o h
 ·unfold zk
  rw[if_neg h]
  exact cmpF_good.refl f
theorem z8a (f:Nat):(cmpF (zk f) 0 ==0)=(cmpF f 0 ==0):=by
 have h1:=z8r f
 have h2:=cmpF_good.anti (zk f) f
 have t1:=cmpF_good.trans (zk f) f 0
 have t2:=cmpF_good.trans f (zk f) 0
 have t3:=cmpF_good.trans 0 (zk f) f
 have t4:=cmpF_good.trans 0 f (zk f)
 have a1:=cmpF_good.anti (zk f) 0
 have a2:=cmpF_good.anti f 0
 rw[Bool.eq_iff_iff,beq_iff_eq,beq_iff_eq]
 constructor<;>intro h<;>omega
mutual
def z00:VT->VT
 | .mk k n f s ns its=> .mk k n (zk f) s ns (z0D its)
def z0D:List VT->List VT
 |[]=>[]
 |a::l=>z00 a::z0D l
end
theorem z1o:∀ l:List VT,z0D l= l.map z00
 |[]=>by rw[z0D];rfl
 |a::l=>by rw[z0D,z1o l];rfl
theorem z3c (l:List VT):(z0D l).length= l.length:=by rw[z1o,List.length_map]
theorem z8f (a b c d:Bool) (n:Int) (f:Nat) (s:ByteArray) (x y:Nat):bareB a b c d n (zk f) s x y= bareB a b c d n f s x y:=by
 unfold bareB
 rw[z8a]
theorem z3J:∀ (l:List VT) (d:Nat),(∀ x∈l,∀ d,zm (z00 x) d= zm x d)->zF (z0D l) d= zF l d
 |[],d,_=>by rw[z0D]
 |a::l,d,h=>by
  rw[z0D,zF,zF,h a (List.mem_cons_self ..),z3J l d fun x hx=>h x (List.mem_cons_of_mem _ hx)]
theorem z8j (t:VT):∀ d,zm (z00 t) d= zm t d:=by
 induction t using VT.ind with
 |h k n f s ns its ih=>
  intro d
  rw[z00,zm,zm]
  simp only[z8f,z3c,z3J its _ ih]
theorem z5L:∀ (l:List VT) (m:Nat),(∀ x∈l,∀ m,cntV (z00 x) m= cntV x m)->cntL (z0D l) m= cntL l m
 |[],m,_=>by rw[z0D]
 |a::l,m,h=>by
  rw[z0D,cntL,cntL,h a (List.mem_cons_self ..)]
  split
  ·rfl
  ·exact z5L l _ fun x hx=>h x (List.mem_cons_of_mem _ hx)
theorem z8b (t:VT):∀ m,cntV (z00 t) m= cntV t m:=by
 induction t using VT.ind with
 |h k n f s ns its ih=>
  intro m
  rw[z00,cntV,cntV]
  exact z5L its _ ih
end
section
open Go Go.RowKit
theorem z6Q (f:Nat):cmpF f 0= 0↔f= 0:=by
 constructor
 ·intro h
  have h0:nanB 0= false:=by decide +kernel
  unfold cmpF at h
  rw[h0] at h
  by_cases hn:nanB f= true
  ·rw[hn] at h;simp at h
  ·have hn':nanB f= false:=by simpa using hn
   rw[hn'] at h
   simp only[ne_eq,not_true_eq_false,if_false,Bool.false_eq_true] at h
   by_cases hf:f= 0
   ·exact hf
   ·exfalso
    have hr0:rankZ 0= 0:=by unfold rankZ;simp
    rw[hr0] at h
    rcases hord:fOrd f 0 with _|o
    ·unfold nanB at hn'
     rw[z35] at hord hn'
     have ha:nanD (dat f)= 0:=by
      rw[z17] at*
      by_cases hd:nanD (dat f)= 0
      ·exact hd
      ·rw[z2b _ _ (.inl hd)] at hn';simp at hn'
     have hb:nanD (dat 0)= 0:=by have:=z17 0;rw[h0] at this;simpa using this.symm
     obtain⟨h1,h2,h3⟩:=z2c (dat f) (dat 0) (z1a f) (z1a 0) ha hb
     have h4:=z7k (dat f) (dat 0)
     rw[hord] at h1 h2 h3
     simp at h1 h2 h3
     omega
    ·have hz:rankZ f= if(fOrd f 0 ==some .eq)= true then -1 else 0:=by unfold rankZ;simp[hf]
     rw[hord] at h hz
     cases o
     ·simp at h
     ·simp at hz;rw[hz] at h;simp at h
     ·simp at h
 ·rintro rfl
  exact cmpF_good.refl 0
def nanR (f:Nat):Bool:=decide (18437736874454810624 < IntKind.u64.wrap ((f:Int) *2))
theorem z4N (f:Nat) (hf:f < 2 ^ 64) (w:World):Calls Tryz.prog 138 #[.float .f64 f] w fun e w'=>e= .returned (.bool (nanR f))/\w'= w:=by
 have e1:∀ W:World,(callFunc 166 #[.float .f64 f]).run Tryz.prog W= .ok (.value (.int .u64 f)) W:=fun W=>by
  rw[run_callFunc_extern Tryz.func166 (by kernel_rfl) (by kernel_rfl) (by kernel_rfl) (e:=Extern.MathFloatBits.float64bits) (by kernel_rfl)]
  rfl
 go_enter Tryz.func138,Tryz.ntmps138
 go_wp2
 go_ret
 exact⟨rfl,rfl⟩
def canR (f:Nat):Nat:=if nanR f= true then 9221120237041090560 else f
theorem z4J (f:Nat) (hf:f < 2 ^ 64) (w:World):Calls Tryz.prog 125 #[.float .f64 f] w fun e w'=>e= .returned (.float .f64 (canR f))/\w'= w:=by
 have e1:∀ W:World,(callFunc 149 #[.int .u64 9221120237041090560]).run Tryz.prog W= .ok (.value (.float .f64 9221120237041090560)) W:=fun W=>by
  rw[run_callFunc_extern Tryz.func149 (by kernel_rfl) (by kernel_rfl) (by kernel_rfl) (e:=Extern.MathFloatBits.float64frombits) (by kernel_rfl)]
  rfl
 have HC:=I (fun w=>z4N f hf w)
 clear hf
 cases hn:nanR f with
 |true=>
  have HV:Hid (canR f= 9221120237041090560):=I (if_pos hn)
  rw[hn] at HC
  clear hn
  go_enter Tryz.func125,Tryz.ntmps125
  go_wp2_with (go_at_call 138;refine(HC.o _).mono ?_;rintro e z ⟨rfl,rfl⟩)
  go_ret
  exact⟨congrArg (fun x=>Ending.returned (.float .f64 x)) HV.o.symm,rfl⟩
 |false=>
  have HV:Hid (canR f= f):=I (if_neg (by rw[hn];decide))
  rw[hn] at HC
  clear hn
  go_enter Tryz.func125,Tryz.ntmps125
  go_wp2_with (go_at_call 138;refine(HC.o _).mono ?_;rintro e z ⟨rfl,rfl⟩)
  go_ret
  exact⟨congrArg (fun x=>Ending.returned (.float .f64 x)) HV.o.symm,rfl⟩
theorem z7e {f:Nat}:canR f= 0↔f= 0:=by
 unfold canR
 split
 ·next h=>
  constructor
  ·intro h2;omega
  ·rintro rfl;revert h;decide +kernel
 ·exact Iff.rfl
theorem z5i (f:Nat) (hf:f < 2 ^ 64) (w:World):Calls Tryz.prog 137 #[.float .f64 f,.float .f64 0] w fun e w'=>e= .returned (.bool (cmpF f 0 ==0))/\w'= w:=by
 have HC:=I (fun w=>z4J f hf w)
 have HZ:=I (fun w=>z4J 0 (by decide) w)
 have hz:canR 0= 0:=z7e.2 rfl
 rw[hz] at HZ
 have HV:Hid ((cmpF f 0 ==0)=((canR f:Int) ==0)):=I (by
  have h1:=z6Q f
  have h2:=z7e (f:=f)
  by_cases h:f= 0
  ·rw[h1.2 h,h2.2 h];rfl
  ·rw[beq_eq_false_iff_ne.2 fun h3=>h (h1.1 h3),beq_eq_false_iff_ne.2]
   intro h3;exact h (h2.1 (by omega)))
 clear hz hf
 generalize canR f= g at*
 have e1:∀ W:World,(callFunc 166 #[.float .f64 g]).run Tryz.prog W= .ok (.value (.int .u64 g)) W:=fun W=>by
  rw[run_callFunc_extern Tryz.func166 (by kernel_rfl) (by kernel_rfl) (by kernel_rfl) (e:=Extern.MathFloatBits.float64bits) (by kernel_rfl)]
  rfl
 have e2:∀ W:World,(callFunc 166 #[.float .f64 0]).run Tryz.prog W= .ok (.value (.int .u64 0)) W:=fun W=>by
  rw[run_callFunc_extern Tryz.func166 (by kernel_rfl) (by kernel_rfl) (by kernel_rfl) (e:=Extern.MathFloatBits.float64bits) (by kernel_rfl)]
  rfl
 go_enter Tryz.func137,Tryz.ntmps137
 go_wp2_with (first|(go_at_call 125;refine(HC.o _).mono ?_;rintro e z ⟨rfl,rfl⟩)|(go_at_call 125;refine(HZ.o _).mono ?_;rintro e z ⟨rfl,rfl⟩))
 go_ret
 exact⟨z7 HV.o.symm,rfl⟩
theorem zbB (k n:Int) (f:Nat) (s:ByteArray) (vn vi:Value) (hf:f < 2 ^ 64) (w:World):Calls Tryz.prog 86 #[.agg ⟨[.int .i64 k,.int .i64 n,.float .f64 f,.string s,vn,vi]⟩] w fun e w'=>e= .returned (.bool (cmpF f 0 ==0))/\Below w.heap.size w w':=by
 have HC:=I (fun w=>z5i f hf w)
 have HB1:=I (zd w (.cells ⟨[.int .i64 k,.int .i64 n,.float .f64 f,.string s,vn,vi]⟩ 26))
 clear hf
 go_enter Tryz.func86,Tryz.ntmps86
 go_wp2_with (go_at_call 137;refine(HC.o _).mono ?_;rintro e z ⟨rfl,rfl⟩)
 go_ret
 exact⟨rfl,HB1.o⟩
end
section
open Go Go.RowKit
theorem zdk {s:ByteArray} {k:Nat} {c:UInt8} (h:s.data.toList[k]?= some c) (hk:k < s.size):s[k]'hk= c:=by
 have h2:s.data[k]?= some c:=by simpa using h
 obtain⟨h3,h4⟩:=Array.getElem?_eq_some_iff.1 h2
 exact h4
theorem z48 (s:ByteArray) (w:World):Calls Tryz.prog 92 #[.string s] w fun e w'=>e= .returned (.bool (nameB s))/\w'= w:=by
 have HN:Hid (nameB s=(decide (0 < s.size) && decide (s.size<=30) && zW s.data.toList 0)):=I rfl
 have HL:Hid (s.data.toList.length= s.size):=I (by cases s;rfl)
 by_cases h0:s.size= 0
 ·have t1:(s.size:Int) < 1:=by omega
  have HR:Hid (nameB s= false):=I (by rw[HN.o,h0];rfl)
  clear h0
  go_enter Tryz.func92,Tryz.ntmps92
  go_wp2
  go_ret
  exact⟨z7 HR.o.symm,rfl⟩
 have t1: ¬ ((s.size:Int) < 1):=by omega
 by_cases h1:s.size<=30
 ·have t2: ¬ ((30:Int) <(s.size:Int)):=by omega
  have HR:Hid (nameB s= zW s.data.toList 0):=I (by rw[HN.o,decide_eq_true (by omega),decide_eq_true h1];rfl)
  have HS:=I (fun k c=>z4y (l:=s.data.toList) (k:=k) (c:=c))
  have HE:Hid (∀ k,zW (s.data.toList.drop s.size) k= true):=I fun k=>by rw[List.drop_eq_nil_of_le (by rw[HL.o];exact Nat.le_refl _)];rfl
  have H0:Hid (zW (s.data.toList.drop 0) 0= zW s.data.toList 0):=I rfl
  generalize zW s.data.toList 0= res at*
  go_enter Tryz.func92,Tryz.ntmps92
  go_wp2
  go_loopg [3] s.size (fun q x u=>∃ k:Nat,k+q= s.size/\x= .int .i64 k/\u= w/\zW (s.data.toList.drop k) k= res)
  case atStart=>exact⟨0,by omega,rfl,rfl,H0.o⟩
  case round=>
   obtain⟨k,hk,rfl,rfl,hres⟩:=hrel
   have HR2:=I hres
   clear hres
   cases gk with
   |zero=>
    obtain rfl:k= s.size:=by omega
    have hge: ¬ ((s.size:Int) <(s.size:Int)):=by omega
    have HV:=I (HR2.o.symm.trans (HE.o s.size))
    go_wp2
    go_ret
    exact⟨z7 (HR.o.trans HV.o).symm,rfl⟩
   |succ q=>
    have hlt:(k:Int) <(s.size:Int):=by omega
    obtain⟨c,hc⟩:∃ c,s.data.toList[k]?= some c:=⟨_,List.getElem?_eq_getElem (by rw[HL.o];omega)⟩
    have dk:=fun h=>zdk (k:=k) (c:=c) hc h
    have HKC:=I hc
    clear hc
    by_cases h97:97<=c.toNat
    ·have d97:decide (97<=c.toNat)= true:=decide_eq_true (by omega)
     have f97:97<=(c.toNat:Int):=by omega
     by_cases h122:c.toNat<=122
     ·have d122:decide (c.toNat<=122)= true:=decide_eq_true (by omega)
      have f122:(c.toNat:Int)<=122:=by omega
      have hok:okC k c= true:=by unfold okC;simp only[d97,d122,Bool.true_and,Bool.and_true,Bool.or_true,Bool.true_or,Bool.false_or,Bool.or_false,Bool.and_false,Bool.false_and]
      have HV:Hid (res= zW (s.data.toList.drop (k+1)) (k+1)):=I (HR2.o.symm.trans ((HS.o k c HKC.o).trans (by rw[hok];exact Bool.true_and _)))
      clear hok
      go_wp2
      go_roundg q
      case measure=>omega
      case rel=>exact⟨k+1,by omega,by go_num,rfl,HV.o.symm⟩
     ·have d122:decide (c.toNat<=122)= false:=decide_eq_false (by omega)
      have f122: ¬ ((c.toNat:Int)<=122):=by omega
      by_cases hk0:k= 0
      ·subst hk0
       have dk0:decide ((0:Nat) < 0)= false:=rfl
       have hok:okC 0 c= false:=by unfold okC;simp only[d97,d122,dk0,Bool.true_and,Bool.and_true,Bool.or_true,Bool.true_or,Bool.false_or,Bool.or_false,Bool.and_false,Bool.false_and]
       have HV:Hid (res= false):=I (HR2.o.symm.trans ((HS.o 0 c HKC.o).trans (by rw[hok];exact Bool.false_and _)))
       clear hok
       go_wp2
       go_ret
       exact⟨z7 (HR.o.trans HV.o).symm,rfl⟩
      ·have dk0:decide (0 < k)= true:=decide_eq_true (by omega)
       have k0':((k:Int) ==0)= false:=by rw[beq_eq_false_iff_ne];omega
       have k0i: ¬ ((k:Int)= 0):=by omega
       by_cases h48:48<=c.toNat
       ·have d48:decide (48<=c.toNat)= true:=decide_eq_true (by omega)
        have f48:48<=(c.toNat:Int):=by omega
        by_cases h57:c.toNat<=57
        ·have d57:decide (c.toNat<=57)= true:=decide_eq_true (by omega)
         have f57:(c.toNat:Int)<=57:=by omega
         have hok:okC k c= true:=by unfold okC;simp only[d97,d122,dk0,d48,d57,Bool.true_and,Bool.and_true,Bool.or_true,Bool.true_or,Bool.false_or,Bool.or_false,Bool.and_false,Bool.false_and]
         have HV:Hid (res= zW (s.data.toList.drop (k+1)) (k+1)):=I (HR2.o.symm.trans ((HS.o k c HKC.o).trans (by rw[hok];exact Bool.true_and _)))
         clear hok
         go_wp2
         go_roundg q
         case measure=>omega
         case rel=>exact⟨k+1,by omega,by go_num,rfl,HV.o.symm⟩
        ·have d57:decide (c.toNat<=57)= false:=decide_eq_false (by omega)
         have f57: ¬ ((c.toNat:Int)<=57):=by omega
         by_cases h95:c.toNat= 95
         ·have e1:(c.toNat ==95)= true:=by simpa using h95
          have e2:((c.toNat:Int) ==95)= true:=by rw[beq_iff_eq];omega
          have e3:((c.toNat:Int) !=95)= false:=by rw[h95];rfl
          have hok:okC k c= true:=by unfold okC;simp only[d97,d122,dk0,d48,d57,e1,Bool.true_and,Bool.and_true,Bool.or_true,Bool.true_or,Bool.false_or,Bool.or_false,Bool.and_false,Bool.false_and]
          have HV:Hid (res= zW (s.data.toList.drop (k+1)) (k+1)):=I (HR2.o.symm.trans ((HS.o k c HKC.o).trans (by rw[hok];exact Bool.true_and _)))
          clear hok
          go_wp2
          go_roundg q
          case measure=>omega
          case rel=>exact⟨k+1,by omega,by go_num,rfl,HV.o.symm⟩
         ·have e1:(c.toNat ==95)= false:=by simpa using h95
          have e2:((c.toNat:Int) ==95)= false:=by rw[beq_eq_false_iff_ne];omega
          have e3:((c.toNat:Int) !=95)= true:=by rw[bne_iff_ne];omega
          have hok:okC k c= false:=by unfold okC;simp only[d97,d122,dk0,d48,d57,e1,Bool.true_and,Bool.and_true,Bool.or_true,Bool.true_or,Bool.false_or,Bool.or_false,Bool.and_false,Bool.false_and]
          have HV:Hid (res= false):=I (HR2.o.symm.trans ((HS.o k c HKC.o).trans (by rw[hok];exact Bool.false_and _)))
          clear hok
          go_wp2
          go_ret
          exact⟨z7 (HR.o.trans HV.o).symm,rfl⟩
       ·have d48:decide (48<=c.toNat)= false:=decide_eq_false (by omega)
        have f48: ¬ (48<=(c.toNat:Int)):=by omega
        have h95:c.toNat≠95:=by omega
        have e1:(c.toNat ==95)= false:=by simpa using h95
        have e2:((c.toNat:Int) ==95)= false:=by rw[beq_eq_false_iff_ne];omega
        have e3:((c.toNat:Int) !=95)= true:=by rw[bne_iff_ne];omega
        have hok:okC k c= false:=by unfold okC;simp only[d97,d122,dk0,d48,e1,Bool.true_and,Bool.and_true,Bool.or_true,Bool.true_or,Bool.false_or,Bool.or_false,Bool.and_false,Bool.false_and]
        have HV:Hid (res= false):=I (HR2.o.symm.trans ((HS.o k c HKC.o).trans (by rw[hok];exact Bool.false_and _)))
        clear hok
        go_wp2
        go_ret
        exact⟨z7 (HR.o.trans HV.o).symm,rfl⟩
    ·have d97:decide (97<=c.toNat)= false:=decide_eq_false (by omega)
     have f97: ¬ (97<=(c.toNat:Int)):=by omega
     by_cases hk0:k= 0
     ·subst hk0
      have dk0:decide ((0:Nat) < 0)= false:=rfl
      have hok:okC 0 c= false:=by unfold okC;simp only[d97,dk0,Bool.true_and,Bool.and_true,Bool.or_true,Bool.true_or,Bool.false_or,Bool.or_false,Bool.and_false,Bool.false_and]
      have HV:Hid (res= false):=I (HR2.o.symm.trans ((HS.o 0 c HKC.o).trans (by rw[hok];exact Bool.false_and _)))
      clear hok
      go_wp2
      go_ret
      exact⟨z7 (HR.o.trans HV.o).symm,rfl⟩
     ·have dk0:decide (0 < k)= true:=decide_eq_true (by omega)
      have k0':((k:Int) ==0)= false:=by rw[beq_eq_false_iff_ne];omega
      have k0i: ¬ ((k:Int)= 0):=by omega
      by_cases h48:48<=c.toNat
      ·have d48:decide (48<=c.toNat)= true:=decide_eq_true (by omega)
       have f48:48<=(c.toNat:Int):=by omega
       by_cases h57:c.toNat<=57
       ·have d57:decide (c.toNat<=57)= true:=decide_eq_true (by omega)
        have f57:(c.toNat:Int)<=57:=by omega
        have hok:okC k c= true:=by unfold okC;simp only[d97,dk0,d48,d57,Bool.true_and,Bool.and_true,Bool.or_true,Bool.true_or,Bool.false_or,Bool.or_false,Bool.and_false,Bool.false_and]
        have HV:Hid (res= zW (s.data.toList.drop (k+1)) (k+1)):=I (HR2.o.symm.trans ((HS.o k c HKC.o).trans (by rw[hok];exact Bool.true_and _)))
        clear hok
        go_wp2
        go_roundg q
        case measure=>omega
        case rel=>exact⟨k+1,by omega,by go_num,rfl,HV.o.symm⟩
       ·have d57:decide (c.toNat<=57)= false:=decide_eq_false (by omega)
        have f57: ¬ ((c.toNat:Int)<=57):=by omega
        by_cases h95:c.toNat= 95
        ·have e1:(c.toNat ==95)= true:=by simpa using h95
         have e2:((c.toNat:Int) ==95)= true:=by rw[beq_iff_eq];omega
         have e3:((c.toNat:Int) !=95)= false:=by rw[h95];rfl
         have hok:okC k c= true:=by unfold okC;simp only[d97,dk0,d48,d57,e1,Bool.true_and,Bool.and_true,Bool.or_true,Bool.true_or,Bool.false_or,Bool.or_false,Bool.and_false,Bool.false_and]
         have HV:Hid (res= zW (s.data.toList.drop (k+1)) (k+1)):=I (HR2.o.symm.trans ((HS.o k c HKC.o).trans (by rw[hok];exact Bool.true_and _)))
         clear hok
         go_wp2
         go_roundg q
         case measure=>omega
         case rel=>exact⟨k+1,by omega,by go_num,rfl,HV.o.symm⟩
        ·have e1:(c.toNat ==95)= false:=by simpa using h95
         have e2:((c.toNat:Int) ==95)= false:=by rw[beq_eq_false_iff_ne];omega
         have e3:((c.toNat:Int) !=95)= true:=by rw[bne_iff_ne];omega
         have hok:okC k c= false:=by unfold okC;simp only[d97,dk0,d48,d57,e1,Bool.true_and,Bool.and_true,Bool.or_true,Bool.true_or,Bool.false_or,Bool.or_false,Bool.and_false,Bool.false_and]
         have HV:Hid (res= false):=I (HR2.o.symm.trans ((HS.o k c HKC.o).trans (by rw[hok];exact Bool.false_and _)))
         clear hok
         go_wp2
         go_ret
         exact⟨z7 (HR.o.trans HV.o).symm,rfl⟩
      ·have d48:decide (48<=c.toNat)= false:=decide_eq_false (by omega)
       have f48: ¬ (48<=(c.toNat:Int)):=by omega
       have h95:c.toNat≠95:=by omega
       have e1:(c.toNat ==95)= false:=by simpa using h95
       have e2:((c.toNat:Int) ==95)= false:=by rw[beq_eq_false_iff_ne];omega
       have e3:((c.toNat:Int) !=95)= true:=by rw[bne_iff_ne];omega
       have hok:okC k c= false:=by unfold okC;simp only[d97,dk0,d48,e1,Bool.true_and,Bool.and_true,Bool.or_true,Bool.true_or,Bool.false_or,Bool.or_false,Bool.and_false,Bool.false_and]
       have HV:Hid (res= false):=I (HR2.o.symm.trans ((HS.o k c HKC.o).trans (by rw[hok];exact Bool.false_and _)))
       clear hok
       go_wp2
       go_ret
       exact⟨z7 (HR.o.trans HV.o).symm,rfl⟩
 ·have t2:(30:Int) <(s.size:Int):=by omega
  have HR:Hid (nameB s= false):=I (by rw[HN.o,decide_eq_false h1,Bool.and_false];rfl)
  go_enter Tryz.func92,Tryz.ntmps92
  go_wp2
  go_ret
  exact⟨z7 HR.o.symm,rfl⟩
theorem z5I (v:Value) (l:List ByteArray) (n:Nat) (w:World) (hv:SlAt w w.heap.size 1 StrR v l):
  Calls Tryz.prog 87 #[v,.int .i64 n] w fun e w'=>e= .returned (.bool (riseB none l && (l.length ==n)))/\Below w.heap.size w w':=by
 obtain⟨_,A,c,rfl,_⟩:=id hv
 obtain⟨_,hl,ha⟩:=z1J hv
 have HA:=I ha
 have H1:=I (fun s=>z5E (l:=l) (s:=s))
 have H2:=I (fun k p s=>z6F (l:=l) (k:=k) (p:=p) (s:=s))
 have HE:=I (z7W (l:=l))
 have H0:Hid (riseB (prevK l 0) (l.drop 0)= riseB none l):=I rfl
 have hl2:(l.length:Int)<=9223372036854775807:=by omega
 have HT:Hid ((l.length ==n)=((l.length:Int) ==(n:Int))):=I (by
  by_cases h:l.length= n
  ·subst h;simp
  ·rw[beq_eq_false_iff_ne.2 h,beq_eq_false_iff_ne.2];omega)
 clear ha hv
 generalize riseB none l= res at*
 go_enter Tryz.func87,Tryz.ntmps87
 go_wp2
 go_loopg [5] l.length (fun q x u=>∃ k:Nat,k+q= l.length/\x= .int .i64 k/\Below w.heap.size w u/\riseB (prevK l k) (l.drop k)= res)
 case atStart=>exact⟨0,by omega,rfl,Below.refl _ _,H0.o⟩
 case round=>
  obtain⟨k,hk,rfl,hb,hres⟩:=hrel
  have HR:=I hres
  have HBK:=I hb
  clear hres hb
  cases gk with
  |zero=>
   obtain rfl:k= l.length:=by omega
   have hge: ¬ ((l.length:Int) <(l.length:Int)):=by omega
   have HV:=I (HR.o.symm.trans HE.o)
   have HV2:Hid ((res && (l.length ==n))=((l.length:Int) ==(n:Int))):=I (by rw[HV.o,HT.o];exact Bool.true_and _)
   clear HR
   go_wp2
   go_ret
   exact⟨z7 HV2.o.symm,HBK.o⟩
  |succ q=>
   have hlt:(k:Int) <(l.length:Int):=by omega
   obtain⟨s,hs⟩:∃ s,l[k]?= some s:=⟨_,List.getElem?_eq_getElem (by omega)⟩
   obtain⟨b,o,rfl,hbl,hc⟩:=HA.o (by omega)
   have HCC:=I (fun i x hx=>(hc i x hx).1)
   have HBL:=I hbl
   have ds:=(HBK.o.cell (p:=⟨b,o+k,none⟩) hbl).trans (hc k s hs).1
   have HNM:=I (z48 s)
   have HSK:=I hs
   clear hc hbl hs
   rcases Nat.eq_zero_or_pos k with hk0|hk0
   ·subst hk0
    have ds0:wr.cell? ⟨b,o,none⟩= some (.string s):=ds
    have hlt0:(0:Int) <(l.length:Int):=by omega
    have HV:=I (HR.o.symm.trans (H1.o s HSK.o))
    clear HR
    generalize nameB s= nb at*
    cases nb with
    |false=>
     have HV2:Hid ((res && (l.length ==n))= false):=I (by rw[HV.o,Bool.false_and,Bool.false_and])
     clear HV
     go_wp2
     go_quiet ((go_at_call 92;exact Calls.quiet_of_same ((HNM.o _).mono fun e w' h=>⟨h.1,h.2⟩)))
     go_wp2
     go_ret
     exact⟨z7 HV2.o.symm,zI HBK.o _⟩
    |true=>
     have HV2:=I (HV.o.trans (Bool.true_and _))
     clear HV
     go_wp2
     go_quiet ((go_at_call 92;exact Calls.quiet_of_same ((HNM.o _).mono fun e w' h=>⟨h.1,h.2⟩)))
     go_wp2
     go_roundg q
     case measure=>omega
     case rel=>exact⟨1,by omega,by go_num,zI HBK.o _,HV2.o.symm⟩
   ·obtain⟨j,rfl⟩:∃ j,k= j+1:=⟨k - 1,by omega⟩
    obtain⟨p,hp⟩:∃ p,l[j]?= some p:=⟨_,List.getElem?_eq_getElem (by omega)⟩
    have HV:=I (HR.o.symm.trans (H2.o j p s hp HSK.o))
    have dp:=(HBK.o.cell (p:=⟨b,o+j,none⟩) HBL.o).trans (HCC.o j p hp)
    have hpos:(0:Int) <((j+1:Nat):Int):=by omega
    have hj2:(j:Int) <(l.length:Int):=by omega
    clear HR hp
    generalize nameB s= nb at*
    cases nb with
    |false=>
     have HV2:Hid ((res && (l.length ==n))= false):=I (by rw[HV.o,Bool.false_and,Bool.false_and])
     clear HV
     go_wp2
     go_quiet ((go_at_call 92;exact Calls.quiet_of_same ((HNM.o _).mono fun e w' h=>⟨h.1,h.2⟩)))
     go_wp2
     go_ret
     exact⟨z7 HV2.o.symm,zI HBK.o _⟩
    |true=>
     have HV2:=I (HV.o.trans (Bool.true_and _))
     clear HV
     cases hlt3:Op.bytesLess p.toList s.toList with
     |false=>
      have HV3:Hid ((res && (l.length ==n))= false):=I (by rw[HV2.o,hlt3,Bool.false_and,Bool.false_and])
      go_wp2
      go_quiet ((go_at_call 92;exact Calls.quiet_of_same ((HNM.o _).mono fun e w' h=>⟨h.1,h.2⟩)))
      go_wp2
      go_ret
      exact⟨z7 HV3.o.symm,zI HBK.o _⟩
     |true=>
      have HV3:=I (HV2.o.trans (by rw[hlt3,Bool.true_and]))
      go_wp2
      go_quiet ((go_at_call 92;exact Calls.quiet_of_same ((HNM.o _).mono fun e w' h=>⟨h.1,h.2⟩)))
      go_wp2
      go_roundg q
      case measure=>omega
      case rel=>exact⟨j+2,by omega,by go_num,zI HBK.o _,HV3.o.symm⟩
end
section
open Go Go.RowKit
theorem z9K:∀ (t:VT) (m:Nat) (cs:List Value) (w:World),m < 500->ValAt w w.heap.size cs t->
  Calls Tryz.prog 85 #[.agg ⟨cs⟩,.int .i64 m] w fun e w'=>e= .returned (.int .i64 (cntV t m:Nat))/\Below w.heap.size w w':=by
 intro t
 induction t using VT.ind with
 |h k n f s ns its ih=>
  intro m cs w hm hv
  have IH:=I ih
  obtain⟨vn,vi,rfl,_,_,_,_,_,_,hi⟩:=hv.inv
  obtain⟨A,c,rfl,hil,hA⟩:=z1k hi
  have HA:=I hA
  have HS:=I (fun k m x=>z6P (l:=its) (k:=k) (m:=m) (x:=x))
  have HE:=I (fun m=>z7h (l:=its) (m:=m))
  have HLE:=I (fun x m hm=>z8V x m hm)
  have HCE:Hid (∀ k m,500<=m->cntL (its.drop k) m= m):=I (fun k m h=>by
   cases its.drop k with
   |nil=>rw[cntL]
   |cons a l=>rw[cntL,if_pos h])
  have H0:Hid (cntL (its.drop 0) (m+1)= cntV (.mk k n f s ns its) m):=I (by rw[cntV];rfl)
  clear ih hi hA hv
  generalize cntV (.mk k n f s ns its) m= res at*
  go_enter Tryz.func85,Tryz.ntmps85
  go_upto_region 1 with (fail)
  have hb0:=zd w (.cells ⟨[.int .i64 k,.int .i64 n,.float .f64 f,.string s,vn,.slice A its.length c]⟩ 26)
  have hz0:=zw w (.cells ⟨[.int .i64 k,.int .i64 n,.float .f64 f,.string s,vn,.slice A its.length c]⟩ 26)
  have c5:=zA w ⟨[.int .i64 k,.int .i64 n,.float .f64 f,.string s,vn,.slice A its.length c]⟩ 26 5
  generalize w.alloc (.cells ⟨[.int .i64 k,.int .i64 n,.float .f64 f,.string s,vn,.slice A its.length c]⟩ 26)= W at*
  have HB:=I hb0
  have C5:=I c5
  have HSZ:=I hz0
  clear hb0 c5 hz0
  have hm2:(m:Int) < 500:=by omega
  go_wp2
  go_loopg [1,5] its.length (fun g u i wr=>∃ (j m:Nat),j+g= its.length/\i= .int .i64 j/\u= .int .i64 m/\m<=500/\Below W.heap.size W wr/\cntL (its.drop j) m= res)
  case atStart=>exact⟨0,m+1,by omega,rfl,by go_num,by omega,Below.refl _ _,H0.o⟩
  case round=>
   obtain⟨j,m,hj,rfl,rfl,hm5,hb,hres⟩:=hrel
   have HB1:=I hb
   have HR:=I hres
   have d5:=(hb.cell (p:=⟨w.heap.size,5,none⟩) HSZ.o).trans C5.o
   clear hb hres
   simp only[List.getElem?_toArray,List.getElem?_cons_succ,List.getElem?_cons_zero] at d5
   have hm5':(m:Int)<=500:=by omega
   cases gk with
   |zero=>
    obtain rfl:j= its.length:=by omega
    have hge: ¬ ((its.length:Int) <(its.length:Int)):=by omega
    have HV:=I (HR.o.symm.trans (HE.o m))
    go_wp2
    go_ret
    exact⟨by rw[HV.o];go_num,HB.o.trans (HB1.o.mono HB.o.size)⟩
   |succ g=>
    have hlt:(j:Int) <(its.length:Int):=by omega
    by_cases h0:m < 500
    ·have hz2:w.heap.size<=wr.heap.size:=Nat.le_trans HB.o.size HB1.o.size
     obtain⟨y,hy⟩:∃ y,its[j]?= some y:=⟨_,List.getElem?_eq_getElem (by omega)⟩
     obtain⟨b,o,rfl,hbb,hc⟩:=HA.o (by omega)
     obtain⟨cs,hr,hR⟩:=hc j y hy
     have hB2:=HB.o.trans (HB1.o.mono HB.o.size)
     have HV:=I (HR.o.symm.trans (HS.o j m y hy))
     have HV2:=I (HV.o.trans (if_neg (by omega)))
     have HR1:=I (zc hr hB2 hbb)
     have HC:=I (IH.o y (List.mem_of_getElem? hy) m cs wr h0 (hR.next hB2))
     have HCL:=I (zj hR)
     have hle:=HLE.o y m h0
     have h0':(m:Int) < 500:=by omega
     clear hc hr hR hB2 hy HV h0
     go_wp2_with (first|((with_reducible refine za 26 _ rfl ?_ b (o+j*6) cs _ rfl HR1.o Tryz.underlying26 rfl ?_ ?_);(exact wA rfl);rw[HCL.o.1];kernel_rfl)|(go_at_call 85;refine HC.o.mono ?_;rintro e w' ⟨rfl,hb⟩;have HB2:=I hb;clear hb))
     go_roundg g
     case measure=>omega
     case rel=>exact⟨j+1,_,by omega,by go_num,rfl,hle,HB1.o.trans (HB2.o.mono HB1.o.size),HV2.o.symm⟩
    ·have HV:=I (HR.o.symm.trans (HCE.o j m (by omega)))
     have h0': ¬ ((m:Int) < 500):=by omega
     have hm500:m= 500:=by omega
     go_wp2
     all_goals
      go_ret
      exact⟨by rw[HV.o,hm500];rfl,HB.o.trans (HB1.o.mono HB.o.size)⟩
theorem z97 (t:VT) (cs:List Value) (w:World) (hv:ValAt w w.heap.size cs t):Calls Tryz.prog 47 #[.agg ⟨cs⟩] w fun e w'=>e= .returned (.int .i64 (cntV t 0:Nat))/\Below w.heap.size w w':=by
 have HCL:=I (vlen hv)
 have HV:=I hv
 clear hv
 go_enter Tryz.func47,Tryz.ntmps47
 go_upto_region 1 with (fail)
 have HB:=I (zd w (.cells ⟨cs⟩ 26))
 have HR:=I (zv w cs 26)
 generalize w.alloc (.cells ⟨cs⟩ 26)= W at*
 have HC:=I (z9K t 0 cs W (by omega) (HV.o.next HB.o))
 go_wp2_with (first|((with_reducible refine za 26 _ rfl ?_ w.heap.size 0 cs _ rfl HR.o Tryz.underlying26 rfl ?_ ?_);(exact wA rfl);rw[HCL.o];kernel_rfl)|(go_at_call 85;refine HC.o.mono ?_;rintro e w' ⟨rfl,hb⟩;have HB2:=I hb;clear hb))
 go_ret
 exact⟨rfl,HB.o.trans (HB2.o.mono HB.o.size)⟩
theorem lenB (l:Nat):(((l:Nat):Int) ==0)=(l ==0):=by
 by_cases h:l= 0
 ·subst h;rfl
 ·rw[beq_eq_false_iff_ne.2 h,beq_eq_false_iff_ne];omega
theorem sc2 (a b:Bool):a= false\/(a= true/\b= false)\/(a= true/\b= true):=by cases a<;>cases b<;>simp
theorem sc3 (a b c:Bool):a= false\/(a= true/\b= false)\/(a= true/\b= true/\c= false)\/(a= true/\b= true/\c= true):=by cases a<;>cases b<;>cases c<;>simp
theorem sc4 (a b c d:Bool):a= false\/(a= true/\b= false)\/(a= true/\b= true/\c= false)\/(a= true/\b= true/\c= true/\d= false)\/(a= true/\b= true/\c= true/\d= true):=by cases a<;>cases b<;>cases c<;>cases d<;>simp
theorem sc1 (a b c d e f:Bool):a= false\/(a= true/\b= false)\/(a= true/\b= true/\c= false)\/(a= true/\b= true/\c= true/\d= false)\/(a= true/\b= true/\c= true/\d= true/\e= true)\/(a= true/\b= true/\c= true/\d= true/\e= false/\f= true)\/(a= true/\b= true/\c= true/\d= true/\e= false/\f= false):=by cases a<;>cases b<;>cases c<;>cases d<;>cases e<;>cases f<;>simp
theorem sc5 (a b c d e:Bool):a= false\/(a= true/\b= false)\/(a= true/\b= true/\c= false)\/(a= true/\b= true/\c= true/\d= false)\/(a= true/\b= true/\c= true/\d= true/\e= false)\/(a= true/\b= true/\c= true/\d= true/\e= true):=by cases a<;>cases b<;>cases c<;>cases d<;>cases e<;>simp
theorem z9I:∀ (t:VT) (far d:Nat) (cs:List Value) (w:World),far+d= 13->ValAt w w.heap.size cs t->
  Calls Tryz.prog 48 #[.agg ⟨cs⟩,.int .i64 far] w fun e w'=>e= .returned (.bool (zm t d))/\Below w.heap.size w w':=by
 intro t
 induction t using VT.ind with
 |h k n f s ns its ih=>
  intro far d cs w hfd hv
  have IH:=I ih
  obtain⟨vn,vi,rfl,_,_,hf,_,hn,_,hi⟩:=hv.inv
  obtain⟨_,NA,nc,rfl,_⟩:=id hn
  obtain⟨A,c,rfl,hil,hA⟩:=z1k hi
  have hnl:=hn.1
  have HF:=I (wf64 hf)
  have HN:=I hn
  have HA:=I hA
  have hf13:far<=13:=by omega
  have hfd':d= 13 - far:=by omega
  have HO:Hid (zm (.mk k n f s ns its) d= if 12 < d then false
   else if k= 1 then bareB true false false false n f s ns.length its.length && (n / 2 ==0)
   else if k= 2 then bareB true false false false n f s ns.length its.length
   else if k= 3 then bareB false true false false n f s ns.length its.length
   else if k= 4 then bareB false false true false n f s ns.length its.length && decide (s.size<=200)
   else if k= 6 then(ns.length ==its.length) && (riseB none ns && (bareB false false false true n f s ns.length its.length && zF its (d+1)))
   else if k= 5 then bareB false false false true n f s ns.length its.length && ((ns.length ==0) && zF its (d+1))
   else false):=I (by rw[zm])
  generalize hres:zm (.mk k n f s ns its) d= res at*
  have HW:=I (zd w (.cells ⟨[.int .i64 k,.int .i64 n,.float .f64 f,.string s,.slice NA ns.length nc,.slice A its.length c]⟩ 26))
  have HSZ:=I (zw w (.cells ⟨[.int .i64 k,.int .i64 n,.float .f64 f,.string s,.slice NA ns.length nc,.slice A its.length c]⟩ 26))
  have HRG:=I (zv w [.int .i64 k,.int .i64 n,.float .f64 f,.string s,.slice NA ns.length nc,.slice A its.length c] 26)
  clear ih hv hi hA hf hres hn
  go_enter Tryz.func48,Tryz.ntmps48
  go_upto_region 1 with (fail)
  generalize w.alloc (.cells ⟨[.int .i64 k,.int .i64 n,.float .f64 f,.string s,.slice NA ns.length nc,.slice A its.length c]⟩ 26)= W at*
  have d0:W.cell? ⟨w.heap.size,0,none⟩= some (.int .i64 k):=by have:=HRG.o 0 _ rfl;simpa using this
  have d1:W.cell? ⟨w.heap.size,1,none⟩= some (.int .i64 n):=by have:=HRG.o 1 _ rfl;simpa using this
  have d3:W.cell? ⟨w.heap.size,3,none⟩= some (.string s):=by have:=HRG.o 3 _ rfl;simpa using this
  have d4:W.cell? ⟨w.heap.size,4,none⟩= some (.slice NA ns.length nc):=by have:=HRG.o 4 _ rfl;simpa using this
  have d5:W.cell? ⟨w.heap.size,5,none⟩= some (.slice A its.length c):=by have:=HRG.o 5 _ rfl;simpa using this
  have D5:=I d5
  have HB2:=I (Below.refl W.heap.size W)
  have HL6:Hid (∀ a b c d e f:Value,[a,b,c,d,e,f].length= 6):=I fun _ _ _ _ _ _=>rfl
  have HZ:=I (fun k n s vn vi z=>zbB k n f s vn vi HF.o z)
  have HNS:=I (fun z (hz:Below w.heap.size w z)=>z5I (.slice NA ns.length nc) ns its.length z ((HN.o.below hz fun _ _ _ h=>h).more hz.size))
  obtain⟨bi,hbi⟩:∃ b,(its.length ==0)= b:=⟨_,rfl⟩
  obtain⟨bm,hbm⟩:∃ b,(ns.length ==0)= b:=⟨_,rfl⟩
  obtain⟨bz,hcz⟩:∃ b,(cmpF f 0 ==0)= b:=⟨_,rfl⟩
  obtain⟨bs,hbs⟩:∃ b,s.toList.isEmpty= b:=⟨_,rfl⟩
  obtain⟨b0,hb0⟩:∃ b,(n ==0)= b:=⟨_,rfl⟩
  obtain⟨b1,hb1⟩:∃ b,(n ==1)= b:=⟨_,rfl⟩
  obtain⟨bl,hbl⟩:∃ b,decide (s.size<=200)= b:=⟨_,rfl⟩
  obtain⟨bn,hbn⟩:∃ b,(riseB none ns && (ns.length ==its.length))= b:=⟨_,rfl⟩
  have i1:((its.length:Int) ==0)= bi:=(lenB _).trans hbi
  have m1:((ns.length:Int) ==0)= bm:=(lenB _).trans hbm
  have m2:decide ((0:Int) <(ns.length:Int))=!bm:=by
   rw[← hbm]
   by_cases h:ns.length= 0
   ·rw[h];rfl
   ·rw[decide_eq_true (by omega),beq_eq_false_iff_ne.2 h];rfl
  have t2:(n !=0)=!b0:=by rw[← hb0];rfl
  have l1:decide ((s.size:Int)<=200)= bl:=by
   rw[← hbl]
   by_cases h:s.size<=200
   ·rw[decide_eq_true h,decide_eq_true (by omega)]
   ·rw[decide_eq_false h,decide_eq_false (by omega)]
  have t6:(n / 2 ==0)=(b0 || b1):=by
   rw[← hb0,← hb1]
   by_cases h0:n= 0
   ·subst h0;rfl
   ·by_cases h1:n= 1
    ·subst h1;rfl
    ·rw[beq_eq_false_iff_ne.2 h0,beq_eq_false_iff_ne.2 h1,Bool.or_false,beq_eq_false_iff_ne];omega
  rw[hcz] at HZ
  rw[hbn] at HNS
  by_cases hdeep:far= 0
  ·subst hdeep
   have t1:((0:Nat):Int) < 1:=by omega
   have hd12:12 < d:=by omega
   rcases sc2 bi bm with rfl|⟨rfl,rfl⟩|⟨rfl,rfl⟩
   all_goals (go_wp2;go_ret;exact⟨z7 (by rw[HO.o,if_pos hd12]),HW.o⟩)
  have t1: ¬ ((far:Int) < 1):=by omega
  have hd12: ¬ 12 < d:=by omega
  have HO:=I (HO.o.trans (if_neg hd12))
  by_cases k1:k= 1
  ·subst k1
   rcases sc1 bi bm bz bs b0 b1 with rfl|⟨rfl,rfl⟩|⟨rfl,rfl,rfl⟩|⟨rfl,rfl,rfl,rfl⟩|⟨rfl,rfl,rfl,rfl,rfl⟩|⟨rfl,rfl,rfl,rfl,rfl,rfl⟩|⟨rfl,rfl,rfl,rfl,rfl,rfl⟩
   all_goals (go_wp2_with (first|((with_reducible refine za 26 _ rfl ?_ w.heap.size 0 [.int .i64 1,.int .i64 n,.float .f64 f,.string s,.slice NA ns.length nc,.slice A its.length c] _ rfl HRG.o Tryz.underlying26 rfl ?_ ?_);(exact wA rfl);rw[HL6.o];kernel_rfl)|(go_at_call 86;refine(HZ.o _ _ _ _ _ _).mono ?_;rintro e z ⟨rfl,hb⟩;have HB2:=I (HB2.o.trans (hb.mono HB2.o.size));have d0':=(hb.cell (p:=⟨w.heap.size,0,none⟩) HSZ.o).trans d0;have d1':=(hb.cell (p:=⟨w.heap.size,1,none⟩) HSZ.o).trans d1;have d3':=(hb.cell (p:=⟨w.heap.size,3,none⟩) HSZ.o).trans d3;have d4':=(hb.cell (p:=⟨w.heap.size,4,none⟩) HSZ.o).trans d4;have d5':=(hb.cell (p:=⟨w.heap.size,5,none⟩) HSZ.o).trans d5;clear hb));go_ret;exact⟨z7 (by rw[HO.o];simp[bareB,hbi,hbm,hcz,hbs,hb0,hbl,t6]),HW.o.trans (HB2.o.mono HW.o.size)⟩)
  by_cases k2:k= 2
  ·subst k2
   rcases sc4 bi bm bz bs with rfl|⟨rfl,rfl⟩|⟨rfl,rfl,rfl⟩|⟨rfl,rfl,rfl,rfl⟩|⟨rfl,rfl,rfl,rfl⟩
   all_goals (go_wp2_with (first|((with_reducible refine za 26 _ rfl ?_ w.heap.size 0 [.int .i64 2,.int .i64 n,.float .f64 f,.string s,.slice NA ns.length nc,.slice A its.length c] _ rfl HRG.o Tryz.underlying26 rfl ?_ ?_);(exact wA rfl);rw[HL6.o];kernel_rfl)|(go_at_call 86;refine(HZ.o _ _ _ _ _ _).mono ?_;rintro e z ⟨rfl,hb⟩;have HB2:=I (HB2.o.trans (hb.mono HB2.o.size));have d0':=(hb.cell (p:=⟨w.heap.size,0,none⟩) HSZ.o).trans d0;have d1':=(hb.cell (p:=⟨w.heap.size,1,none⟩) HSZ.o).trans d1;have d3':=(hb.cell (p:=⟨w.heap.size,3,none⟩) HSZ.o).trans d3;have d4':=(hb.cell (p:=⟨w.heap.size,4,none⟩) HSZ.o).trans d4;have d5':=(hb.cell (p:=⟨w.heap.size,5,none⟩) HSZ.o).trans d5;clear hb));go_ret;exact⟨z7 (by rw[HO.o];simp[bareB,hbi,hbm,hcz,hbs,hb0,hbl,t6]),HW.o.trans (HB2.o.mono HW.o.size)⟩)
  by_cases k3:k= 3
  ·subst k3
   rcases sc4 bi bm b0 bs with rfl|⟨rfl,rfl⟩|⟨rfl,rfl,rfl⟩|⟨rfl,rfl,rfl,rfl⟩|⟨rfl,rfl,rfl,rfl⟩
   all_goals (go_wp2_with (first|((with_reducible refine za 26 _ rfl ?_ w.heap.size 0 [.int .i64 3,.int .i64 n,.float .f64 f,.string s,.slice NA ns.length nc,.slice A its.length c] _ rfl HRG.o Tryz.underlying26 rfl ?_ ?_);(exact wA rfl);rw[HL6.o];kernel_rfl)|(go_at_call 86;refine(HZ.o _ _ _ _ _ _).mono ?_;rintro e z ⟨rfl,hb⟩;have HB2:=I (HB2.o.trans (hb.mono HB2.o.size));have d0':=(hb.cell (p:=⟨w.heap.size,0,none⟩) HSZ.o).trans d0;have d1':=(hb.cell (p:=⟨w.heap.size,1,none⟩) HSZ.o).trans d1;have d3':=(hb.cell (p:=⟨w.heap.size,3,none⟩) HSZ.o).trans d3;have d4':=(hb.cell (p:=⟨w.heap.size,4,none⟩) HSZ.o).trans d4;have d5':=(hb.cell (p:=⟨w.heap.size,5,none⟩) HSZ.o).trans d5;clear hb));go_ret;exact⟨z7 (by rw[HO.o];simp[bareB,hbi,hbm,hcz,hbs,hb0,hbl,t6]),HW.o.trans (HB2.o.mono HW.o.size)⟩)
  by_cases k4:k= 4
  ·subst k4
   rcases sc5 bi bm bz b0 bl with rfl|⟨rfl,rfl⟩|⟨rfl,rfl,rfl⟩|⟨rfl,rfl,rfl,rfl⟩|⟨rfl,rfl,rfl,rfl,rfl⟩|⟨rfl,rfl,rfl,rfl,rfl⟩
   all_goals (go_wp2_with (first|((with_reducible refine za 26 _ rfl ?_ w.heap.size 0 [.int .i64 4,.int .i64 n,.float .f64 f,.string s,.slice NA ns.length nc,.slice A its.length c] _ rfl HRG.o Tryz.underlying26 rfl ?_ ?_);(exact wA rfl);rw[HL6.o];kernel_rfl)|(go_at_call 86;refine(HZ.o _ _ _ _ _ _).mono ?_;rintro e z ⟨rfl,hb⟩;have HB2:=I (HB2.o.trans (hb.mono HB2.o.size));have d0':=(hb.cell (p:=⟨w.heap.size,0,none⟩) HSZ.o).trans d0;have d1':=(hb.cell (p:=⟨w.heap.size,1,none⟩) HSZ.o).trans d1;have d3':=(hb.cell (p:=⟨w.heap.size,3,none⟩) HSZ.o).trans d3;have d4':=(hb.cell (p:=⟨w.heap.size,4,none⟩) HSZ.o).trans d4;have d5':=(hb.cell (p:=⟨w.heap.size,5,none⟩) HSZ.o).trans d5;clear hb));go_ret;exact⟨z7 (by rw[HO.o];simp[bareB,hbi,hbm,hcz,hbs,hb0,hbl,t6]),HW.o.trans (HB2.o.mono HW.o.size)⟩)
  by_cases k6:k= 6
  ·subst k6
   have HOK:Hid (res=(bz && (b0 && (bs && (bn && zF its (d+1)))))):=I (by
    rw[HO.o,if_neg (by decide),if_neg (by decide),if_neg (by decide),if_neg (by decide),if_pos rfl,← hbn]
    unfold bareB
    rw[hcz,hbs,hb0]
    generalize zF its (d+1)= z
    generalize riseB none ns= x
    generalize (ns.length ==its.length)= y
    cases x<;>cases y<;>cases z<;>cases b0<;>cases bz<;>cases bs<;>rfl)
   rcases sc2 bi bm with rfl|⟨rfl,rfl⟩|⟨rfl,rfl⟩<;>rcases sc4 bz b0 bs bn with rfl|⟨rfl,rfl⟩|⟨rfl,rfl,rfl⟩|⟨rfl,rfl,rfl,rfl⟩|⟨rfl,rfl,rfl,rfl⟩
   all_goals try simp only[Bool.not_true,Bool.not_false] at m2
   all_goals try simp only[Bool.not_true,Bool.not_false] at t2
   all_goals first
    |(go_wp2_with (first|((with_reducible refine za 26 _ rfl ?_ w.heap.size 0 [.int .i64 6,.int .i64 n,.float .f64 f,.string s,.slice NA ns.length nc,.slice A its.length c] _ rfl HRG.o Tryz.underlying26 rfl ?_ ?_);(exact wA rfl);rw[HL6.o];kernel_rfl)|(go_at_call 86;refine(HZ.o _ _ _ _ _ _).mono ?_;rintro e z ⟨rfl,hb⟩;have HB2:=I (HB2.o.trans (hb.mono HB2.o.size));have d0':=(hb.cell (p:=⟨w.heap.size,0,none⟩) HSZ.o).trans d0;have d1':=(hb.cell (p:=⟨w.heap.size,1,none⟩) HSZ.o).trans d1;have d3':=(hb.cell (p:=⟨w.heap.size,3,none⟩) HSZ.o).trans d3;have d4':=(hb.cell (p:=⟨w.heap.size,4,none⟩) HSZ.o).trans d4;have d5':=(hb.cell (p:=⟨w.heap.size,5,none⟩) HSZ.o).trans d5;clear hb)|(go_at_call 87;refine(HNS.o _ (HW.o.trans (HB2.o.mono HW.o.size))).mono ?_;rintro e z2 ⟨rfl,hb⟩;have HB2:=I (HB2.o.trans (hb.mono HB2.o.size));clear hb));go_ret;exact⟨z7 (by rw[HOK.o];rfl),HW.o.trans (HB2.o.mono HW.o.size)⟩)
    |skip
   all_goals
    have HR:Hid (res= zF its (d+1)):=I (by rw[HOK.o];rfl)
    go_wp2_with (first|((with_reducible refine za 26 _ rfl ?_ w.heap.size 0 [.int .i64 6,.int .i64 n,.float .f64 f,.string s,.slice NA ns.length nc,.slice A its.length c] _ rfl HRG.o Tryz.underlying26 rfl ?_ ?_);(exact wA rfl);rw[HL6.o];kernel_rfl)|(go_at_call 86;refine(HZ.o _ _ _ _ _ _).mono ?_;rintro e z ⟨rfl,hb⟩;have HB2:=I (HB2.o.trans (hb.mono HB2.o.size));have d0':=(hb.cell (p:=⟨w.heap.size,0,none⟩) HSZ.o).trans d0;have d1':=(hb.cell (p:=⟨w.heap.size,1,none⟩) HSZ.o).trans d1;have d3':=(hb.cell (p:=⟨w.heap.size,3,none⟩) HSZ.o).trans d3;have d4':=(hb.cell (p:=⟨w.heap.size,4,none⟩) HSZ.o).trans d4;have d5':=(hb.cell (p:=⟨w.heap.size,5,none⟩) HSZ.o).trans d5;clear hb)|(go_at_call 87;refine(HNS.o _ (HW.o.trans (HB2.o.mono HW.o.size))).mono ?_;rintro e z2 ⟨rfl,hb⟩;have HB2:=I (HB2.o.trans (hb.mono HB2.o.size));clear hb))
    go_loopg [6] its.length (fun q x u=>∃ j:Nat,j+q= its.length/\x= .int .i64 j/\Below W.heap.size W u/\zF (its.drop j) (d+1)= res)
    case atStart=>exact⟨0,by omega,rfl,HB2.o,HR.o.symm⟩
    case round=>
     obtain⟨j,hj,rfl,hb,hres⟩:=hrel
     have HR2:=I hres
     have HBK:=I hb
     have d5':=(hb.cell (p:=⟨w.heap.size,5,none⟩) HSZ.o).trans D5.o
     clear hres hb
     cases gk with
     |zero=>
      obtain rfl:j= its.length:=by omega
      have hge: ¬ ((its.length:Int) <(its.length:Int)):=by omega
      have HVE:=I (HR2.o.symm.trans z2q)
      go_wp2
      go_ret
      exact⟨z7 HVE.o.symm,HW.o.trans (HBK.o.mono HW.o.size)⟩
     |succ q=>
      have hlt:(j:Int) <(its.length:Int):=by omega
      obtain⟨x,hx⟩:∃ x,its[j]?= some x:=⟨_,List.getElem?_eq_getElem (by omega)⟩
      obtain⟨b,o',rfl,hbl,hc⟩:=HA.o (by omega)
      obtain⟨ks,hks,hvx⟩:=hc j x hx
      have HVS:=I (HR2.o.symm.trans (z1V hx))
      have HBT:=I (HW.o.trans (HBK.o.mono HW.o.size))
      have HKS:=I (zc hks HBT.o hbl)
      have HKL:=I (zj hvx)
      have HC:=I (IH.o x (List.mem_of_getElem? hx) (far - 1) (d+1) ks wr (by omega) (hvx.next HBT.o))
      have hd1:((far - 1:Nat):Int)=(far:Int) - 1:=by omega
      rw[hd1] at HC
      clear hc hks hvx hx hd1
      generalize zm x (d+1)= rx at*
      cases rx with
      |true=>
       have HV2:=I (HVS.o.trans (Bool.true_and _))
       clear HVS
       go_wp2_with (first|((with_reducible refine za 26 _ rfl ?_ b (o'+j*6) ks _ rfl HKS.o Tryz.underlying26 rfl ?_ ?_);(exact wA rfl);rw[HKL.o.1];kernel_rfl)|(go_at_call 48;refine HC.o.mono ?_;rintro e z ⟨rfl,hbz⟩;have HB3:=I hbz;clear hbz))
       go_roundg q
       case measure=>omega
       case rel=>exact⟨j+1,by omega,by go_num,HBK.o.trans (HB3.o.mono HBK.o.size),HV2.o.symm⟩
      |false=>
       have HV2:Hid (res= false):=I (HVS.o.trans (Bool.false_and _))
       clear HVS
       go_wp2_with (first|((with_reducible refine za 26 _ rfl ?_ b (o'+j*6) ks _ rfl HKS.o Tryz.underlying26 rfl ?_ ?_);(exact wA rfl);rw[HKL.o.1];kernel_rfl)|(go_at_call 48;refine HC.o.mono ?_;rintro e z ⟨rfl,hbz⟩;have HB3:=I hbz;clear hbz))
       go_ret
       exact⟨z7 HV2.o.symm,HBT.o.trans (HB3.o.mono HBT.o.size)⟩
  by_cases k5:k= 5
  ·subst k5
   have HOK:Hid (res=(bz && (b0 && (bs && (bm && zF its (d+1)))))):=I (by
    rw[HO.o,if_neg (by decide),if_neg (by decide),if_neg (by decide),if_neg (by decide),if_neg (by decide),if_pos rfl,hbm]
    unfold bareB
    rw[hcz,hbs,hb0]
    generalize zF its (d+1)= z
    cases bm<;>cases z<;>cases b0<;>cases bz<;>cases bs<;>rfl)
   cases bi<;>cases bm<;>rcases sc3 bz b0 bs with rfl|⟨rfl,rfl⟩|⟨rfl,rfl,rfl⟩|⟨rfl,rfl,rfl⟩
   all_goals try simp only[Bool.not_true,Bool.not_false] at m2
   all_goals try simp only[Bool.not_true,Bool.not_false] at t2
   all_goals try have m3:(0:Int) <(ns.length:Int):=of_decide_eq_true m2
   all_goals try have m4:0 < ns.length:=by omega
   all_goals first
    |(go_wp2_with (first|((with_reducible refine za 26 _ rfl ?_ w.heap.size 0 [.int .i64 5,.int .i64 n,.float .f64 f,.string s,.slice NA ns.length nc,.slice A its.length c] _ rfl HRG.o Tryz.underlying26 rfl ?_ ?_);(exact wA rfl);rw[HL6.o];kernel_rfl)|(go_at_call 86;refine(HZ.o _ _ _ _ _ _).mono ?_;rintro e z ⟨rfl,hb⟩;have HB2:=I (HB2.o.trans (hb.mono HB2.o.size));have d0':=(hb.cell (p:=⟨w.heap.size,0,none⟩) HSZ.o).trans d0;have d1':=(hb.cell (p:=⟨w.heap.size,1,none⟩) HSZ.o).trans d1;have d3':=(hb.cell (p:=⟨w.heap.size,3,none⟩) HSZ.o).trans d3;have d4':=(hb.cell (p:=⟨w.heap.size,4,none⟩) HSZ.o).trans d4;have d5':=(hb.cell (p:=⟨w.heap.size,5,none⟩) HSZ.o).trans d5;clear hb));go_ret;exact⟨z7 (by rw[HOK.o];rfl),HW.o.trans (HB2.o.mono HW.o.size)⟩)
    |skip
   all_goals
    have hm0:ns.length= 0:=eq_of_beq hbm
    rw[hm0] at d4
    clear hm0
    have HR:Hid (res= zF its (d+1)):=I (by rw[HOK.o];rfl)
    go_wp2_with (first|((with_reducible refine za 26 _ rfl ?_ w.heap.size 0 [.int .i64 5,.int .i64 n,.float .f64 f,.string s,.slice NA ns.length nc,.slice A its.length c] _ rfl HRG.o Tryz.underlying26 rfl ?_ ?_);(exact wA rfl);rw[HL6.o];kernel_rfl)|(go_at_call 86;refine(HZ.o _ _ _ _ _ _).mono ?_;rintro e z ⟨rfl,hb⟩;have HB2:=I (HB2.o.trans (hb.mono HB2.o.size));have d0':=(hb.cell (p:=⟨w.heap.size,0,none⟩) HSZ.o).trans d0;have d1':=(hb.cell (p:=⟨w.heap.size,1,none⟩) HSZ.o).trans d1;have d3':=(hb.cell (p:=⟨w.heap.size,3,none⟩) HSZ.o).trans d3;have d4':=(hb.cell (p:=⟨w.heap.size,4,none⟩) HSZ.o).trans d4;have d5':=(hb.cell (p:=⟨w.heap.size,5,none⟩) HSZ.o).trans d5;clear hb))
    go_loopg [6] its.length (fun q x u=>∃ j:Nat,j+q= its.length/\x= .int .i64 j/\Below W.heap.size W u/\zF (its.drop j) (d+1)= res)
    case atStart=>exact⟨0,by omega,rfl,HB2.o,HR.o.symm⟩
    case round=>
     obtain⟨j,hj,rfl,hb,hres⟩:=hrel
     have HR2:=I hres
     have HBK:=I hb
     have d5':=(hb.cell (p:=⟨w.heap.size,5,none⟩) HSZ.o).trans D5.o
     clear hres hb
     cases gk with
     |zero=>
      obtain rfl:j= its.length:=by omega
      have hge: ¬ ((its.length:Int) <(its.length:Int)):=by omega
      have HVE:=I (HR2.o.symm.trans z2q)
      go_wp2
      go_ret
      exact⟨z7 HVE.o.symm,HW.o.trans (HBK.o.mono HW.o.size)⟩
     |succ q=>
      have hlt:(j:Int) <(its.length:Int):=by omega
      obtain⟨x,hx⟩:∃ x,its[j]?= some x:=⟨_,List.getElem?_eq_getElem (by omega)⟩
      obtain⟨b,o',rfl,hbl,hc⟩:=HA.o (by omega)
      obtain⟨ks,hks,hvx⟩:=hc j x hx
      have HVS:=I (HR2.o.symm.trans (z1V hx))
      have HBT:=I (HW.o.trans (HBK.o.mono HW.o.size))
      have HKS:=I (zc hks HBT.o hbl)
      have HKL:=I (zj hvx)
      have HC:=I (IH.o x (List.mem_of_getElem? hx) (far - 1) (d+1) ks wr (by omega) (hvx.next HBT.o))
      have hd1:((far - 1:Nat):Int)=(far:Int) - 1:=by omega
      rw[hd1] at HC
      clear hc hks hvx hx hd1
      generalize zm x (d+1)= rx at*
      cases rx with
      |true=>
       have HV2:=I (HVS.o.trans (Bool.true_and _))
       clear HVS
       go_wp2_with (first|((with_reducible refine za 26 _ rfl ?_ b (o'+j*6) ks _ rfl HKS.o Tryz.underlying26 rfl ?_ ?_);(exact wA rfl);rw[HKL.o.1];kernel_rfl)|(go_at_call 48;refine HC.o.mono ?_;rintro e z ⟨rfl,hbz⟩;have HB3:=I hbz;clear hbz))
       go_roundg q
       case measure=>omega
       case rel=>exact⟨j+1,by omega,by go_num,HBK.o.trans (HB3.o.mono HBK.o.size),HV2.o.symm⟩
      |false=>
       have HV2:Hid (res= false):=I (HVS.o.trans (Bool.false_and _))
       clear HVS
       go_wp2_with (first|((with_reducible refine za 26 _ rfl ?_ b (o'+j*6) ks _ rfl HKS.o Tryz.underlying26 rfl ?_ ?_);(exact wA rfl);rw[HKL.o.1];kernel_rfl)|(go_at_call 48;refine HC.o.mono ?_;rintro e z ⟨rfl,hbz⟩;have HB3:=I hbz;clear hbz))
       go_ret
       exact⟨z7 HV2.o.symm,HBT.o.trans (HB3.o.mono HBT.o.size)⟩
  have s1:(k ==1)= false:=by rw[beq_eq_false_iff_ne];exact k1
  have s2:(k ==2)= false:=by rw[beq_eq_false_iff_ne];exact k2
  have s3:(k ==3)= false:=by rw[beq_eq_false_iff_ne];exact k3
  have s4:(k ==4)= false:=by rw[beq_eq_false_iff_ne];exact k4
  have s5:(k ==5)= false:=by rw[beq_eq_false_iff_ne];exact k5
  have s6:(k ==6)= false:=by rw[beq_eq_false_iff_ne];exact k6
  rcases sc2 bi bm with rfl|⟨rfl,rfl⟩|⟨rfl,rfl⟩
  all_goals (go_wp2;go_ret;exact⟨z7 (by rw[HO.o,if_neg k1,if_neg k2,if_neg k3,if_neg k4,if_neg k6,if_neg k5]),HW.o⟩)
theorem z3B (t:VT) (cs:List Value) (w:World) (hv:ValAt w w.heap.size cs t):Calls Tryz.prog 21 #[.agg ⟨cs⟩] w fun e w'=>e= .returned (.bool (decide (cntV t 0<=200) && zm t 1))/\Below w.heap.size w w':=by
 have HB1:=I (zd w (.cells ⟨cs⟩ 26))
 have HS1:=I (zw w (.cells ⟨cs⟩ 26))
 have HR1:=I (zv w cs 26)
 have HL:=I (zj hv)
 have HV:=I (hv.next HB1.o)
 clear hv
 go_enter Tryz.func21,Tryz.ntmps21
 go_upto_region 1 with (fail)
 generalize w.alloc (.cells ⟨cs⟩ 26)= W at*
 have HP:=I (z97 t cs W HV.o)
 by_cases hc:cntV t 0<=200
 ·have t1:((cntV t 0:Nat):Int)<=200:=by omega
  have HD:Hid ((decide (cntV t 0<=200) && zm t 1)= zm t 1):=I (by rw[decide_eq_true hc];exact Bool.true_and _)
  go_wp2_with (first|((with_reducible refine za 26 _ rfl ?_ w.heap.size 0 cs _ rfl HR1.o Tryz.underlying26 rfl ?_ ?_);(exact wA rfl);rw[HL.o.1];kernel_rfl)|(go_at_call 47;refine HP.o.mono ?_;rintro e z ⟨rfl,hbz⟩;have HB2:=I hbz;have HR2:=I (zc HR1.o hbz HS1.o);clear hbz)|((with_reducible refine za 26 _ rfl ?_ w.heap.size 0 cs _ rfl HR2.o Tryz.underlying26 rfl ?_ ?_);(exact wA rfl);rw[HL.o.1];kernel_rfl)|(go_at_call 48;refine(z9I t 12 1 cs _ (by decide) (HV.o.next HB2.o)).mono ?_;rintro e z2 ⟨rfl,hbz⟩;have HB3:=I hbz;clear hbz))
  go_ret
  exact⟨z7 HD.o.symm,HB1.o.trans ((HB2.o.trans (HB3.o.mono HB2.o.size)).mono HB1.o.size)⟩
 ·have t1: ¬ (((cntV t 0:Nat):Int)<=200):=by omega
  have HD:Hid ((decide (cntV t 0<=200) && zm t 1)= false):=I (by rw[decide_eq_false hc];exact Bool.false_and _)
  go_wp2_with (first|((with_reducible refine za 26 _ rfl ?_ w.heap.size 0 cs _ rfl HR1.o Tryz.underlying26 rfl ?_ ?_);(exact wA rfl);rw[HL.o.1];kernel_rfl)|(go_at_call 47;refine HP.o.mono ?_;rintro e z ⟨rfl,hbz⟩;have HB2:=I hbz;clear hbz))
  go_ret
  first|exact⟨z7 HD.o.symm,HB1.o.trans (HB2.o.mono HB1.o.size)⟩|exact⟨rfl,HB1.o.trans (HB2.o.mono HB1.o.size)⟩
end
end Go.Proofs.YtmpbepjjbaeebaaGreatDoor
