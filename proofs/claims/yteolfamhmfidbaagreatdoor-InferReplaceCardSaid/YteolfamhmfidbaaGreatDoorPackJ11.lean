/- Parts of a proof: VName, VBare, VRight, CanonP, R03, Keep, RowG, BoxG, RRepl. -/
import Derived.Laws.IdiomStrings
import Derived.Test.YteolfamhmfidbaaGreatDoorPackJ3
import Derived.Test.YteolfamhmfidbaaGreatDoorPackJ6
import Derived.Test.YteolfamhmfidbaaGreatDoorPackJ7
import Derived.Test.YteolfamhmfidbaaGreatDoorPackJ10
set_option maxHeartbeats 8000000
set_option maxRecDepth 100000
set_option linter.unusedVariables false
set_option linter.unusedSimpArgs false
namespace Go.Proofs.YteolfamhmfidbaaGreatDoor
section
open Go Go.RowKit
def okC (i:Nat) (c:UInt8):Bool:=(decide (97<=c.toNat) && decide (c.toNat<=122)) ||(decide (0 < i) && (c.toNat ==95 ||(decide (48<=c.toNat) && decide (c.toNat<=57))))
def zO:List UInt8->Nat->Bool
 |[],_=>true
 |c::l,i=>okC i c && zO l (i+1)
def nameB (s:ByteArray):Bool:=decide (0 < s.size) && decide (s.size<=30) && zO s.data.toList 0
theorem zci (w:World) (C:Array Value) (T:TypeId) (fz:Nat × Nat) (i:Nat):(w.alloc (.cells C T fz)).cell? ⟨w.heap.size,i,none⟩= C[i]?:=by
 exact cell_of_row _ w.heap.size i C T fz (heap_alloc_new w _)
theorem z4L (s:ByteArray) (n k:Nat) {c:UInt8} (h:s.data.toList[k]?= some c):(bytesRow s n)[k]?= some (.int .u8 c.toNat):=by
 have h1:k < s.data.size:=by have:=(List.getElem?_eq_some_iff.1 h).1;simpa using this
 unfold bytesRow
 rw[Array.getElem?_append_left (by simpa using h1),Array.getElem?_map]
 have h2:s.data[k]?= some c:=by simpa using h
 rw[h2];rfl
theorem z4K {l:List UInt8} {k:Nat} {c:UInt8} (h:l[k]?= some c):zO (l.drop k) k=(okC k c && zO (l.drop (k+1)) (k+1)):=by
 rw[z0j h];rfl
theorem z87 (s:ByteArray) (w:World):Calls Tryz.prog 136 #[.string s] w fun e w'=>e= .returned (.bool (nameB s))/\Below w.heap.size w w':=by
 have HN:Hid (nameB s=(decide (0 < s.size) && decide (s.size<=30) && zO s.data.toList 0)):=I rfl
 have HL:Hid (s.data.toList.length= s.size):=I (by cases s;rfl)
 by_cases h0:s.size= 0
 ·have hl:s.data.toList=[]:=List.eq_nil_of_length_eq_zero (by rw[HL.o,h0])
  have t0:s.toList=[]:=by rw[toList_eq,hl]
  have t1:s.toList.isEmpty= true:=by rw[t0];rfl
  have HR:Hid (nameB s= false):=I (by rw[HN.o,h0];rfl)
  clear hl h0
  go_enter Tryz.func136,Tryz.ntmps136
  go_wp2
  go_ret
  exact⟨z6 HR.o.symm,Below.refl _ w⟩
 have t0: ¬ s.toList=[]:=fun h=>h0 (by rw[← HL.o,← toList_eq,h];rfl)
 have t1:s.toList.isEmpty= false:=by rw[Bool.eq_false_iff];intro h;exact t0 (List.isEmpty_iff.1 h)
 by_cases h1:s.size<=30
 ·have t2:(s.size:Int)<=30:=by omega
  have HR:Hid (nameB s= zO s.data.toList 0):=I (by rw[HN.o,decide_eq_true (by omega),decide_eq_true h1];rfl)
  have hcv:∀ W:World,(convert 9 177 (.string s)).run Tryz.prog W= .ok (.slice (some ⟨W.heap.size,0,none⟩) s.size (grownCap W s.size 0 5)) (W.drew.alloc (.cells (bytesRow s (grownCap W s.size 0 5)) 5 ((bytesRow s (grownCap W s.size 0 5)).size,(bytesRow s (grownCap W s.size 0 5)).size+1))):=fun W=>run_bytes_of_string W _ _ _ s Tryz.underlying9 Tryz.underlying177 Tryz.underlying5
  have HC:=I (fun(W:World) (n:Nat) fz (k:Nat) (c:UInt8) (h:s.data.toList[k]?= some c)=>(zci W (bytesRow s n) 5 fz k).trans (z4L s n k h))
  have HS:=I (fun k c=>z4K (l:=s.data.toList) (k:=k) (c:=c))
  have HE:Hid (∀ k,zO (s.data.toList.drop s.size) k= true):=I fun k=>by rw[List.drop_eq_nil_of_le (by rw[HL.o];exact Nat.le_refl _)];rfl
  have H0:Hid (zO (s.data.toList.drop 0) 0= zO s.data.toList 0):=I rfl
  generalize zO s.data.toList 0= res at*
  go_enter Tryz.func136,Tryz.ntmps136
  go_upto_region 4 with (fail)
  have HCC:Hid (∀ (k:Nat) c,s.data.toList[k]?= some c->((w.alloc (Obj.cells (bytesRow s (grownCap w s.size 0 5)) 5 ((bytesRow s (grownCap w s.size 0 5)).size,(bytesRow s (grownCap w s.size 0 5)).size+1))).drew).cell? ⟨w.heap.size,k,none⟩= some (.int .u8 c.toNat)):=I (fun k c h=>HC.o w _ _ k c h)
  have HB:Hid (Below w.heap.size w ((w.alloc (Obj.cells (bytesRow s (grownCap w s.size 0 5)) 5 ((bytesRow s (grownCap w s.size 0 5)).size,(bytesRow s (grownCap w s.size 0 5)).size+1))).drew)):=I (zc w _).drew
  generalize (w.alloc (Obj.cells (bytesRow s (grownCap w s.size 0 5)) 5 ((bytesRow s (grownCap w s.size 0 5)).size,(bytesRow s (grownCap w s.size 0 5)).size+1))).drew= W1 at*
  generalize grownCap w s.size 0 5= cp at*
  clear hcv HC HN
  go_wp2
  go_loopg [15] s.size (fun q x u=>∃ k:Nat,k+q= s.size/\x= .int .i64 k/\u= W1/\zO (s.data.toList.drop k) k= res)
  case atStart=>exact⟨0,by omega,rfl,rfl,H0.o⟩
  case round=>
   obtain⟨k,hk,rfl,rfl,hres⟩:=hrel
   have HR2:=I hres
   clear hres
   cases gk with
   |zero=>
    obtain rfl:k= s.size:=by omega
    have hge: ¬ ((s.size:Int) <(s.size:Int)):=by omega
    have HV:=I (HR2.o.symm.trans (HE.o s.size))
    go_wp2
    go_ret
    exact⟨z6 (HR.o.trans HV.o).symm,HB.o⟩
   |succ q=>
    have hlt:(k:Int) <(s.size:Int):=by omega
    obtain⟨c,hc⟩:∃ c,s.data.toList[k]?= some c:=⟨_,List.getElem?_eq_getElem (by rw[HL.o];omega)⟩
    have dk:=HCC.o k c hc
    have HKC:=I hc
    clear hc
    by_cases h97:97<=c.toNat
    ·by_cases h122:c.toNat<=122
     ·have d97:decide (97<=c.toNat)= true:=decide_eq_true (by omega)
      have d122:decide (c.toNat<=122)= true:=decide_eq_true (by omega)
      have f97:97<=(c.toNat:Int):=by omega
      have f122:(c.toNat:Int)<=122:=by omega
      have hok:okC k c= true:=by unfold okC;simp only[d97,d122,Bool.and_self,Bool.true_or];try rfl
      have HV:Hid (res= zO (s.data.toList.drop (k+1)) (k+1)):=I (HR2.o.symm.trans ((HS.o k c HKC.o).trans (by rw[hok];exact Bool.true_and _)))
      clear hok
      go_wp2
      go_roundg q
      case measure=>omega
      case rel=>exact⟨k+1,by omega,by go_num,rfl,HV.o.symm⟩
     ·have d97:decide (97<=c.toNat)= true:=decide_eq_true (by omega)
      have d122:decide (c.toNat<=122)= false:=decide_eq_false (by omega)
      have f97:97<=(c.toNat:Int):=by omega
      have f122: ¬ ((c.toNat:Int)<=122):=by omega
      by_cases hk0:k= 0
      ·subst hk0
       have d0:decide ((0:Nat) < 0)= false:=rfl
       have hok:okC 0 c= false:=by unfold okC;simp only[d97,d122,Bool.and_false,Bool.false_or,d0,Bool.false_and,Bool.or_false,Bool.and_false,Bool.true_and];try rfl
       have HV:Hid (res= false):=I (HR2.o.symm.trans ((HS.o 0 c HKC.o).trans (by rw[hok];exact Bool.false_and _)))
       clear hok
       go_wp2
       go_ret
       exact⟨z6 (HR.o.trans HV.o).symm,HB.o⟩
      ·have d0:decide (0 < k)= true:=decide_eq_true (by omega)
       have k0':0 <(k:Int):=by omega
       by_cases h95:c.toNat= 95
       ·have e1:(c.toNat ==95)= true:=by simpa using h95
        have e1':(c.toNat:Int)= 95:=by omega
        have hok:okC k c= true:=by unfold okC;simp only[d97,d122,Bool.and_false,Bool.false_or,d0,e1,Bool.true_or,Bool.true_and,Bool.and_self,Bool.false_and,Bool.and_false,Bool.false_or];try rfl
        have HV:Hid (res= zO (s.data.toList.drop (k+1)) (k+1)):=I (HR2.o.symm.trans ((HS.o k c HKC.o).trans (by rw[hok];exact Bool.true_and _)))
        clear hok
        go_wp2
        go_roundg q
        case measure=>omega
        case rel=>exact⟨k+1,by omega,by go_num,rfl,HV.o.symm⟩
       ·have e1:(c.toNat ==95)= false:=by simpa using h95
        have e1':((c.toNat:Int) ==95)= false:=by rw[beq_eq_false_iff_ne];omega
        by_cases h48:48<=c.toNat
        ·by_cases h57:c.toNat<=57
         ·have d48:decide (48<=c.toNat)= true:=decide_eq_true (by omega)
          have d57:decide (c.toNat<=57)= true:=decide_eq_true (by omega)
          have f48:48<=(c.toNat:Int):=by omega
          have f57:(c.toNat:Int)<=57:=by omega
          have hok:okC k c= true:=by unfold okC;simp only[d97,d122,Bool.and_false,Bool.false_or,d0,e1,d48,d57,Bool.false_and,Bool.and_false,Bool.false_or,Bool.or_true,Bool.and_self];try rfl
          have HV:Hid (res= zO (s.data.toList.drop (k+1)) (k+1)):=I (HR2.o.symm.trans ((HS.o k c HKC.o).trans (by rw[hok];exact Bool.true_and _)))
          clear hok
          go_wp2
          go_roundg q
          case measure=>omega
          case rel=>exact⟨k+1,by omega,by go_num,rfl,HV.o.symm⟩
         ·have d48:decide (48<=c.toNat)= true:=decide_eq_true (by omega)
          have d57:decide (c.toNat<=57)= false:=decide_eq_false (by omega)
          have f48:48<=(c.toNat:Int):=by omega
          have f57: ¬ ((c.toNat:Int)<=57):=by omega
          have hok:okC k c= false:=by unfold okC;simp only[d97,d122,Bool.and_false,Bool.false_or,d0,e1,d48,d57,Bool.false_and,Bool.and_false,Bool.false_or,Bool.or_self,Bool.and_self];try rfl
          have HV:Hid (res= false):=I (HR2.o.symm.trans ((HS.o k c HKC.o).trans (by rw[hok];exact Bool.false_and _)))
          clear hok
          go_wp2
          go_ret
          exact⟨z6 (HR.o.trans HV.o).symm,HB.o⟩
        ·have d48:decide (48<=c.toNat)= false:=decide_eq_false (by omega)
         have f48: ¬ (48<=(c.toNat:Int)):=by omega
         have hok:okC k c= false:=by unfold okC;simp only[d97,d122,Bool.and_false,Bool.false_or,d0,e1,d48,Bool.false_and,Bool.and_false,Bool.false_or,Bool.or_self,Bool.and_self];try rfl
         have HV:Hid (res= false):=I (HR2.o.symm.trans ((HS.o k c HKC.o).trans (by rw[hok];exact Bool.false_and _)))
         clear hok
         go_wp2
         go_ret
         exact⟨z6 (HR.o.trans HV.o).symm,HB.o⟩
    ·have d97:decide (97<=c.toNat)= false:=decide_eq_false (by omega)
     have f97: ¬ (97<=(c.toNat:Int)):=by omega
     by_cases hk0:k= 0
     ·subst hk0
      have d0:decide ((0:Nat) < 0)= false:=rfl
      have hok:okC 0 c= false:=by unfold okC;simp only[d97,Bool.false_and,Bool.false_or,d0,Bool.false_and,Bool.or_false,Bool.and_false,Bool.true_and];try rfl
      have HV:Hid (res= false):=I (HR2.o.symm.trans ((HS.o 0 c HKC.o).trans (by rw[hok];exact Bool.false_and _)))
      clear hok
      go_wp2
      go_ret
      exact⟨z6 (HR.o.trans HV.o).symm,HB.o⟩
     ·have d0:decide (0 < k)= true:=decide_eq_true (by omega)
      have k0':0 <(k:Int):=by omega
      by_cases h95:c.toNat= 95
      ·have e1:(c.toNat ==95)= true:=by simpa using h95
       have e1':(c.toNat:Int)= 95:=by omega
       have hok:okC k c= true:=by unfold okC;simp only[d97,Bool.false_and,Bool.false_or,d0,e1,Bool.true_or,Bool.true_and,Bool.and_self,Bool.false_and,Bool.and_false,Bool.false_or];try rfl
       have HV:Hid (res= zO (s.data.toList.drop (k+1)) (k+1)):=I (HR2.o.symm.trans ((HS.o k c HKC.o).trans (by rw[hok];exact Bool.true_and _)))
       clear hok
       go_wp2
       go_roundg q
       case measure=>omega
       case rel=>exact⟨k+1,by omega,by go_num,rfl,HV.o.symm⟩
      ·have e1:(c.toNat ==95)= false:=by simpa using h95
       have e1':((c.toNat:Int) ==95)= false:=by rw[beq_eq_false_iff_ne];omega
       by_cases h48:48<=c.toNat
       ·by_cases h57:c.toNat<=57
        ·have d48:decide (48<=c.toNat)= true:=decide_eq_true (by omega)
         have d57:decide (c.toNat<=57)= true:=decide_eq_true (by omega)
         have f48:48<=(c.toNat:Int):=by omega
         have f57:(c.toNat:Int)<=57:=by omega
         have hok:okC k c= true:=by unfold okC;simp only[d97,Bool.false_and,Bool.false_or,d0,e1,d48,d57,Bool.false_and,Bool.and_false,Bool.false_or,Bool.or_true,Bool.and_self];try rfl
         have HV:Hid (res= zO (s.data.toList.drop (k+1)) (k+1)):=I (HR2.o.symm.trans ((HS.o k c HKC.o).trans (by rw[hok];exact Bool.true_and _)))
         clear hok
         go_wp2
         go_roundg q
         case measure=>omega
         case rel=>exact⟨k+1,by omega,by go_num,rfl,HV.o.symm⟩
        ·have d48:decide (48<=c.toNat)= true:=decide_eq_true (by omega)
         have d57:decide (c.toNat<=57)= false:=decide_eq_false (by omega)
         have f48:48<=(c.toNat:Int):=by omega
         have f57: ¬ ((c.toNat:Int)<=57):=by omega
         have hok:okC k c= false:=by unfold okC;simp only[d97,Bool.false_and,Bool.false_or,d0,e1,d48,d57,Bool.false_and,Bool.and_false,Bool.false_or,Bool.or_self,Bool.and_self];try rfl
         have HV:Hid (res= false):=I (HR2.o.symm.trans ((HS.o k c HKC.o).trans (by rw[hok];exact Bool.false_and _)))
         clear hok
         go_wp2
         go_ret
         exact⟨z6 (HR.o.trans HV.o).symm,HB.o⟩
       ·have d48:decide (48<=c.toNat)= false:=decide_eq_false (by omega)
        have f48: ¬ (48<=(c.toNat:Int)):=by omega
        have hok:okC k c= false:=by unfold okC;simp only[d97,Bool.false_and,Bool.false_or,d0,e1,d48,Bool.false_and,Bool.and_false,Bool.false_or,Bool.or_self,Bool.and_self];try rfl
        have HV:Hid (res= false):=I (HR2.o.symm.trans ((HS.o k c HKC.o).trans (by rw[hok];exact Bool.false_and _)))
        clear hok
        go_wp2
        go_ret
        exact⟨z6 (HR.o.trans HV.o).symm,HB.o⟩
 ·have t2: ¬ ((s.size:Int)<=30):=by omega
  have HR:Hid (nameB s= false):=I (by rw[HN.o,decide_eq_false h1,Bool.and_false];rfl)
  go_enter Tryz.func136,Tryz.ntmps136
  go_wp2
  go_ret
  exact⟨z6 HR.o.symm,Below.refl _ w⟩
end
section
open Go Go.RowKit
def bareB (a b c d:Bool) (n:Int) (f:Nat) (s:ByteArray) (ns its:Nat):Bool:=(a || n ==0) && ((b || cmpF f 0 ==0) && ((c || s.toList.isEmpty) && (d ||(ns ==0 && its ==0))))
theorem zcb (p o:Nat) (k n:Int) (f:Nat) (s:ByteArray) (A D:Option Addr) (ns its ca cd:Nat) (w:World) (hf0:f < 2 ^ 64) (h:w.rangeAt p o [.int .i64 k,.int .i64 n,.float .f64 f,.string s,.slice A ns ca,.slice D its cd]):
  Calls Tryz.prog 101 #[.pointer (some ⟨p,o,none⟩),.bool true,.bool false,.bool false,.bool false] w fun e w'=>e= .returned (.bool (bareB true false false false n f s ns its))/\w'= w:=by
 have d1:=h 1 _ rfl
 have d2:=h 2 _ rfl
 have d3:=h 3 _ rfl
 have d4:=h 4 _ rfl
 have d5:=h 5 _ rfl
 have HFO:=I (fun w=>z0E f 0 hf0 (by decide) w)
 clear h hf0
 by_cases hf:cmpF f 0= 0
 ·have t2:(cmpF f 0 ==0)= true:=by simpa using hf
  by_cases hs:s.toList=[]
  ·have t3:s.toList.isEmpty= true:=by rw[hs];rfl
   by_cases hm:ns= 0
   ·have t4:(ns ==0)= true:=by simpa using hm
    have t4':((ns:Int) ==0)= true:=by rw[hm];rfl
    by_cases hi:its= 0
    ·have t5:(its ==0)= true:=by simpa using hi
     have t5':((its:Int) ==0)= true:=by rw[hi];rfl
     have HR:Hid (bareB true false false false n f s ns its= true):=I (by unfold bareB;simp[t2,t3,t4,t5])
     generalize cmpF f 0= cf at*
     go_enter Tryz.func101,Tryz.ntmps101
     go_wp2_with (go_at_call 132;refine(HFO.o _).mono ?_;rintro e z ⟨rfl,rfl⟩)
     go_ret
     exact⟨z6 HR.o.symm,rfl⟩
    ·have t5:(its ==0)= false:=by simpa using hi
     have t5':((its:Int) ==0)= false:=by rw[beq_eq_false_iff_ne];omega
     have HR:Hid (bareB true false false false n f s ns its= false):=I (by unfold bareB;simp[t2,t3,t4,t5])
     generalize cmpF f 0= cf at*
     go_enter Tryz.func101,Tryz.ntmps101
     go_wp2_with (go_at_call 132;refine(HFO.o _).mono ?_;rintro e z ⟨rfl,rfl⟩)
     go_ret
     exact⟨z6 HR.o.symm,rfl⟩
   ·have t4:(ns ==0)= false:=by simpa using hm
    have t4':((ns:Int) ==0)= false:=by rw[beq_eq_false_iff_ne];omega
    have HR:Hid (bareB true false false false n f s ns its= false):=I (by unfold bareB;simp[t2,t3,t4])
    generalize cmpF f 0= cf at*
    go_enter Tryz.func101,Tryz.ntmps101
    go_wp2_with (go_at_call 132;refine(HFO.o _).mono ?_;rintro e z ⟨rfl,rfl⟩)
    go_ret
    exact⟨z6 HR.o.symm,rfl⟩
  ·have t3:s.toList.isEmpty= false:=by rw[Bool.eq_false_iff];intro h;exact hs (List.isEmpty_iff.1 h)
   have HR:Hid (bareB true false false false n f s ns its= false):=I (by unfold bareB;simp[t2,t3])
   generalize cmpF f 0= cf at*
   go_enter Tryz.func101,Tryz.ntmps101
   go_wp2_with (go_at_call 132;refine(HFO.o _).mono ?_;rintro e z ⟨rfl,rfl⟩)
   go_ret
   exact⟨z6 HR.o.symm,rfl⟩
 ·have t2:(cmpF f 0 ==0)= false:=by simpa using hf
  have HR:Hid (bareB true false false false n f s ns its= false):=I (by unfold bareB;simp[t2])
  generalize cmpF f 0= cf at*
  go_enter Tryz.func101,Tryz.ntmps101
  go_wp2_with (go_at_call 132;refine(HFO.o _).mono ?_;rintro e z ⟨rfl,rfl⟩)
  go_ret
  exact⟨z6 HR.o.symm,rfl⟩
theorem zgu (p o:Nat) (k n:Int) (f:Nat) (s:ByteArray) (A D:Option Addr) (ns its ca cd:Nat) (w:World) (hf0:f < 2 ^ 64) (h:w.rangeAt p o [.int .i64 k,.int .i64 n,.float .f64 f,.string s,.slice A ns ca,.slice D its cd]):
  Calls Tryz.prog 101 #[.pointer (some ⟨p,o,none⟩),.bool false,.bool true,.bool false,.bool false] w fun e w'=>e= .returned (.bool (bareB false true false false n f s ns its))/\w'= w:=by
 have d1:=h 1 _ rfl
 have d2:=h 2 _ rfl
 have d3:=h 3 _ rfl
 have d4:=h 4 _ rfl
 have d5:=h 5 _ rfl
 have HFO:=I (fun w=>z0E f 0 hf0 (by decide) w)
 clear h hf0
 by_cases hn:n= 0
 ·have t1:(n ==0)= true:=by simpa using hn
  by_cases hs:s.toList=[]
  ·have t3:s.toList.isEmpty= true:=by rw[hs];rfl
   by_cases hm:ns= 0
   ·have t4:(ns ==0)= true:=by simpa using hm
    have t4':((ns:Int) ==0)= true:=by rw[hm];rfl
    by_cases hi:its= 0
    ·have t5:(its ==0)= true:=by simpa using hi
     have t5':((its:Int) ==0)= true:=by rw[hi];rfl
     have HR:Hid (bareB false true false false n f s ns its= true):=I (by unfold bareB;simp[t1,t3,t4,t5])
     generalize cmpF f 0= cf at*
     go_enter Tryz.func101,Tryz.ntmps101
     go_wp2_with (go_at_call 132;refine(HFO.o _).mono ?_;rintro e z ⟨rfl,rfl⟩)
     go_ret
     exact⟨z6 HR.o.symm,rfl⟩
    ·have t5:(its ==0)= false:=by simpa using hi
     have t5':((its:Int) ==0)= false:=by rw[beq_eq_false_iff_ne];omega
     have HR:Hid (bareB false true false false n f s ns its= false):=I (by unfold bareB;simp[t1,t3,t4,t5])
     generalize cmpF f 0= cf at*
     go_enter Tryz.func101,Tryz.ntmps101
     go_wp2_with (go_at_call 132;refine(HFO.o _).mono ?_;rintro e z ⟨rfl,rfl⟩)
     go_ret
     exact⟨z6 HR.o.symm,rfl⟩
   ·have t4:(ns ==0)= false:=by simpa using hm
    have t4':((ns:Int) ==0)= false:=by rw[beq_eq_false_iff_ne];omega
    have HR:Hid (bareB false true false false n f s ns its= false):=I (by unfold bareB;simp[t1,t3,t4])
    generalize cmpF f 0= cf at*
    go_enter Tryz.func101,Tryz.ntmps101
    go_wp2_with (go_at_call 132;refine(HFO.o _).mono ?_;rintro e z ⟨rfl,rfl⟩)
    go_ret
    exact⟨z6 HR.o.symm,rfl⟩
  ·have t3:s.toList.isEmpty= false:=by rw[Bool.eq_false_iff];intro h;exact hs (List.isEmpty_iff.1 h)
   have HR:Hid (bareB false true false false n f s ns its= false):=I (by unfold bareB;simp[t1,t3])
   generalize cmpF f 0= cf at*
   go_enter Tryz.func101,Tryz.ntmps101
   go_wp2_with (go_at_call 132;refine(HFO.o _).mono ?_;rintro e z ⟨rfl,rfl⟩)
   go_ret
   exact⟨z6 HR.o.symm,rfl⟩
 ·have t1:(n ==0)= false:=by simpa using hn
  have HR:Hid (bareB false true false false n f s ns its= false):=I (by unfold bareB;simp[t1])
  generalize cmpF f 0= cf at*
  go_enter Tryz.func101,Tryz.ntmps101
  go_wp2_with (go_at_call 132;refine(HFO.o _).mono ?_;rintro e z ⟨rfl,rfl⟩)
  go_ret
  exact⟨z6 HR.o.symm,rfl⟩
theorem zgC (p o:Nat) (k n:Int) (f:Nat) (s:ByteArray) (A D:Option Addr) (ns its ca cd:Nat) (w:World) (hf0:f < 2 ^ 64) (h:w.rangeAt p o [.int .i64 k,.int .i64 n,.float .f64 f,.string s,.slice A ns ca,.slice D its cd]):
  Calls Tryz.prog 101 #[.pointer (some ⟨p,o,none⟩),.bool false,.bool false,.bool true,.bool false] w fun e w'=>e= .returned (.bool (bareB false false true false n f s ns its))/\w'= w:=by
 have d1:=h 1 _ rfl
 have d2:=h 2 _ rfl
 have d3:=h 3 _ rfl
 have d4:=h 4 _ rfl
 have d5:=h 5 _ rfl
 have HFO:=I (fun w=>z0E f 0 hf0 (by decide) w)
 clear h hf0
 by_cases hn:n= 0
 ·have t1:(n ==0)= true:=by simpa using hn
  by_cases hf:cmpF f 0= 0
  ·have t2:(cmpF f 0 ==0)= true:=by simpa using hf
   by_cases hm:ns= 0
   ·have t4:(ns ==0)= true:=by simpa using hm
    have t4':((ns:Int) ==0)= true:=by rw[hm];rfl
    by_cases hi:its= 0
    ·have t5:(its ==0)= true:=by simpa using hi
     have t5':((its:Int) ==0)= true:=by rw[hi];rfl
     have HR:Hid (bareB false false true false n f s ns its= true):=I (by unfold bareB;simp[t1,t2,t4,t5])
     generalize cmpF f 0= cf at*
     go_enter Tryz.func101,Tryz.ntmps101
     go_wp2_with (go_at_call 132;refine(HFO.o _).mono ?_;rintro e z ⟨rfl,rfl⟩)
     go_ret
     exact⟨z6 HR.o.symm,rfl⟩
    ·have t5:(its ==0)= false:=by simpa using hi
     have t5':((its:Int) ==0)= false:=by rw[beq_eq_false_iff_ne];omega
     have HR:Hid (bareB false false true false n f s ns its= false):=I (by unfold bareB;simp[t1,t2,t4,t5])
     generalize cmpF f 0= cf at*
     go_enter Tryz.func101,Tryz.ntmps101
     go_wp2_with (go_at_call 132;refine(HFO.o _).mono ?_;rintro e z ⟨rfl,rfl⟩)
     go_ret
     exact⟨z6 HR.o.symm,rfl⟩
   ·have t4:(ns ==0)= false:=by simpa using hm
    have t4':((ns:Int) ==0)= false:=by rw[beq_eq_false_iff_ne];omega
    have HR:Hid (bareB false false true false n f s ns its= false):=I (by unfold bareB;simp[t1,t2,t4])
    generalize cmpF f 0= cf at*
    go_enter Tryz.func101,Tryz.ntmps101
    go_wp2_with (go_at_call 132;refine(HFO.o _).mono ?_;rintro e z ⟨rfl,rfl⟩)
    go_ret
    exact⟨z6 HR.o.symm,rfl⟩
  ·have t2:(cmpF f 0 ==0)= false:=by simpa using hf
   have HR:Hid (bareB false false true false n f s ns its= false):=I (by unfold bareB;simp[t1,t2])
   generalize cmpF f 0= cf at*
   go_enter Tryz.func101,Tryz.ntmps101
   go_wp2_with (go_at_call 132;refine(HFO.o _).mono ?_;rintro e z ⟨rfl,rfl⟩)
   go_ret
   exact⟨z6 HR.o.symm,rfl⟩
 ·have t1:(n ==0)= false:=by simpa using hn
  have HR:Hid (bareB false false true false n f s ns its= false):=I (by unfold bareB;simp[t1])
  generalize cmpF f 0= cf at*
  go_enter Tryz.func101,Tryz.ntmps101
  go_wp2_with (go_at_call 132;refine(HFO.o _).mono ?_;rintro e z ⟨rfl,rfl⟩)
  go_ret
  exact⟨z6 HR.o.symm,rfl⟩
theorem zc0 (p o:Nat) (k n:Int) (f:Nat) (s:ByteArray) (A D:Option Addr) (ns its ca cd:Nat) (w:World) (hf0:f < 2 ^ 64) (h:w.rangeAt p o [.int .i64 k,.int .i64 n,.float .f64 f,.string s,.slice A ns ca,.slice D its cd]):
  Calls Tryz.prog 101 #[.pointer (some ⟨p,o,none⟩),.bool false,.bool false,.bool false,.bool true] w fun e w'=>e= .returned (.bool (bareB false false false true n f s ns its))/\w'= w:=by
 have d1:=h 1 _ rfl
 have d2:=h 2 _ rfl
 have d3:=h 3 _ rfl
 have d4:=h 4 _ rfl
 have d5:=h 5 _ rfl
 have HFO:=I (fun w=>z0E f 0 hf0 (by decide) w)
 clear h hf0
 by_cases hn:n= 0
 ·have t1:(n ==0)= true:=by simpa using hn
  by_cases hf:cmpF f 0= 0
  ·have t2:(cmpF f 0 ==0)= true:=by simpa using hf
   by_cases hs:s.toList=[]
   ·have t3:s.toList.isEmpty= true:=by rw[hs];rfl
    have HR:Hid (bareB false false false true n f s ns its= true):=I (by unfold bareB;simp[t1,t2,t3])
    generalize cmpF f 0= cf at*
    go_enter Tryz.func101,Tryz.ntmps101
    go_wp2_with (go_at_call 132;refine(HFO.o _).mono ?_;rintro e z ⟨rfl,rfl⟩)
    go_ret
    exact⟨z6 HR.o.symm,rfl⟩
   ·have t3:s.toList.isEmpty= false:=by rw[Bool.eq_false_iff];intro h;exact hs (List.isEmpty_iff.1 h)
    have HR:Hid (bareB false false false true n f s ns its= false):=I (by unfold bareB;simp[t1,t2,t3])
    generalize cmpF f 0= cf at*
    go_enter Tryz.func101,Tryz.ntmps101
    go_wp2_with (go_at_call 132;refine(HFO.o _).mono ?_;rintro e z ⟨rfl,rfl⟩)
    go_ret
    exact⟨z6 HR.o.symm,rfl⟩
  ·have t2:(cmpF f 0 ==0)= false:=by simpa using hf
   have HR:Hid (bareB false false false true n f s ns its= false):=I (by unfold bareB;simp[t1,t2])
   generalize cmpF f 0= cf at*
   go_enter Tryz.func101,Tryz.ntmps101
   go_wp2_with (go_at_call 132;refine(HFO.o _).mono ?_;rintro e z ⟨rfl,rfl⟩)
   go_ret
   exact⟨z6 HR.o.symm,rfl⟩
 ·have t1:(n ==0)= false:=by simpa using hn
  have HR:Hid (bareB false false false true n f s ns its= false):=I (by unfold bareB;simp[t1])
  generalize cmpF f 0= cf at*
  go_enter Tryz.func101,Tryz.ntmps101
  go_wp2_with (go_at_call 132;refine(HFO.o _).mono ?_;rintro e z ⟨rfl,rfl⟩)
  go_ret
  exact⟨z6 HR.o.symm,rfl⟩
def riseB:Option ByteArray->List ByteArray->Bool
 |_,[]=>true
 |none,s::l=>nameB s && riseB (some s) l
 |some p,s::l=>nameB s && (Op.bytesLess p.toList s.toList && riseB (some s) l)
def prevK (l:List ByteArray) (k:Nat):Option ByteArray:=if k= 0 then none else l[k - 1]?
theorem z5Z {l:List ByteArray} {s:ByteArray} (h:l[0]?= some s):riseB (prevK l 0) (l.drop 0)=(nameB s && riseB (prevK l 1) (l.drop 1)):=by
 rw[z0j h]
 show(nameB s && riseB (some s) (l.drop 1))= _
 unfold prevK
 simp[h]
theorem z6L {l:List ByteArray} {k:Nat} {p s:ByteArray} (hp:l[k]?= some p) (h:l[k+1]?= some s):riseB (prevK l (k+1)) (l.drop (k+1))=(nameB s && (Op.bytesLess p.toList s.toList && riseB (prevK l (k+2)) (l.drop (k+2)))):=by
 rw[z0j h]
 have h1:prevK l (k+1)= some p:=by unfold prevK;simp[hp]
 have h2:prevK l (k+2)= some s:=by unfold prevK;simp[h]
 rw[h1,h2]
 rfl
theorem z8G {l:List ByteArray}:riseB (prevK l l.length) (l.drop l.length)= true:=by
 rw[List.drop_eq_nil_of_le (Nat.le_refl _)];rw[riseB]
theorem zau (v:Value) (l:List ByteArray) (w:World) (hv:SlAt w w.heap.size 1 StrR v l):
  Calls Tryz.prog 102 #[v] w fun e w'=>e= .returned (.bool (riseB none l))/\Below w.heap.size w w':=by
 obtain⟨_,A,c,rfl,_⟩:=id hv
 obtain⟨_,hl,ha⟩:=z1o hv
 have HA:=I ha
 have H1:=I (fun s=>z5Z (l:=l) (s:=s))
 have H2:=I (fun k p s=>z6L (l:=l) (k:=k) (p:=p) (s:=s))
 have HE:=I (z8G (l:=l))
 have H0:Hid (riseB (prevK l 0) (l.drop 0)= riseB none l):=I rfl
 have hl2:(l.length:Int)<=9223372036854775807:=by omega
 clear ha hv
 generalize riseB none l= res at*
 go_enter Tryz.func102,Tryz.ntmps102
 go_wp2
 go_loopg [7] l.length (fun q x u=>∃ k:Nat,k+q= l.length/\x= .int .i64 k/\Below w.heap.size w u/\riseB (prevK l k) (l.drop k)= res)
 case atStart=>exact⟨0,by omega,rfl,Below.refl _ _,H0.o⟩
 case round=>
  obtain⟨k,hk,rfl,hb,hres⟩:=hrel
  have HR:=I hres
  have HBK:=I hb
  clear hres hb
  cases gk with
  |zero=>
   obtain rfl:k= l.length:=by omega
   have hge: ¬ ((l.length:Int) <(l.length:Int)):=by omega
   have HV:=I (HR.o.symm.trans HE.o)
   clear HR
   go_wp2
   go_ret
   exact⟨z6 HV.o.symm,HBK.o⟩
  |succ q=>
   have hlt:(k:Int) <(l.length:Int):=by omega
   obtain⟨s,hs⟩:∃ s,l[k]?= some s:=⟨_,List.getElem?_eq_getElem (by omega)⟩
   obtain⟨b,o,rfl,hbl,hc⟩:=HA.o (by omega)
   have HCC:=I (fun i x hx=>(hc i x hx).1)
   have HBL:=I hbl
   have ds:=(HBK.o.cell (p:=⟨b,o+k,none⟩) hbl).trans (hc k s hs).1
   have HNM:=I (z87 s wr)
   have HSK:=I hs
   clear hc hbl hs
   rcases Nat.eq_zero_or_pos k with hk0|hk0
   ·subst hk0
    have ds0:wr.cell? ⟨b,o,none⟩= some (.string s):=ds
    have hlt0:(0:Int) <(l.length:Int):=by omega
    have HV:=I (HR.o.symm.trans (H1.o s HSK.o))
    clear HR
    generalize nameB s= nb at*
    cases nb with
    |false=>
     have HV2:Hid (res= false):=I (HV.o.trans (Bool.false_and _))
     clear HV
     go_wp2_with (go_at_call 136;refine HNM.o.mono ?_;rintro e z ⟨rfl,hbz⟩;have HB3:=I hbz;clear hbz)
     go_ret
     exact⟨z6 HV2.o.symm,HBK.o.trans (HB3.o.mono HBK.o.size)⟩
    |true=>
     have HV2:=I (HV.o.trans (Bool.true_and _))
     clear HV
     go_wp2_with (go_at_call 136;refine HNM.o.mono ?_;rintro e z ⟨rfl,hbz⟩;have HB3:=I hbz;clear hbz)
     go_roundg q
     case measure=>omega
     case rel=>exact⟨1,by omega,by go_num,HBK.o.trans (HB3.o.mono HBK.o.size),HV2.o.symm⟩
   ·obtain⟨j,rfl⟩:∃ j,k= j+1:=⟨k - 1,by omega⟩
    obtain⟨p,hp⟩:∃ p,l[j]?= some p:=⟨_,List.getElem?_eq_getElem (by omega)⟩
    have HV:=I (HR.o.symm.trans (H2.o j p s hp HSK.o))
    have HDP:=I (HCC.o j p hp)
    have hpos:(0:Int) <((j+1:Nat):Int):=by omega
    have hj2:(j:Int) <(l.length:Int):=by omega
    clear HR hp
    generalize nameB s= nb at*
    cases nb with
    |false=>
     have HV2:Hid (res= false):=I (HV.o.trans (Bool.false_and _))
     clear HV
     go_wp2_with (go_at_call 136;refine HNM.o.mono ?_;rintro e z ⟨rfl,hbz⟩;have HB3:=I hbz;clear hbz)
     go_ret
     exact⟨z6 HV2.o.symm,HBK.o.trans (HB3.o.mono HBK.o.size)⟩
    |true=>
     have HV2:=I (HV.o.trans (Bool.true_and _))
     clear HV
     cases hlt3:Op.bytesLess p.toList s.toList with
     |false=>
      have HV3:Hid (res= false):=I (HV2.o.trans (by rw[hlt3];exact Bool.false_and _))
      go_wp2_with (go_at_call 136;refine HNM.o.mono ?_;rintro e z ⟨rfl,hbz⟩;have HB3:=I hbz;have dp:=(((HBK.o.trans (hbz.mono HBK.o.size)).cell (p:=⟨b,o+j,none⟩) HBL.o)).trans HDP.o;clear hbz)
      go_ret
      exact⟨z6 HV3.o.symm,HBK.o.trans (HB3.o.mono HBK.o.size)⟩
     |true=>
      have HV3:=I (HV2.o.trans (by rw[hlt3,Bool.true_and]))
      go_wp2_with (go_at_call 136;refine HNM.o.mono ?_;rintro e z ⟨rfl,hbz⟩;have HB3:=I hbz;have dp:=(((HBK.o.trans (hbz.mono HBK.o.size)).cell (p:=⟨b,o+j,none⟩) HBL.o)).trans HDP.o;clear hbz)
      go_roundg q
      case measure=>omega
      case rel=>exact⟨j+2,by omega,by go_num,HBK.o.trans (HB3.o.mono HBK.o.size),HV3.o.symm⟩
mutual
def cntV:VT->Nat->Nat
 | .mk _ _ _ _ _ its,n=>cntL its (n+1)
def cntL:List VT->Nat->Nat
 |[],n=>n
 |a::l,n=>if 500<=n then n else cntL l (cntV a n)
end
theorem z9D:∀ (l:List VT) (n:Nat),(∀ x∈l,∀ m,m < 500->cntV x m<=500)->n<=500->cntL l n<=500
 |[],n,_,h=>by rw[cntL];exact h
 |a::l,n,h,hn=>by
  rw[cntL]
  split
  ·exact hn
  ·exact z9D l _ (fun x hx=>h x (List.mem_cons_of_mem _ hx)) (h a (List.mem_cons_self ..) n (by omega))
theorem z9R (t:VT):∀ m,m < 500->cntV t m<=500:=by
 induction t using VT.ind with
 |h k n f s ns its ih=>exact fun m hm=>by rw[cntV];exact z9D its _ ih (by omega)
theorem z7w {l:List VT} {k m:Nat} {x:VT} (h:l[k]?= some x):cntL (l.drop k) m= if 500<=m then m else cntL (l.drop (k+1)) (cntV x m):=by
 rw[z0j h,cntL]
theorem z89 {l:List VT} {m:Nat}:cntL (l.drop l.length) m= m:=by
 rw[List.drop_eq_nil_of_le (Nat.le_refl _),cntL]
theorem z9q:∀ (t:VT) (m:Nat) (cs:List Value) (p o:Nat) (w:World),m < 500->w.rangeAt p o cs->ValAt w w.heap.size cs t->
  Calls Tryz.prog 100 #[.pointer (some ⟨p,o,none⟩),.int .i64 m] w fun e w'=>e= .returned (.int .i64 (cntV t m:Nat))/\w'= w:=by
 intro t
 induction t using VT.ind with
 |h k n f s ns its ih=>
  intro m cs p o w hm hr hv
  have IH:=I ih
  obtain⟨vn,vi,rfl,_,_,_,_,_,_,hi⟩:=hv.inv
  obtain⟨A,c,rfl,hil,hA⟩:=z0K hi
  have HA:=I hA
  have d5:=hr 5 _ rfl
  have HS:=I (fun k m x=>z7w (l:=its) (k:=k) (m:=m) (x:=x))
  have HE:=I (fun m=>z89 (l:=its) (m:=m))
  have HLE:=I (fun x m hm=>z9R x m hm)
  have H0:Hid (cntL (its.drop 0) (m+1)= cntV (.mk k n f s ns its) m):=I (by rw[cntV];rfl)
  have hm2:(m:Int) < 500:=by omega
  clear ih hi hA hr hv
  generalize cntV (.mk k n f s ns its) m= res at*
  go_enter Tryz.func100,Tryz.ntmps100
  go_wp2
  go_loopg [1,13] its.length (fun q n x u=>∃ (j m:Nat),j+q= its.length/\x= .int .i64 j/\n= .int .i64 m/\m<=500/\u= w/\cntL (its.drop j) m= res)
  case atStart=>exact⟨0,m+1,by omega,rfl,by go_num,by omega,rfl,H0.o⟩
  case round=>
   obtain⟨j,m,hj,rfl,rfl,hm5,rfl,hres⟩:=hrel
   have HR:=I hres
   clear hres
   cases gk with
   |zero=>
    obtain rfl:j= its.length:=by omega
    have hge: ¬ ((its.length:Int) <(its.length:Int)):=by omega
    have HV:=I (HR.o.symm.trans (HE.o m))
    go_wp2
    go_ret
    exact⟨by rw[HV.o];rfl,rfl⟩
   |succ q=>
    have hlt:(j:Int) <(its.length:Int):=by omega
    obtain⟨x,hx⟩:∃ x,its[j]?= some x:=⟨_,List.getElem?_eq_getElem (by omega)⟩
    obtain⟨b,o',rfl,hbl,hc⟩:=HA.o (by omega)
    obtain⟨ks,hks,hvx⟩:=hc j x hx
    have HV:=I (HR.o.symm.trans (HS.o j m x hx))
    by_cases h5:500<=m
    ·have HV2:=I (HV.o.trans (if_pos h5))
     have t1:(500:Int)<=(m:Int):=by omega
     clear hc hks hvx hx HV
     go_wp2
     go_ret
     exact⟨by rw[HV2.o];rfl,rfl⟩
    ·have HV2:=I (HV.o.trans (if_neg h5))
     have t1: ¬ ((500:Int)<=(m:Int)):=by omega
     have HC:=I (IH.o x (List.mem_of_getElem? hx) m ks b (o'+j*6) wr (by omega) hks hvx)
     have hle:=HLE.o x m (by omega)
     clear hc hks hvx hx HV h5
     go_wp2_with (go_at_call 100;refine HC.o.mono ?_;rintro e z ⟨rfl,rfl⟩)
     go_roundg q
     case measure=>omega
     case rel=>exact⟨j+1,_,by omega,by go_num,rfl,hle,rfl,HV2.o.symm⟩
theorem zcs (t:VT) (cs:List Value) (w:World) (hv:ValAt w w.heap.size cs t):Calls Tryz.prog 64 #[.agg ⟨cs⟩] w fun e w'=>e= .returned (.int .i64 (cntV t 0:Nat))/\Below w.heap.size w w':=by
 have HB1:=I (zc w (.cells ⟨cs⟩ 27))
 have HC:=I (z9q t 0 cs w.heap.size 0 (w.alloc (.cells ⟨cs⟩ 27)) (by decide) (zm w cs 27) (hv.next HB1.o))
 go_enter Tryz.func64,Tryz.ntmps64
 go_wp2_with (go_at_call 100;refine HC.o.mono ?_;rintro e z ⟨rfl,rfl⟩)
 go_ret
 exact⟨rfl,HB1.o⟩
end
section
open Go Go.RowKit
mutual
def zo:VT->Nat->Bool
 | .mk k n f s ns its,d=>
  if 12 < d then false
  else if k= 1 then bareB true false false false n f s ns.length its.length && (n / 2 ==0)
  else if k= 2 then bareB true false false false n f s ns.length its.length
  else if k= 3 then bareB false true false false n f s ns.length its.length
  else if k= 4 then bareB false false true false n f s ns.length its.length && decide (s.size<=200)
  else if k= 6 then(ns.length ==its.length) && (riseB none ns && (bareB false false false true n f s ns.length its.length && zA its (d+1)))
  else if k= 5 then bareB false false false true n f s ns.length its.length && ((ns.length ==0) && zA its (d+1))
  else false
def zA:List VT->Nat->Bool
 |[],_=>true
 |a::l,d=>zo a d && zA l d
end
theorem z1G {l:List VT} {k d:Nat} {x:VT} (h:l[k]?= some x):zA (l.drop k) d=(zo x d && zA (l.drop (k+1)) d):=by
 rw[z0j h,zA]
theorem z25 {l:List VT} {d:Nat}:zA (l.drop l.length) d= true:=by
 rw[List.drop_eq_nil_of_le (Nat.le_refl _),zA]
theorem zbg:∀ (t:VT) (d:Nat) (cs:List Value) (p o:Nat) (w:World),d<=13->p < w.heap.size->w.rangeAt p o cs->ValAt w w.heap.size cs t->
  Calls Tryz.prog 65 #[.pointer (some ⟨p,o,none⟩),.int .i64 d] w fun e w'=>e= .returned (.bool (zo t d))/\Below w.heap.size w w':=by
 intro t
 induction t using VT.ind with
 |h k n f s ns its ih=>
  intro d cs p o w hd hp hr hv
  have IH:=I ih
  obtain⟨vn,vi,rfl,_,_,hf,_,hn,_,hi⟩:=hv.inv
  obtain⟨_,NA,nc,rfl,_⟩:=id hn
  obtain⟨A,c,rfl,hil,hA⟩:=z0K hi
  have hnl:=hn.1
  have HF:=I (wf64 hf)
  have HN:=I hn
  have HA:=I hA
  have HRG:=I hr
  have HP:=I hp
  have d0:w.cell? ⟨p,o,none⟩= some (.int .i64 k):=hr 0 _ rfl
  have d1:=hr 1 _ rfl
  have d3:=hr 3 _ rfl
  have d4:=hr 4 _ rfl
  have d5:=hr 5 _ rfl
  have HO:Hid (zo (.mk k n f s ns its) d= if 12 < d then false
   else if k= 1 then bareB true false false false n f s ns.length its.length && (n / 2 ==0)
   else if k= 2 then bareB true false false false n f s ns.length its.length
   else if k= 3 then bareB false true false false n f s ns.length its.length
   else if k= 4 then bareB false false true false n f s ns.length its.length && decide (s.size<=200)
   else if k= 6 then(ns.length ==its.length) && (riseB none ns && (bareB false false false true n f s ns.length its.length && zA its (d+1)))
   else if k= 5 then bareB false false false true n f s ns.length its.length && ((ns.length ==0) && zA its (d+1))
   else false):=I (by rw[zo])
  generalize hres:zo (.mk k n f s ns its) d= res at*
  clear ih hr hv hn hi hA hf hp hres
  by_cases hdeep:12 < d
  ·have HV:=I (HO.o.trans (if_pos hdeep))
   have t1:(12:Int) <(d:Int):=by omega
   clear HO hdeep
   go_enter Tryz.func65,Tryz.ntmps65
   go_wp2
   go_ret
   exact⟨z6 HV.o.symm,Below.refl _ w⟩
  have t1: ¬ ((12:Int) <(d:Int)):=by omega
  have HO1:=I (HO.o.trans (if_neg hdeep))
  clear HO
  by_cases k1:k= 1
  ·subst k1
   have HV:=I (HO1.o.trans (if_pos rfl))
   clear HO1
   have HBR:=I (fun w' (h:w'.rangeAt p o [(.int .i64 1),.int .i64 n,.float .f64 f,.string s,.slice NA ns.length nc,.slice A its.length c])=>zcb p o 1 n f s NA A ns.length its.length nc c w' HF.o h)
   generalize bareB true false false false n f s ns.length its.length= bb at*
   cases bb with
   |false=>
    have HV2:Hid (res= false):=I (HV.o.trans (Bool.false_and _))
    clear HV d3 d4 d5
    go_enter Tryz.func65,Tryz.ntmps65
    go_wp2_with (go_at_call 101;refine(HBR.o _ HRG.o).mono ?_;rintro e z ⟨rfl,hzw⟩;obtain rfl:=hzw.symm)
    go_ret
    exact⟨z6 HV2.o.symm,Below.refl _ w⟩
   |true=>
    have HV2:Hid (res=(n / 2 ==0)):=I (HV.o.trans (Bool.true_and _))
    clear HV d3 d4 d5
    go_enter Tryz.func65,Tryz.ntmps65
    go_wp2_with (go_at_call 101;refine(HBR.o _ HRG.o).mono ?_;rintro e z ⟨rfl,hzw⟩;obtain rfl:=hzw.symm)
    go_ret
    exact⟨z6 HV2.o.symm,Below.refl _ w⟩
  have HO2:=I (HO1.o.trans (if_neg k1))
  clear HO1
  by_cases k2:k= 2
  ·subst k2
   have HV:=I (HO2.o.trans (if_pos rfl))
   clear HO2
   have HBR:=I (fun w' (h:w'.rangeAt p o [(.int .i64 2),.int .i64 n,.float .f64 f,.string s,.slice NA ns.length nc,.slice A its.length c])=>zcb p o 2 n f s NA A ns.length its.length nc c w' HF.o h)
   generalize bareB true false false false n f s ns.length its.length= bb at*
   clear d1 d3 d4 d5
   go_enter Tryz.func65,Tryz.ntmps65
   go_wp2_with (go_at_call 101;refine(HBR.o _ HRG.o).mono ?_;rintro e z ⟨rfl,hzw⟩;obtain rfl:=hzw.symm)
   go_ret
   exact⟨z6 HV.o.symm,Below.refl _ w⟩
  have HO3:=I (HO2.o.trans (if_neg k2))
  clear HO2
  by_cases k3:k= 3
  ·subst k3
   have HV:=I (HO3.o.trans (if_pos rfl))
   clear HO3
   have HBR:=I (fun w' (h:w'.rangeAt p o [(.int .i64 3),.int .i64 n,.float .f64 f,.string s,.slice NA ns.length nc,.slice A its.length c])=>zgu p o 3 n f s NA A ns.length its.length nc c w' HF.o h)
   generalize bareB false true false false n f s ns.length its.length= bb at*
   clear d1 d3 d4 d5
   go_enter Tryz.func65,Tryz.ntmps65
   go_wp2_with (go_at_call 101;refine(HBR.o _ HRG.o).mono ?_;rintro e z ⟨rfl,hzw⟩;obtain rfl:=hzw.symm)
   go_ret
   exact⟨z6 HV.o.symm,Below.refl _ w⟩
  have HO4:=I (HO3.o.trans (if_neg k3))
  clear HO3
  by_cases k4:k= 4
  ·subst k4
   have HV:=I (HO4.o.trans (if_pos rfl))
   clear HO4
   have HBR:=I (fun w' (h:w'.rangeAt p o [(.int .i64 4),.int .i64 n,.float .f64 f,.string s,.slice NA ns.length nc,.slice A its.length c])=>zgC p o 4 n f s NA A ns.length its.length nc c w' HF.o h)
   generalize bareB false false true false n f s ns.length its.length= bb at*
   cases bb with
   |false=>
    have HV2:Hid (res= false):=I (HV.o.trans (Bool.false_and _))
    clear HV d1 d4 d5
    go_enter Tryz.func65,Tryz.ntmps65
    go_wp2_with (go_at_call 101;refine(HBR.o _ HRG.o).mono ?_;rintro e z ⟨rfl,hzw⟩;obtain rfl:=hzw.symm)
    go_ret
    exact⟨z6 HV2.o.symm,Below.refl _ w⟩
   |true=>
    have HV2:Hid (res= decide (s.size<=200)):=I (HV.o.trans (Bool.true_and _))
    clear HV d1 d4 d5
    by_cases hs:s.size<=200
    ·have t2:(s.size:Int)<=200:=by omega
     have HV3:=I (HV2.o.trans (decide_eq_true hs))
     go_enter Tryz.func65,Tryz.ntmps65
     go_wp2_with (go_at_call 101;refine(HBR.o _ HRG.o).mono ?_;rintro e z ⟨rfl,hzw⟩;obtain rfl:=hzw.symm)
     go_ret
     exact⟨z6 HV3.o.symm,Below.refl _ w⟩
    ·have t2:decide ((s.size:Int)<=200)= false:=decide_eq_false (by omega)
     have t2':(200:Int) <(s.size:Int):=by omega
     have HV3:=I (HV2.o.trans (decide_eq_false hs))
     go_enter Tryz.func65,Tryz.ntmps65
     go_wp2_with (go_at_call 101;refine(HBR.o _ HRG.o).mono ?_;rintro e z ⟨rfl,hzw⟩;obtain rfl:=hzw.symm)
     go_ret
     exact⟨z6 HV3.o.symm,Below.refl _ w⟩
  have HO5:=I (HO4.o.trans (if_neg k4))
  clear HO4
  by_cases k5:k= 5
  ·subst k5
   have HV:=I (HO5.o.trans ((if_neg (by decide)).trans (if_pos rfl)))
   clear HO5
   have HBR:=I (fun w' (h:w'.rangeAt p o [(.int .i64 5),.int .i64 n,.float .f64 f,.string s,.slice NA ns.length nc,.slice A its.length c])=>zc0 p o 5 n f s NA A ns.length its.length nc c w' HF.o h)
   generalize bareB false false false true n f s ns.length its.length= bb at*
   cases bb with
   |false=>
    have HV2:Hid (res= false):=I (HV.o.trans (Bool.false_and _))
    clear HV d1 d3
    go_enter Tryz.func65,Tryz.ntmps65
    go_wp2_with (go_at_call 101;refine(HBR.o _ HRG.o).mono ?_;rintro e z ⟨rfl,hzw⟩;obtain rfl:=hzw.symm)
    go_ret
    exact⟨z6 HV2.o.symm,Below.refl _ w⟩
   |true=>
    have HV2:=I (HV.o.trans (Bool.true_and _))
    clear HV d1 d3
    by_cases hnz:ns.length= 0
    ·have HV9:Hid (res= zA its (d+1)):=I (HV2.o.trans (by rw[hnz];exact Bool.true_and _))
     rw[hnz] at HRG HBR d4
     clear HV2 hnz HN
     go_enter Tryz.func65,Tryz.ntmps65
     go_wp2_with (go_at_call 101;refine(HBR.o _ HRG.o).mono ?_;rintro e z ⟨rfl,hzw⟩;obtain rfl:=hzw.symm)
     go_loopg [90] its.length (fun q x u=>∃ j:Nat,j+q= its.length/\x= .int .i64 j/\Below w.heap.size w u/\zA (its.drop j) (d+1)= res)
     case atStart=>exact⟨0,by omega,rfl,Below.refl _ _,HV9.o.symm⟩
     case round=>
      obtain⟨j,hj,rfl,hb,hres⟩:=hrel
      have HR:=I hres
      have HBK:=I hb
      clear hres hb
      cases gk with
      |zero=>
       obtain rfl:j= its.length:=by omega
       have hge: ¬ ((its.length:Int) <(its.length:Int)):=by omega
       have HVE:=I (HR.o.symm.trans z25)
       go_wp2
       go_ret
       exact⟨z6 HVE.o.symm,HBK.o⟩
      |succ q=>
       have hlt:(j:Int) <(its.length:Int):=by omega
       obtain⟨x,hx⟩:∃ x,its[j]?= some x:=⟨_,List.getElem?_eq_getElem (by omega)⟩
       obtain⟨b,o',rfl,hbl,hc⟩:=HA.o (by omega)
       obtain⟨ks,hks,hvx⟩:=hc j x hx
       have HVS:=I (HR.o.symm.trans (z1G hx))
       have dd5:=(HBK.o.cell (p:=⟨p,o+5,none⟩) HP.o).trans (HRG.o 5 _ rfl)
       have HC:=I (IH.o x (List.mem_of_getElem? hx) (d+1) ks b (o'+j*6) wr (by omega) (Nat.lt_of_lt_of_le hbl HBK.o.size) (za hks HBK.o hbl) (hvx.next HBK.o))
       have hd1:((d+1:Nat):Int)=(d:Int)+1:=by omega
       rw[hd1] at HC
       clear hc hks hvx hx hd1
       generalize zo x (d+1)= rx at*
       cases rx with
       |true=>
        have HV2:=I (HVS.o.trans (Bool.true_and _))
        clear HVS
        go_wp2_with (go_at_call 65;refine HC.o.mono ?_;rintro e z ⟨rfl,hbz⟩;have HB3:=I hbz;clear hbz)
        go_roundg q
        case measure=>omega
        case rel=>exact⟨j+1,by omega,by go_num,HBK.o.trans (HB3.o.mono HBK.o.size),HV2.o.symm⟩
       |false=>
        have HV2:Hid (res= false):=I (HVS.o.trans (Bool.false_and _))
        clear HVS
        go_wp2_with (go_at_call 65;refine HC.o.mono ?_;rintro e z ⟨rfl,hbz⟩;have HB3:=I hbz;clear hbz)
        go_ret
        exact⟨z6 HV2.o.symm,HBK.o.trans (HB3.o.mono HBK.o.size)⟩
    ·have HV3:Hid (res= false):=I (HV2.o.trans (by rw[beq_eq_false_iff_ne.2 hnz];exact Bool.false_and _))
     have t2:(0:Int) <(ns.length:Int):=by omega
     clear HV2 hnz
     go_enter Tryz.func65,Tryz.ntmps65
     go_wp2_with (go_at_call 101;refine(HBR.o _ HRG.o).mono ?_;rintro e z ⟨rfl,hzw⟩;obtain rfl:=hzw.symm)
     go_ret
     exact⟨z6 HV3.o.symm,Below.refl _ w⟩
  by_cases k6:k= 6
  ·subst k6
   have HV:=I (HO5.o.trans (if_pos rfl))
   clear HO5
   have HBR:=I (fun w' (h:w'.rangeAt p o [(.int .i64 6),.int .i64 n,.float .f64 f,.string s,.slice NA ns.length nc,.slice A its.length c])=>zc0 p o 6 n f s NA A ns.length its.length nc c w' HF.o h)
   have HRI:=I (fun z (hz:Below w.heap.size w z)=>zau (.slice NA ns.length nc) ns z ((HN.o.below hz fun _ _ _ h=>h).more hz.size))
   by_cases hlen:ns.length= its.length
   ·have HV2:=I (HV.o.trans (by rw[show(ns.length ==its.length)= true from by rw[hlen];exact beq_self_eq_true _,Bool.true_and]))
    have t2:((ns.length:Int) !=(its.length:Int))= false:=by rw[hlen];exact bne_self_eq_false _
    clear HV hlen
    generalize riseB none ns= rb at*
    cases rb with
    |false=>
     have HV3:Hid (res= false):=I (HV2.o.trans (Bool.false_and _))
     clear HV2 d1 d3
     go_enter Tryz.func65,Tryz.ntmps65
     go_upto_region 14 with (fail)
     clear d0 d4 d5
     refine zF [(0,true),(1,true),(2,true),(3,true),(4,true),(5,true),(6,true),(7,true),(8,true),(9,true),(10,true),(11,true),(12,true),(13,true),(14,true),(15,true),(16,false),(17,true),(18,true)]
      (fun z=>Below w.heap.size w z) (by kernel_rfl) (by kernel_rfl) (by kernel_rfl) rfl (by intro c a d v w h;cases d<;>exact h) ?_
     have hs:Below w.heap.size w w.drew:=(Below.refl _ w).drew
     refine zh (some 48) (.pointer (some ⟨p,o,none⟩)) _ _ rfl rfl rfl (by exact wA rfl) hs rfl ?_
     go_frame
     refine z8 (some 49) (.pointer (some ⟨p,o,none⟩)) _ rfl rfl (by exact wA rfl) hs (fun z hz=>by go_simp) ?_
     go_frame
     refine z8 (some 50) (.pointer (some ⟨p,o+4,none⟩)) _ rfl rfl (by exact wA rfl) hs (fun z hz=>by go_simp) ?_
     go_frame
     refine z8 (some 51) (.slice NA ns.length nc) _ rfl rfl (by exact wA rfl) hs (fun z hz=>by have dd:=(hz.cell (p:=⟨p,o+4,none⟩) HP.o).trans (HRG.o 4 _ rfl);go_simp) ?_
     go_frame
     refine z8 (some 52) (.int .i64 ns.length) _ rfl rfl (by exact wA rfl) hs (fun z hz=>by go_simp) ?_
     go_frame
     refine zh (some 53) (.pointer (some ⟨p,o,none⟩)) _ _ rfl rfl rfl (by exact wA rfl) hs rfl ?_
     go_frame
     refine z8 (some 54) (.pointer (some ⟨p,o,none⟩)) _ rfl rfl (by exact wA rfl) hs (fun z hz=>by go_simp) ?_
     go_frame
     refine z8 (some 55) (.pointer (some ⟨p,o+5,none⟩)) _ rfl rfl (by exact wA rfl) hs (fun z hz=>by go_simp) ?_
     go_frame
     refine z8 (some 56) (.slice A its.length c) _ rfl rfl (by exact wA rfl) hs (fun z hz=>by have dd:=(hz.cell (p:=⟨p,o+5,none⟩) HP.o).trans (HRG.o 5 _ rfl);go_simp) ?_
     go_frame
     refine z8 (some 57) (.int .i64 its.length) _ rfl rfl (by exact wA rfl) hs (fun z hz=>by go_simp) ?_
     go_frame
     refine z8 (some 58) (.bool false) _ rfl rfl (by exact wA rfl) hs (fun z hz=>by go_simp) ?_
     go_frame
     refine zh (some 59) (.bool false) _ _ rfl rfl rfl (by exact wA rfl) hs rfl ?_
     go_frame
     refine zh (some 60) (.pointer (some ⟨p,o,none⟩)) _ _ rfl rfl rfl (by exact wA rfl) hs rfl ?_
     go_frame
     refine z8 (some 61) (.pointer (some ⟨p,o,none⟩)) _ rfl rfl (by exact wA rfl) hs (fun z hz=>by go_simp) ?_
     go_frame
     refine z8 (some 62) (.pointer (some ⟨p,o+4,none⟩)) _ rfl rfl (by exact wA rfl) hs (fun z hz=>by go_simp) ?_
     go_frame
     refine z8 (some 63) (.slice NA ns.length nc) _ rfl rfl (by exact wA rfl) hs (fun z hz=>by have dd:=(hz.cell (p:=⟨p,o+4,none⟩) HP.o).trans (HRG.o 4 _ rfl);go_simp) ?_
     go_frame
     refine zx (some 64) 102 Tryz.func102 (by kernel_rfl) (by kernel_rfl) [.slice NA ns.length nc] _ _ _ rfl rfl rfl (by exact wA rfl) rfl ?_
     refine(HRI.o _ hs).mono ?_
     rintro e z1 ⟨rfl,hb1⟩
     have hs2:Below w.heap.size w z1:=hs.trans (hb1.mono hs.size)
     refine⟨.bool false,rfl,hs2,?_⟩
     clear hb1
     go_frame
     refine z8 (some 65) (.bool true) _ rfl rfl (by exact wA rfl) hs2 (fun z hz=>by go_simp) ?_
     go_frame
     refine z80 (some 66) (.bool true) _ _ _ _ false rfl rfl rfl rfl (by exact wA rfl) hs2 rfl ?_
     go_frame
     refine z0a ?_
     have HB2:=I hs2
     clear hs hs2
     go_wp2
     go_ret
     exact⟨z6 HV3.o.symm,HB2.o⟩
    |true=>
     have HV3:=I (HV2.o.trans (Bool.true_and _))
     clear HV2 d1 d3
     generalize bareB false false false true n f s ns.length its.length= bb at*
     go_enter Tryz.func65,Tryz.ntmps65
     go_upto_region 14 with (fail)
     clear d0 d4 d5
     refine zF [(0,true),(1,true),(2,true),(3,true),(4,true),(5,true),(6,true),(7,true),(8,true),(9,true),(10,true),(11,true),(12,true),(13,true),(14,true),(15,true),(16,false),(17,true),(18,true)]
      (fun z=>Below w.heap.size w z) (by kernel_rfl) (by kernel_rfl) (by kernel_rfl) rfl (by intro c a d v w h;cases d<;>exact h) ?_
     have hs:Below w.heap.size w w.drew:=(Below.refl _ w).drew
     refine zh (some 48) (.pointer (some ⟨p,o,none⟩)) _ _ rfl rfl rfl (by exact wA rfl) hs rfl ?_
     go_frame
     refine z8 (some 49) (.pointer (some ⟨p,o,none⟩)) _ rfl rfl (by exact wA rfl) hs (fun z hz=>by go_simp) ?_
     go_frame
     refine z8 (some 50) (.pointer (some ⟨p,o+4,none⟩)) _ rfl rfl (by exact wA rfl) hs (fun z hz=>by go_simp) ?_
     go_frame
     refine z8 (some 51) (.slice NA ns.length nc) _ rfl rfl (by exact wA rfl) hs (fun z hz=>by have dd:=(hz.cell (p:=⟨p,o+4,none⟩) HP.o).trans (HRG.o 4 _ rfl);go_simp) ?_
     go_frame
     refine z8 (some 52) (.int .i64 ns.length) _ rfl rfl (by exact wA rfl) hs (fun z hz=>by go_simp) ?_
     go_frame
     refine zh (some 53) (.pointer (some ⟨p,o,none⟩)) _ _ rfl rfl rfl (by exact wA rfl) hs rfl ?_
     go_frame
     refine z8 (some 54) (.pointer (some ⟨p,o,none⟩)) _ rfl rfl (by exact wA rfl) hs (fun z hz=>by go_simp) ?_
     go_frame
     refine z8 (some 55) (.pointer (some ⟨p,o+5,none⟩)) _ rfl rfl (by exact wA rfl) hs (fun z hz=>by go_simp) ?_
     go_frame
     refine z8 (some 56) (.slice A its.length c) _ rfl rfl (by exact wA rfl) hs (fun z hz=>by have dd:=(hz.cell (p:=⟨p,o+5,none⟩) HP.o).trans (HRG.o 5 _ rfl);go_simp) ?_
     go_frame
     refine z8 (some 57) (.int .i64 its.length) _ rfl rfl (by exact wA rfl) hs (fun z hz=>by go_simp) ?_
     go_frame
     refine z8 (some 58) (.bool false) _ rfl rfl (by exact wA rfl) hs (fun z hz=>by go_simp) ?_
     go_frame
     refine zh (some 59) (.bool false) _ _ rfl rfl rfl (by exact wA rfl) hs rfl ?_
     go_frame
     refine zh (some 60) (.pointer (some ⟨p,o,none⟩)) _ _ rfl rfl rfl (by exact wA rfl) hs rfl ?_
     go_frame
     refine z8 (some 61) (.pointer (some ⟨p,o,none⟩)) _ rfl rfl (by exact wA rfl) hs (fun z hz=>by go_simp) ?_
     go_frame
     refine z8 (some 62) (.pointer (some ⟨p,o+4,none⟩)) _ rfl rfl (by exact wA rfl) hs (fun z hz=>by go_simp) ?_
     go_frame
     refine z8 (some 63) (.slice NA ns.length nc) _ rfl rfl (by exact wA rfl) hs (fun z hz=>by have dd:=(hz.cell (p:=⟨p,o+4,none⟩) HP.o).trans (HRG.o 4 _ rfl);go_simp) ?_
     go_frame
     refine zx (some 64) 102 Tryz.func102 (by kernel_rfl) (by kernel_rfl) [.slice NA ns.length nc] _ _ _ rfl rfl rfl (by exact wA rfl) rfl ?_
     refine(HRI.o _ hs).mono ?_
     rintro e z1 ⟨rfl,hb1⟩
     have hs2:Below w.heap.size w z1:=hs.trans (hb1.mono hs.size)
     refine⟨.bool true,rfl,hs2,?_⟩
     clear hb1
     go_frame
     refine z8 (some 65) (.bool false) _ rfl rfl (by exact wA rfl) hs2 (fun z hz=>by go_simp) ?_
     go_frame
     refine z80 (some 66) (.bool false) _ _ _ _ false rfl rfl rfl rfl (by exact wA rfl) hs2 rfl ?_
     go_frame
     refine z0a ?_
     have HB2:=I hs2
     clear hs hs2
     have HR1:=I (za HRG.o HB2.o HP.o)
     have e0:z1.cell? ⟨p,o,none⟩= some (.int .i64 6):=HR1.o 0 _ rfl
     have e5:=HR1.o 5 _ rfl
     cases bb with
     |false=>
      have HV4:Hid (res= false):=I (HV3.o.trans (Bool.false_and _))
      go_wp2_with (go_at_call 101;refine(HBR.o _ HR1.o).mono ?_;rintro e z ⟨rfl,hzw⟩;obtain rfl:=hzw.symm)
      go_ret
      exact⟨z6 HV4.o.symm,HB2.o⟩
     |true=>
      have HV9:Hid (res= zA its (d+1)):=I (HV3.o.trans (Bool.true_and _))
      clear HV3
      go_wp2_with (go_at_call 101;refine(HBR.o _ HR1.o).mono ?_;rintro e z ⟨rfl,hzw⟩;obtain rfl:=hzw.symm)
      clear e0 e5
      go_loopg [90] its.length (fun q x u=>∃ j:Nat,j+q= its.length/\x= .int .i64 j/\Below w.heap.size w u/\zA (its.drop j) (d+1)= res)
      case atStart=>exact⟨0,by omega,rfl,HB2.o,HV9.o.symm⟩
      case round=>
       obtain⟨j,hj,rfl,hb,hres⟩:=hrel
       have HR:=I hres
       have HBK:=I hb
       clear hres hb
       cases gk with
       |zero=>
        obtain rfl:j= its.length:=by omega
        have hge: ¬ ((its.length:Int) <(its.length:Int)):=by omega
        have HVE:=I (HR.o.symm.trans z25)
        go_wp2
        go_ret
        exact⟨z6 HVE.o.symm,HBK.o⟩
       |succ q=>
        have hlt:(j:Int) <(its.length:Int):=by omega
        obtain⟨x,hx⟩:∃ x,its[j]?= some x:=⟨_,List.getElem?_eq_getElem (by omega)⟩
        obtain⟨b,o',rfl,hbl,hc⟩:=HA.o (by omega)
        obtain⟨ks,hks,hvx⟩:=hc j x hx
        have HVS:=I (HR.o.symm.trans (z1G hx))
        have dd5:=(HBK.o.cell (p:=⟨p,o+5,none⟩) HP.o).trans (HRG.o 5 _ rfl)
        have HC:=I (IH.o x (List.mem_of_getElem? hx) (d+1) ks b (o'+j*6) wr (by omega) (Nat.lt_of_lt_of_le hbl HBK.o.size) (za hks HBK.o hbl) (hvx.next HBK.o))
        have hd1:((d+1:Nat):Int)=(d:Int)+1:=by omega
        rw[hd1] at HC
        clear hc hks hvx hx hd1
        generalize zo x (d+1)= rx at*
        cases rx with
        |true=>
         have HV2:=I (HVS.o.trans (Bool.true_and _))
         clear HVS
         go_wp2_with (go_at_call 65;refine HC.o.mono ?_;rintro e z ⟨rfl,hbz⟩;have HB3:=I hbz;clear hbz)
         go_roundg q
         case measure=>omega
         case rel=>exact⟨j+1,by omega,by go_num,HBK.o.trans (HB3.o.mono HBK.o.size),HV2.o.symm⟩
        |false=>
         have HV2:Hid (res= false):=I (HVS.o.trans (Bool.false_and _))
         clear HVS
         go_wp2_with (go_at_call 65;refine HC.o.mono ?_;rintro e z ⟨rfl,hbz⟩;have HB3:=I hbz;clear hbz)
         go_ret
         exact⟨z6 HV2.o.symm,HBK.o.trans (HB3.o.mono HBK.o.size)⟩
   ·have HV2:Hid (res= false):=I (HV.o.trans (by rw[beq_eq_false_iff_ne.2 hlen];exact Bool.false_and _))
    have t2:((ns.length:Int) !=(its.length:Int))= true:=by rw[bne_iff_ne];omega
    clear HV hlen d1 d3
    go_enter Tryz.func65,Tryz.ntmps65
    go_wp2
    go_quiet (fail)
    go_wp2
    go_ret
    exact⟨z6 HV2.o.symm,zr (Below.refl _ w) _⟩
  have HV:=I (HO5.o.trans ((if_neg k6).trans (if_neg k5)))
  have s1:(k ==1)= false:=by simpa using k1
  have s2:(k ==2)= false:=by simpa using k2
  have s3:(k ==3)= false:=by simpa using k3
  have s4:(k ==4)= false:=by simpa using k4
  have s5:(k ==5)= false:=by simpa using k5
  have s6:(k ==6)= false:=by simpa using k6
  clear HO5 d1 d3 d4 d5 k1 k2 k3 k4 k5 k6
  go_enter Tryz.func65,Tryz.ntmps65
  go_wp2
  go_ret
  exact⟨z6 HV.o.symm,Below.refl _ w⟩
theorem z1W (t:VT) (cs:List Value) (w:World) (hv:ValAt w w.heap.size cs t):Calls Tryz.prog 38 #[.agg ⟨cs⟩] w fun e w'=>e= .returned (.bool (decide (cntV t 0<=200) && zo t 1))/\Below w.heap.size w w':=by
 have HB1:=I (zc w (.cells ⟨cs⟩ 27))
 have HS1:=I (zw w (.cells ⟨cs⟩ 27))
 have HR1:=I (zm w cs 27)
 have HL:=I (zk hv)
 have HV:=I (hv.next HB1.o)
 have HP:=I (zcs t cs (w.alloc (.cells ⟨cs⟩ 27)) HV.o)
 clear hv
 go_enter Tryz.func38,Tryz.ntmps38
 go_upto_region 1 with (fail)
 generalize w.alloc (.cells ⟨cs⟩ 27)= W at*
 by_cases hc:cntV t 0<=200
 ·have t1:((cntV t 0:Nat):Int)<=200:=by omega
  have HD:Hid ((decide (cntV t 0<=200) && zo t 1)= zo t 1):=I (by rw[decide_eq_true hc];exact Bool.true_and _)
  go_wp2_with (first|((with_reducible refine z7 27 _ rfl ?_ w.heap.size 0 cs _ rfl HR1.o Tryz.underlying27 rfl ?_ ?_);exact wA rfl;rw[HL.o.1];kernel_rfl)|(go_at_call 64;refine HP.o.mono ?_;rintro e z ⟨rfl,hbz⟩;have HB2:=I hbz;clear hbz)|(go_at_call 65;refine(zbg t 1 cs w.heap.size 0 _ (by decide) (Nat.lt_of_lt_of_le HS1.o HB2.o.size) (za HR1.o HB2.o HS1.o) (HV.o.next HB2.o)).mono ?_;rintro e z2 ⟨rfl,hbz⟩;have HB3:=I hbz;clear hbz))
  go_ret
  exact⟨z6 HD.o.symm,HB1.o.trans ((HB2.o.trans (HB3.o.mono HB2.o.size)).mono HB1.o.size)⟩
 ·have t1: ¬ (((cntV t 0:Nat):Int)<=200):=by omega
  have HD:Hid ((decide (cntV t 0<=200) && zo t 1)= false):=I (by rw[decide_eq_false hc];exact Bool.false_and _)
  go_wp2_with (first|((with_reducible refine z7 27 _ rfl ?_ w.heap.size 0 cs _ rfl HR1.o Tryz.underlying27 rfl ?_ ?_);exact wA rfl;rw[HL.o.1];kernel_rfl)|(go_at_call 64;refine HP.o.mono ?_;rintro e z ⟨rfl,hbz⟩;have HB2:=I hbz;clear hbz))
  go_ret
  first|exact⟨z6 HD.o.symm,HB1.o.trans (HB2.o.mono HB1.o.size)⟩|exact⟨rfl,HB1.o.trans (HB2.o.mono HB1.o.size)⟩
end
section
open Go
def zi (f:Nat):Nat:=if nanB f= true then 9221120237041090560 else f
theorem zaN {f:Nat} (h:nanB f= true):cmpF (zi f) f= 0:=by
 have h1:nanB 9221120237041090560= true:=by decide +kernel
 unfold zi
 rw[if_pos h]
 unfold cmpF
 rw[h1,h]
 rfl
theorem z9f (f:Nat):cmpF (zi f) f= 0:=by
 by_cases h:nanB f= true
 ·exact zaN h
 ·unfold zi
  rw[if_neg h]
  exact cmpF_good.refl f
theorem z9u (f:Nat):(cmpF (zi f) 0 ==0)=(cmpF f 0 ==0):=by
 have h1:=z9f f
 have h2:=cmpF_good.anti (zi f) f
 have t1:=cmpF_good.trans (zi f) f 0
 have t2:=cmpF_good.trans f (zi f) 0
 have t3:=cmpF_good.trans 0 (zi f) f
 have t4:=cmpF_good.trans 0 f (zi f)
 have a1:=cmpF_good.anti (zi f) 0
 have a2:=cmpF_good.anti f 0
 rw[Bool.eq_iff_iff,beq_iff_eq,beq_iff_eq]
 constructor<;>intro h<;>omega
mutual
def z01:VT->VT
 | .mk k n f s ns its=> .mk k n (zi f) s ns (z0r its)
def z0r:List VT->List VT
 |[]=>[]
 |a::l=>z01 a::z0r l
end
theorem z3J:∀ l:List VT,z0r l= l.map z01
 |[]=>by rw[z0r];rfl
 |a::l=>by rw[z0r,z3J l];rfl
theorem z3E (l:List VT):(z0r l).length= l.length:=by rw[z3J,List.length_map]
theorem z9g (a b c d:Bool) (n:Int) (f:Nat) (s:ByteArray) (x y:Nat):bareB a b c d n (zi f) s x y= bareB a b c d n f s x y:=by
 unfold bareB
 rw[z9u]
theorem z4g:∀ (l:List VT) (d:Nat),(∀ x∈l,∀ d,zo (z01 x) d= zo x d)->zA (z0r l) d= zA l d
 |[],d,_=>by rw[z0r]
 |a::l,d,h=>by
  rw[z0r,zA,zA,h a (List.mem_cons_self ..),z4g l d fun x hx=>h x (List.mem_cons_of_mem _ hx)]
theorem z9s (t:VT):∀ d,zo (z01 t) d= zo t d:=by
 induction t using VT.ind with
 |h k n f s ns its ih=>
  intro d
  rw[z01,zo,zo]
  simp only[z9g,z3E,z4g its _ ih]
theorem z66:∀ (l:List VT) (m:Nat),(∀ x∈l,∀ m,cntV (z01 x) m= cntV x m)->cntL (z0r l) m= cntL l m
 |[],m,_=>by rw[z0r]
 |a::l,m,h=>by
  rw[z0r,cntL,cntL,h a (List.mem_cons_self ..)]
  split
  ·rfl
  ·exact z66 l _ fun x hx=>h x (List.mem_cons_of_mem _ hx)
theorem z9v (t:VT):∀ m,cntV (z01 t) m= cntV t m:=by
 induction t using VT.ind with
 |h k n f s ns its ih=>
  intro m
  rw[z01,cntV,cntV]
  exact z66 its _ ih
end
section
open Go Go.RowKit
theorem z7y (f:Nat):cmpF f 0= 0↔f= 0:=by
 constructor
 ·intro h
  have h0:nanB 0= false:=by decide +kernel
  unfold cmpF at h
  rw[h0] at h
  by_cases hn:nanB f= true
  ·rw[hn] at h;simp at h
  ·have hn':nanB f= false:=by simpa using hn
   rw[hn'] at h
   simp only[ne_eq,not_true_eq_false,if_false,Bool.false_eq_true] at h
   by_cases hf:f= 0
   ·exact hf
   ·exfalso
    have hr0:rankZ 0= 0:=by unfold rankZ;simp
    rw[hr0] at h
    rcases hord:fOrd f 0 with _|o
    ·unfold nanB at hn'
     rw[z2T] at hord hn'
     have ha:nanD (dat f)= 0:=by
      rw[z0N] at*
      by_cases hd:nanD (dat f)= 0
      ·exact hd
      ·rw[z1Q _ _ (.inl hd)] at hn';simp at hn'
     have hb:nanD (dat 0)= 0:=by have:=z0N 0;rw[h0] at this;simpa using this.symm
     obtain⟨h1,h2,h3⟩:=z1V (dat f) (dat 0) (z0T f) (z0T 0) ha hb
     have h4:=z7M (dat f) (dat 0)
     rw[hord] at h1 h2 h3
     simp at h1 h2 h3
     omega
    ·have hz:rankZ f= if(fOrd f 0 ==some .eq)= true then -1 else 0:=by unfold rankZ;simp[hf]
     rw[hord] at h hz
     cases o
     ·simp at h
     ·simp at hz;rw[hz] at h;simp at h
     ·simp at h
 ·rintro rfl
  exact cmpF_good.refl 0
def nanR (f:Nat):Bool:=decide (18437736874454810624 < IntKind.u64.wrap ((f:Int) *2))
theorem z3k (f:Nat) (hf:f < 2 ^ 64) (w:World):Calls Tryz.prog 119 #[.float .f64 f] w fun e w'=>e= .returned (.bool (nanR f))/\w'= w:=by
 have e1:∀ W:World,(callFunc 134 #[.float .f64 f]).run Tryz.prog W= .ok (.value (.int .u64 f)) W:=fun W=>by
  rw[run_callFunc_extern Tryz.func134 (by kernel_rfl) (by kernel_rfl) (by kernel_rfl) (e:=Extern.MathFloatBits.float64bits) (by kernel_rfl)]
  rfl
 go_enter Tryz.func119,Tryz.ntmps119
 go_wp2
 go_ret
 exact⟨rfl,rfl⟩
def canR (f:Nat):Nat:=if nanR f= true then 9221120237041090560 else f
theorem z4F (f:Nat) (hf:f < 2 ^ 64) (w:World):Calls Tryz.prog 135 #[.float .f64 f] w fun e w'=>e= .returned (.float .f64 (canR f))/\w'= w:=by
 have e1:∀ W:World,(callFunc 137 #[.int .u64 9221120237041090560]).run Tryz.prog W= .ok (.value (.float .f64 9221120237041090560)) W:=fun W=>by
  rw[run_callFunc_extern Tryz.func137 (by kernel_rfl) (by kernel_rfl) (by kernel_rfl) (e:=Extern.MathFloatBits.float64frombits) (by kernel_rfl)]
  rfl
 have HC:=I (fun w=>z3k f hf w)
 clear hf
 cases hn:nanR f with
 |true=>
  have HV:Hid (canR f= 9221120237041090560):=I (if_pos hn)
  rw[hn] at HC
  clear hn
  go_enter Tryz.func135,Tryz.ntmps135
  go_wp2_with (go_at_call 119;refine(HC.o _).mono ?_;rintro e z ⟨rfl,rfl⟩)
  go_ret
  exact⟨congrArg (fun x=>Ending.returned (.float .f64 x)) HV.o.symm,rfl⟩
 |false=>
  have HV:Hid (canR f= f):=I (if_neg (by rw[hn];decide))
  rw[hn] at HC
  clear hn
  go_enter Tryz.func135,Tryz.ntmps135
  go_wp2_with (go_at_call 119;refine(HC.o _).mono ?_;rintro e z ⟨rfl,rfl⟩)
  go_ret
  exact⟨congrArg (fun x=>Ending.returned (.float .f64 x)) HV.o.symm,rfl⟩
theorem z8u {f:Nat}:canR f= 0↔f= 0:=by
 unfold canR
 split
 ·next h=>
  constructor
  ·intro h2;omega
  ·rintro rfl;revert h;decide +kernel
 ·exact Iff.rfl
theorem z5t (f:Nat) (hf:f < 2 ^ 64) (w:World):Calls Tryz.prog 99 #[.float .f64 f,.float .f64 0] w fun e w'=>e= .returned (.bool (cmpF f 0 ==0))/\w'= w:=by
 have HC:=I (fun w=>z4F f hf w)
 have HZ:=I (fun w=>z4F 0 (by decide) w)
 have hz:canR 0= 0:=z8u.2 rfl
 rw[hz] at HZ
 have HV:Hid ((cmpF f 0 ==0)=((canR f:Int) ==0)):=I (by
  have h1:=z7y f
  have h2:=z8u (f:=f)
  by_cases h:f= 0
  ·rw[h1.2 h,h2.2 h];rfl
  ·rw[beq_eq_false_iff_ne.2 fun h3=>h (h1.1 h3),beq_eq_false_iff_ne.2]
   intro h3;exact h (h2.1 (by omega)))
 clear hz hf
 generalize canR f= g at*
 have e1:∀ W:World,(callFunc 134 #[.float .f64 g]).run Tryz.prog W= .ok (.value (.int .u64 g)) W:=fun W=>by
  rw[run_callFunc_extern Tryz.func134 (by kernel_rfl) (by kernel_rfl) (by kernel_rfl) (e:=Extern.MathFloatBits.float64bits) (by kernel_rfl)]
  rfl
 have e2:∀ W:World,(callFunc 134 #[.float .f64 0]).run Tryz.prog W= .ok (.value (.int .u64 0)) W:=fun W=>by
  rw[run_callFunc_extern Tryz.func134 (by kernel_rfl) (by kernel_rfl) (by kernel_rfl) (e:=Extern.MathFloatBits.float64bits) (by kernel_rfl)]
  rfl
 go_enter Tryz.func99,Tryz.ntmps99
 go_wp2_with (first|(go_at_call 135;refine(HC.o _).mono ?_;rintro e z ⟨rfl,rfl⟩)|(go_at_call 135;refine(HZ.o _).mono ?_;rintro e z ⟨rfl,rfl⟩))
 go_ret
 exact⟨z6 HV.o.symm,rfl⟩
theorem zbF (k n:Int) (f:Nat) (s:ByteArray) (vn vi:Value) (hf:f < 2 ^ 64) (w:World):Calls Tryz.prog 62 #[.agg ⟨[.int .i64 k,.int .i64 n,.float .f64 f,.string s,vn,vi]⟩] w fun e w'=>e= .returned (.bool (cmpF f 0 ==0))/\Below w.heap.size w w':=by
 have HC:=I (fun w=>z5t f hf w)
 have HB1:=I (zc w (.cells ⟨[.int .i64 k,.int .i64 n,.float .f64 f,.string s,vn,vi]⟩ 27))
 clear hf
 go_enter Tryz.func62,Tryz.ntmps62
 go_wp2_with (go_at_call 99;refine(HC.o _).mono ?_;rintro e z ⟨rfl,rfl⟩)
 go_ret
 exact⟨rfl,HB1.o⟩
end
section
open Go Go.RowKit
def Kept (p:Nat->Prop) (w:World) (cs:List Value) (t:VT):Prop:=ValAt (only w p) w.heap.size cs t
theorem Kept.val {p:Nat->Prop} {w:World} {cs:List Value} {t:VT} (h:Kept p w cs t):ValAt w w.heap.size cs t:=ValAt.cells h fun a v hv=>(zy.1 hv).2
theorem Kept.to {p q:Nat->Prop} {w w':World} {cs:List Value} {t:VT} (h:Kept p w cs t) (hb:∀ b,p b->b < w.heap.size->q b/\w'.heap[b]?= w.heap[b]?) (hs:w.heap.size<=w'.heap.size):Kept q w' cs t:=
 (ValAt.cells h (z2X hb)).more hs
abbrev zq:= {ks:List Value // ks.length= 6}
def enc6 (k:zq):List Value:=k.1
theorem zX (k:zq):(enc6 k).length= 6:=k.2
structure CanInv (TV:TypeId) (W u:World) (v:Value) (l:List VT) (i:Nat) (KL:List zq):Prop where
 own:OwnSl TV 6 enc6 u W.heap.size v KL
 len:KL.length= i
 bel:Below W.heap.size W u
 els:∀ (j:Nat) k x,KL[j]?= some k->l[j]?= some x->Kept (fun b=>W.heap.size<=b/\some b≠v.ownBlock) u k.1 (z01 x)
theorem CanInv.start (TV:TypeId) (W:World) (l:List VT):CanInv TV W W (.slice none 0 0) l 0 []:=⟨OwnSl.nil _ _,rfl,Below.refl _ _,fun j k x hk _=>by cases hk⟩
theorem CanInv.next {TV:TypeId} {W u u5 u6 u7 u8:World} {v v':Value} {l:List VT} {i:Nat} {KL:List zq} (h:CanInv TV W u v l i KL) (h5:Below u.heap.size u u5) (h6:Below u5.heap.size u5 u6) (h7:Below u6.heap.size u6 u7) {k:zq} {x:VT} (hx:l[i]?= some x)
  (hk:Kept (fun b=>u5.heap.size<=b) u6 k.1 (z01 x)) (hown:OwnSl TV 6 enc6 u8 W.heap.size v' (KL ++ [k])) (hg:u7.grownBy u8 v.ownBlock) (hb:v'.ownBlock= v.ownBlock\/v'.ownBlock= some u7.heap.size):
  CanInv TV W u8 v' l (i+1) (KL ++ [k]):=by
 have h57:=h5.trans ((h6.trans (h7.mono h6.size)).mono h5.size)
 have hblk:∀ b,b < u.heap.size->some b≠v.ownBlock->some b≠v'.ownBlock/\u8.heap[b]?= u.heap[b]?:=fun b hlt hne=>by
  have e1:=h57.block b hlt
  have e2:=hg.block b (Nat.lt_of_lt_of_le hlt h57.size) hne
  refine⟨?_,e2.trans e1⟩
  rcases hb with hb|hb
  ·rw[hb];exact hne
  ·rw[hb]
   intro e
   injection e with e
   have:=h57.size
   omega
 have hnew:∀ b,u5.heap.size<=b->b < u6.heap.size->some b≠v'.ownBlock/\u8.heap[b]?= u6.heap[b]?:=fun b hge hlt=>by
  have hne:some b≠v.ownBlock:=fun e=>by
   have:=z0I h.own e.symm
   have:=h5.size
   omega
  have e1:=h7.block b hlt
  have e2:=hg.block b (Nat.lt_of_lt_of_le hlt h7.size) hne
  refine⟨?_,e2.trans e1⟩
  rcases hb with hb|hb
  ·rw[hb];exact hne
  ·rw[hb]
   intro e
   injection e with e
   have:=h7.size
   omega
 have hbase:=h.bel.size
 refine⟨hown,by rw[List.length_append,h.len];rfl,?_,fun j k' y hk' hy=> ?_⟩
 ·refine⟨hg.os.trans (h57.os.trans h.bel.os),hg.tape.trans (h57.tape.trans h.bel.tape),hg.output.trans (h57.output.trans h.bel.output),?_,fun b hlt=> ?_⟩
  ·have:=hg.size
   have:=h57.size
   omega
  ·have hne:some b≠v.ownBlock:=fun e=>by
    have:=h.own.block e.symm
    omega
   exact(hblk b (by omega) hne).2.trans (h.bel.block b hlt)
 ·rcases Nat.lt_or_ge j KL.length with hj|hj
  ·rw[List.getElem?_append_left hj] at hk'
   refine(h.els j k' y hk' hy).to (fun b hp hlt=>⟨⟨hp.1,(hblk b hlt hp.2).1⟩,(hblk b hlt hp.2).2⟩) ?_
   have:=hg.size
   have:=h57.size
   omega
  ·rw[List.getElem?_append_right hj] at hk'
   have hj2:j= KL.length:=by
    have:=(List.getElem?_eq_some_iff.1 hk').1
    simp only[List.length_singleton] at this
    omega
   rw[hj2,Nat.sub_self] at hk'
   injection hk' with hk'
   subst hk'
   have e:y= x:=by
    rw[hj2,h.len,hx] at hy
    injection hy with hy
    exact hy.symm
   subst e
   refine hk.to (fun b hp hlt=>⟨⟨?_,(hnew b hp hlt).1⟩,(hnew b hp hlt).2⟩) ?_
   ·have:=h5.size
    omega
   ·have:=hg.size
    have:=h7.size
    omega
theorem CanInv.row {TV:TypeId} {W u u':World} {v:Value} {l:List VT} {KL:List zq} {B:Nat} (h:CanInv TV W u v l l.length KL) (hl:l.length<=maxLen) (hB:B<=W.heap.size) (hk:∀ b,W.heap.size<=b->b < u.heap.size->u'.heap[b]?= u.heap[b]?) (hs:u.heap.size<=u'.heap.size):
  SlAt (only u' (fun b=>B<=b)) u'.heap.size 6 (ValAt (only u' (fun b=>B<=b)) u'.heap.size) v (z0r l):=by
 have hlen:(z0r l).length= l.length:=z3E l
 refine⟨by rw[hlen];exact Nat.le_trans hl z08,?_⟩
 rcases h.own.2 with ⟨rfl,h0⟩|⟨g,cap,cur,hv,hg,_,_⟩
 ·rw[h.len] at h0
  exact⟨none,0,by rw[hlen,h0],fun h1=>by omega⟩
 ·refine⟨some ⟨g,0,none⟩,cap,by rw[hv,hlen,h.len],fun _=> ?_⟩
  have hown:v.ownBlock= some g:=by rw[hv];rfl
  have hlt:=z0I h.own hown
  refine⟨g,0,rfl,by omega,fun i x hx=> ?_⟩
  rw[z3J,List.getElem?_map,Option.map_eq_some_iff] at hx
  obtain⟨y,hy,rfl⟩:=hx
  have hi:=(List.getElem?_eq_some_iff.1 hy).1
  have hki:KL[i]?= some (KL[i]'(by rw[h.len];exact hi)):=List.getElem?_eq_getElem _
  refine⟨_,(KL[i]'(by rw[h.len];exact hi)).2,fun j c hc=> ?_,?_⟩
  ·refine zy.2 ⟨?_,?_⟩
   ·show B<=g
    omega
   ·refine(World.cell?_of_block (a:=⟨g,_,none⟩) (hk g hg hlt)).trans ?_
    have:=World.ownsRow.cells h.own hown (i*6+j) c (z0y zX KL i _ hki j c hc)
    rw[Addr.add_mid] at this
    rw[show 0+i*6+j= 0+ (i*6+j) by omega];exact this
  ·exact(h.els i _ y hki hy).to (fun b hp hb=>⟨Nat.le_trans hB hp.1,hk b hp.1 hb⟩) hs
end
section
open Go Go.RowKit
structure RowInv (TV:TypeId) (W u:World) (v:Value) (vs:List VT) (KL:List zq):Prop where
 own:OwnSl TV 6 enc6 u W.heap.size v KL
 len:KL.length= vs.length
 bel:Below W.heap.size W u
 els:∀ (j:Nat) k x,KL[j]?= some k->vs[j]?= some x->Kept (fun b=>W.heap.size<=b/\some b≠v.ownBlock) u k.1 x
theorem RowInv.start (TV:TypeId) (W:World):RowInv TV W W (.slice none 0 0) [] []:=⟨OwnSl.nil _ _,rfl,Below.refl _ _,fun j k x hk _=>by cases hk⟩
theorem RowInv.next {TV:TypeId} {W u u5 u6 u7 u8:World} {v v':Value} {vs:List VT} {KL:List zq} (h:RowInv TV W u v vs KL) (h5:Below u.heap.size u u5) (h6:Below u5.heap.size u5 u6) (h7:Below u6.heap.size u6 u7) {k:zq} {x:VT}
  (hk:Kept (fun b=>u5.heap.size<=b) u6 k.1 x) (hown:OwnSl TV 6 enc6 u8 W.heap.size v' (KL ++ [k])) (hg:u7.grownBy u8 v.ownBlock) (hb:v'.ownBlock= v.ownBlock\/v'.ownBlock= some u7.heap.size):
  RowInv TV W u8 v' (vs ++ [x]) (KL ++ [k]):=by
 have h57:=h5.trans ((h6.trans (h7.mono h6.size)).mono h5.size)
 have hblk:∀ b,b < u.heap.size->some b≠v.ownBlock->some b≠v'.ownBlock/\u8.heap[b]?= u.heap[b]?:=fun b hlt hne=>by
  have e1:=h57.block b hlt
  have e2:=hg.block b (Nat.lt_of_lt_of_le hlt h57.size) hne
  refine⟨?_,e2.trans e1⟩
  rcases hb with hb|hb
  ·rw[hb];exact hne
  ·rw[hb]
   intro e
   injection e with e
   have:=h57.size
   omega
 have hnew:∀ b,u5.heap.size<=b->b < u6.heap.size->some b≠v'.ownBlock/\u8.heap[b]?= u6.heap[b]?:=fun b hge hlt=>by
  have hne:some b≠v.ownBlock:=fun e=>by
   have:=z0I h.own e.symm
   have:=h5.size
   omega
  have e1:=h7.block b hlt
  have e2:=hg.block b (Nat.lt_of_lt_of_le hlt h7.size) hne
  refine⟨?_,e2.trans e1⟩
  rcases hb with hb|hb
  ·rw[hb];exact hne
  ·rw[hb]
   intro e
   injection e with e
   have:=h7.size
   omega
 have hbase:=h.bel.size
 refine⟨hown,by rw[List.length_append,List.length_append,h.len];rfl,?_,fun j k' y hk' hy=> ?_⟩
 ·refine⟨hg.os.trans (h57.os.trans h.bel.os),hg.tape.trans (h57.tape.trans h.bel.tape),hg.output.trans (h57.output.trans h.bel.output),?_,fun b hlt=> ?_⟩
  ·have:=hg.size
   have:=h57.size
   omega
  ·have hne:some b≠v.ownBlock:=fun e=>by
    have:=h.own.block e.symm
    omega
   exact(hblk b (by omega) hne).2.trans (h.bel.block b hlt)
 ·rcases Nat.lt_or_ge j KL.length with hj|hj
  ·rw[List.getElem?_append_left hj] at hk'
   rw[List.getElem?_append_left (by rw[← h.len];exact hj)] at hy
   refine(h.els j k' y hk' hy).to (fun b hp hlt=>⟨⟨hp.1,(hblk b hlt hp.2).1⟩,(hblk b hlt hp.2).2⟩) ?_
   have:=hg.size
   have:=h57.size
   omega
  ·rw[List.getElem?_append_right hj] at hk'
   have hj2:j= KL.length:=by
    have:=(List.getElem?_eq_some_iff.1 hk').1
    simp only[List.length_singleton] at this
    omega
   rw[hj2,Nat.sub_self] at hk'
   injection hk' with hk'
   subst hk'
   have e:y= x:=by
    rw[hj2,h.len,List.getElem?_append_right (Nat.le_refl _),Nat.sub_self] at hy
    injection hy with hy
    exact hy.symm
   subst e
   refine hk.to (fun b hp hlt=>⟨⟨?_,(hnew b hp hlt).1⟩,(hnew b hp hlt).2⟩) ?_
   ·have:=h5.size
    omega
   ·have:=hg.size
    have:=h7.size
    omega
theorem RowInv.row {TV:TypeId} {W u u':World} {v:Value} {vs:List VT} {KL:List zq} {B:Nat} (h:RowInv TV W u v vs KL) (hl:vs.length<=maxLen) (hB:B<=W.heap.size) (hk:∀ b,W.heap.size<=b->b < u.heap.size->u'.heap[b]?= u.heap[b]?) (hs:u.heap.size<=u'.heap.size):
  SlAt (only u' (fun b=>B<=b)) u'.heap.size 6 (ValAt (only u' (fun b=>B<=b)) u'.heap.size) v vs:=by
 refine⟨Nat.le_trans hl z08,?_⟩
 rcases h.own.2 with ⟨rfl,h0⟩|⟨g,cap,cur,hv,hg,_,_⟩
 ·rw[h.len] at h0
  exact⟨none,0,by rw[← h0],fun h1=>by omega⟩
 ·refine⟨some ⟨g,0,none⟩,cap,by rw[hv,h.len],fun _=> ?_⟩
  have hown:v.ownBlock= some g:=by rw[hv];rfl
  have hlt:=z0I h.own hown
  refine⟨g,0,rfl,by omega,fun i x hx=> ?_⟩
  have hi:=(List.getElem?_eq_some_iff.1 hx).1
  have hki:KL[i]?= some (KL[i]'(by rw[h.len];exact hi)):=List.getElem?_eq_getElem _
  refine⟨_,(KL[i]'(by rw[h.len];exact hi)).2,fun j c hc=> ?_,?_⟩
  ·refine zy.2 ⟨?_,?_⟩
   ·show B<=g
    omega
   ·refine(World.cell?_of_block (a:=⟨g,_,none⟩) (hk g hg hlt)).trans ?_
    have:=World.ownsRow.cells h.own hown (i*6+j) c (z0y zX KL i _ hki j c hc)
    rw[Addr.add_mid] at this
    rw[show 0+i*6+j= 0+ (i*6+j) by omega];exact this
  ·exact(h.els i _ x hki hx).to (fun b hp hb=>⟨Nat.le_trans hB hp.1,hk b hp.1 hb⟩) hs
end
section
open Go Go.RowKit
structure RowC (TV:TypeId) (B:Nat) (u:World) (v:Value) (vs:List VT) (KL:List zq):Prop where
 own:OwnSl TV 6 enc6 u B v KL
 len:KL.length= vs.length
 sz:B<=u.heap.size
 els:∀ (j:Nat) k x,KL[j]?= some k->vs[j]?= some x->Kept (fun b=>B<=b/\some b≠v.ownBlock) u k.1 x
theorem RowC.start (TV:TypeId) {B:Nat} {u:World} (h:B<=u.heap.size):RowC TV B u (.slice none 0 0) [] []:=⟨OwnSl.nil _ _,rfl,h,fun j k x hk _=>by cases hk⟩
theorem RowC.next {TV:TypeId} {B:Nat} {u u6 u7 u8:World} {v v':Value} {vs:List VT} {KL:List zq} (h:RowC TV B u v vs KL) (h6:Below u.heap.size u u6) (h7:Below u6.heap.size u6 u7) {k:zq} {x:VT}
  (hk:Kept (fun b=>u.heap.size<=b) u6 k.1 x) (hown:OwnSl TV 6 enc6 u8 B v' (KL ++ [k])) (hg:u7.grownBy u8 v.ownBlock) (hb:v'.ownBlock= v.ownBlock\/v'.ownBlock= some u7.heap.size):
  RowC TV B u8 v' (vs ++ [x]) (KL ++ [k]):=by
 have h57:=h6.trans (h7.mono h6.size)
 have hsz:=h.sz
 have hblk:∀ b,b < u.heap.size->some b≠v.ownBlock->some b≠v'.ownBlock/\u8.heap[b]?= u.heap[b]?:=fun b hlt hne=>by
  have e1:=h57.block b hlt
  have e2:=hg.block b (Nat.lt_of_lt_of_le hlt h57.size) hne
  refine⟨?_,e2.trans e1⟩
  rcases hb with hb|hb
  ·rw[hb];exact hne
  ·rw[hb]
   intro e
   injection e with e
   have:=h57.size
   omega
 have hnew:∀ b,u.heap.size<=b->b < u6.heap.size->some b≠v'.ownBlock/\u8.heap[b]?= u6.heap[b]?:=fun b hge hlt=>by
  have hne:some b≠v.ownBlock:=fun e=>by
   have:=z0I h.own e.symm
   omega
  have e1:=h7.block b hlt
  have e2:=hg.block b (Nat.lt_of_lt_of_le hlt h7.size) hne
  refine⟨?_,e2.trans e1⟩
  rcases hb with hb|hb
  ·rw[hb];exact hne
  ·rw[hb]
   intro e
   injection e with e
   have:=h7.size
   omega
 refine⟨hown,by rw[List.length_append,List.length_append,h.len];rfl,?_,fun j k' y hk' hy=> ?_⟩
 ·have:=hg.size
  have:=h57.size
  omega
 ·rcases Nat.lt_or_ge j KL.length with hj|hj
  ·rw[List.getElem?_append_left hj] at hk'
   rw[List.getElem?_append_left (by rw[← h.len];exact hj)] at hy
   refine(h.els j k' y hk' hy).to (fun b hp hlt=>⟨⟨hp.1,(hblk b hlt hp.2).1⟩,(hblk b hlt hp.2).2⟩) ?_
   have:=hg.size
   have:=h57.size
   omega
  ·rw[List.getElem?_append_right hj] at hk'
   have hj2:j= KL.length:=by
    have:=(List.getElem?_eq_some_iff.1 hk').1
    simp only[List.length_singleton] at this
    omega
   rw[hj2,Nat.sub_self] at hk'
   injection hk' with hk'
   subst hk'
   have e:y= x:=by
    rw[hj2,h.len,List.getElem?_append_right (Nat.le_refl _),Nat.sub_self] at hy
    injection hy with hy
    exact hy.symm
   subst e
   refine hk.to (fun b hp hlt=>⟨⟨by omega,(hnew b hp hlt).1⟩,(hnew b hp hlt).2⟩) ?_
   have:=hg.size
   have:=h7.size
   omega
theorem RowC.store {TV:TypeId} {B p:Nat} {u u':World} {v:Value} {vs:List VT} {KL:List zq} (h:RowC TV B u v vs KL) (hb:But u u' p p) (hp:p < B):RowC TV B u' v vs KL:=by
 refine⟨World.ownsRow.kept h.own (row:=some p) ⟨hb.os,hb.tape,hb.output,hb.size,fun i hi hne=>hb.block i hi (fun e=>hne (by rw[e])) (fun e=>hne (by rw[e]))⟩ ?_,h.len,Nat.le_trans h.sz hb.size,fun j k x hk hx=> ?_⟩
 ·exact .inr fun e=>by have:=h.own.block e;omega
 ·exact(h.els j k x hk hx).to (fun b hq _=>⟨hq,hb.block b ‹_› (by omega) (by omega)⟩) hb.size
theorem RowC.row {TV:TypeId} {B C:Nat} {u u':World} {v:Value} {vs:List VT} {KL:List zq} (h:RowC TV B u v vs KL) (hl:vs.length<=maxLen) (hB:C<=B) (hk:∀ b,B<=b->b < u.heap.size->u'.heap[b]?= u.heap[b]?) (hs:u.heap.size<=u'.heap.size):
  SlAt (only u' (fun b=>C<=b)) u'.heap.size 6 (ValAt (only u' (fun b=>C<=b)) u'.heap.size) v vs:=by
 refine⟨Nat.le_trans hl z08,?_⟩
 rcases h.own.2 with ⟨rfl,h0⟩|⟨g,cap,cur,hv,hg,_,_⟩
 ·rw[h.len] at h0
  exact⟨none,0,by rw[← h0],fun h1=>by omega⟩
 ·refine⟨some ⟨g,0,none⟩,cap,by rw[hv,h.len],fun _=> ?_⟩
  have hown:v.ownBlock= some g:=by rw[hv];rfl
  have hlt:=z0I h.own hown
  refine⟨g,0,rfl,by omega,fun i x hx=> ?_⟩
  have hi:=(List.getElem?_eq_some_iff.1 hx).1
  have hki:KL[i]?= some (KL[i]'(by rw[h.len];exact hi)):=List.getElem?_eq_getElem _
  refine⟨_,(KL[i]'(by rw[h.len];exact hi)).2,fun j c hc=> ?_,?_⟩
  ·refine zy.2 ⟨?_,?_⟩
   ·show C<=g
    omega
   ·refine(World.cell?_of_block (a:=⟨g,_,none⟩) (hk g hg hlt)).trans ?_
    have:=World.ownsRow.cells h.own hown (i*6+j) c (z0y zX KL i _ hki j c hc)
    rw[Addr.add_mid] at this
    rw[show 0+i*6+j= 0+ (i*6+j) by omega];exact this
  ·exact(h.els i _ x hki hx).to (fun b hp hb=>⟨Nat.le_trans hB hp.1,hk b hp.1 hb⟩) hs
section
variable {P:Program} {ops:Array Oper} {S:World->Prop} {Q:Exit->Act->World->Prop} {i:Nat} {r:List (Nat × Bool)} {a:Act} {w:World} {o:Oper}
theorem z8M (t:TypeId) (x:Operand) (ho:o.op= .buildSlice t 1 #[(0,x)]) (e:TypeId) (i:TypeInfo) (z:Value) (ks:List Value) (hx:a.eval x= .agg ks.toArray)
  (ht:P.underlying t= some (.slice e)) (hi:P.info? e= some i) (hz:i.zero= some z) (hsz:i.size= ks.length) (h0:0 < ks.length) (hmax:ks.length<=1000):
  (execOp a.eval o).run P w= .ok (.value (.slice (some ⟨w.heap.size,0,none⟩) 1 1)) (w.alloc (.cells ⟨ks⟩ e)):=by
 unfold execOp
 have hr:=z5D (P:=P) w t e i z ks ht hi hz hsz h0 hmax
 simp only[ho,List.map_toArray,List.map_cons,List.map_nil,hx,Sem.run_bind,Sem.run_pure,Result.andThen_ok,hr]
theorem zcR {α:Type} (d:Option Tmp) (o:Oper) (s x:Operand) (t:TypeId) (hi0:ops[i]?= some o) (ho:o.op= .call { callee:= .builtin .append,args:= #[s,x],argTypes:= #[t,t] }) (hd:o.dst= d) (hw:Region.wanted o (yielded ops a.tmps)= true)
  (base:Nat) (e:TypeId) (i':TypeInfo) (z:Value) (k bytes:Nat) (enc:α->List Value) (ht:P.underlying t= some (.slice e)) (hi:P.info? e= some i') (hz:i'.zero= some z)
  (hsize:i'.size= k) (hby:i'.bytes= bytes) (hzs:z.cells.size= k) (hsz:0 < k) (hk:∀ x,(enc x).length= k)
  (v:Value) (l:List α) (hs:a.eval s= v) (hown:OwnSl e k enc w base v l) (nb c:Nat) (y:α) (h1:∀ u∈enc y,u.oneCell'= true) (hx:a.eval x= .slice (some ⟨nb,0,none⟩) 1 c)
  (hc:∀ j u,(enc y)[j]?= some u->w.cell? ⟨nb,j,none⟩= some u) (h63:l.length+1<=maxLen) (hbytes:(l.length+1) *bytes<=140737488355328) (hbase:base<=w.heap.size)
  (h:∀ v' w',OwnSl e k enc w' base v' (l ++ [y])->w.grownBy w' v.ownBlock->(v'.ownBlock= v.ownBlock\/v'.ownBlock= some w.heap.size)->S w'/\wpOrd P ops S Q r (a.put d v') w'):wpOrd P ops S Q ((i,false)::r) a w:=by
 obtain⟨v',w',hrun,k2,k3,_,k5⟩:=run_append_own_at (P:=P) w base t o.type e i' z k bytes ht hi hz hsize hby hzs hsz v l.length (flat enc l) hown ⟨nb,0,none⟩ 1 c (enc y) (by rw[hk];omega)
  (fun j u hu=>by rw[Addr.add_mid,Nat.zero_add];exact hc j u hu) h1 h63 hbytes hbase
 have H:=h v' w' (by unfold OwnSl;rw[z1k,List.length_append];exact k2) k3 k5
 refine z1y d v' w' o hi0 hd hw ?_ H.1 H.2
 unfold execOp
 simp only[ho,resolve,invoke,builtin,Sem.run_bind,Sem.run_pure,Result.andThen_ok,List.map_toArray,List.map_cons,List.map_nil,hs,hx,hrun]
end
end
section
open Go Go.RowKit
theorem ExpAt.cellsB {w w':World} {B:Nat} {cs:List Value} {t:ET} (h:ExpAt w B cs t) (hc:∀ a v,a.block < B->w.cell? a= some v->w'.cell? a= some v):ExpAt w' B cs t:=by
 induction h with
 |mk b o css hk hs hv hns hl hA hc2 hi ih=>
  exact .mk b o css hk hs (hv.cellsB hc) (hns.cellsB hc fun _ _ _ h=>h) hl hA (fun i h=>⟨(hc2 i h).1,fun j u hu=>hc _ _ (hA (by omega)).2 ((hc2 i h).2 j u hu)⟩) ih
theorem zbz {w W u u':World} {B m:Nat} {k:Int} {s:ByteArray} {v:VT} {ns:List ByteArray} {l:List ET} {v0 v1 v2 v3 v4 v5 vn vi:Value} {KL:List C10} (hk:wfI k) (hs:s.size<=maxLen) (hvv:ValAt w B [v0,v1,v2,v3,v4,v5] v) (hl:l.length<=maxLen) (hB:B<=w.heap.size)
  (hm:m<=W.heap.size) (hns:SlAt w B 1 StrR vn ns) (hI:OwnE 30 B W u vi l l.length KL) (hbel:Below w.heap.size w u')
  (hu:∀ b,b < u.heap.size->b < B\/m<=b->u'.heap[b]?= u.heap[b]?) (hsz:u.heap.size<=u'.heap.size) (hwm:w.heap.size<=m):
  KeptX (fun b=>b < B\/w.heap.size<=b) u' [.int .i64 k,.string s,v0,v1,v2,v3,v4,v5,vn,vi] (.mk k s v ns l):=by
 have h3:=hI.bel
 have h4:=h3.size
 refine ExpAt.of hk hs ?_ ((hns.cellsB (fun a v ha hv=>zy.2 ⟨.inl ha,(hbel.cell (by omega)).trans hv⟩) fun _ _ _ h=>h).more (Nat.le_trans hB hbel.size)) hl (hI.row hl (by omega) (fun b hp hb=>hu b hb (hp.imp id (by omega))) hsz)
 refine(ValAt.cellsB hvv fun a v ha hv=>zy.2 ⟨.inl ha,?_⟩).more (Nat.le_trans hB hbel.size)
 exact(hbel.cell (by omega)).trans hv
theorem z8z (nm:ByteArray) (ty:ET) (hfy:FitE ty):∀ (t:ET) (B:Nat) (cs ca:List Value) (w:World),FitE t->B<=w.heap.size->ExpAt w B cs t->ExpAt w B ca ty->
  Calls Tryz.prog 17 #[.agg ⟨cs⟩,.string nm,.agg ⟨ca⟩] w (z2h B (replE nm ty t) w):=by
 have HFY:=I hfy
 clear hfy
 intro t
 induction t using ET.ind with
 |h k s v ns its ih=>
  intro B cs ca w hfit hB hv hy
  obtain⟨v0,v1,v2,v3,v4,v5,vn0,vi0,rfl,hk,hs,hvv,hns,hil,hi⟩:=hv.inv
  obtain⟨hft1,hft2,hft3⟩:=hfit.inv
  obtain⟨-,A,c,rfl,hA⟩:=hi
  obtain⟨-,NA,nc,rfl, -⟩:=id hns
  have HA:=I hA
  have HNB:=I hns
  have HW:=I (And.intro hk (And.intro hs (And.intro hvv hil)))
  have HFN:=I hft1
  have HBW:=I hB
  have HYA:=I hy
  have HCA:=I (eslen hy)
  have IH:Hid (∀ x∈its,∀ cs ca w,B<=w.heap.size->ExpAt w B cs x->ExpAt w B ca ty->Calls Tryz.prog 17 #[.agg ⟨cs⟩,.string nm,.agg ⟨ca⟩] w (z2h B (replE nm ty x) w)):=I fun x hx cs ca w h1 h h2=>ih x hx B cs ca w (hft3 x hx) h1 h h2
  have HB88:Hid (its.length*160<=140737488351232):=I hft2
  have HLN:Hid (its.length<=9223372036854775807):=I (Nat.le_trans hil z08)
  have HONV:Hid (∀ u∈[v0,v1,v2,v3,v4,v5],u.oneCell'= true):=I hvv.one
  obtain⟨R,hR⟩:∃ R,replE nm ty (.mk k s v ns its)= R:=⟨_,rfl⟩
  have HR0:Hid (R= if k= 2/\(s.toList ==nm.toList)= true then ty else .mk k s v ns (z02 nm ty its)):=I (by rw[← hR,replE])
  rw[hR]
  clear hA hv ih hfit hft1 hft2 hft3 hns hk hs hil hvv hB hy hR
  go_enter Tryz.func17,Tryz.ntmps17
  go_upto_region 1 with (fail)
  have HST:=I (z4i w [.int .i64 k,.string s,v0,v1,v2,v3,v4,v5,.slice NA ns.length nc,.slice A its.length c] ca [.int .i64 0,.string ⟨#[]⟩,.int .i64 0,.int .i64 0,.float .f64 0,.string ⟨#[]⟩,.slice none 0 0,.slice none 0 0,.slice none 0 0,.slice none 0 0] rfl)
  generalize (((w.alloc (.cells ⟨[.int .i64 k,.string s,v0,v1,v2,v3,v4,v5,.slice NA ns.length nc,.slice A its.length c]⟩ 30)).alloc (.cells ⟨ca⟩ 30)).alloc (.cells ⟨[.int .i64 0,.string ⟨#[]⟩,.int .i64 0,.int .i64 0,.float .f64 0,.string ⟨#[]⟩,.slice none 0 0,.slice none 0 0,.slice none 0 0,.slice none 0 0]⟩ 30))= W at*
  have HM:Hid (w.heap.size<=w.heap.size+3):=I (by omega)
  have HPM:Hid (w.heap.size+1 < w.heap.size+3/\w.heap.size+1≠w.heap.size):=I (by omega)
  obtain⟨m,hm⟩:∃ m,w.heap.size+3= m:=⟨_,rfl⟩
  obtain⟨q,hq⟩:∃ q,w.heap.size+1+1= q:=⟨_,rfl⟩
  obtain⟨p2,hp2⟩:∃ q,w.heap.size+1= q:=⟨_,rfl⟩
  obtain⟨p,hp⟩:∃ p,w.heap.size= p:=⟨_,rfl⟩
  rw[hm,hq,hp2] at HST
  rw[hm] at HM
  rw[hm,hp2] at HPM
  have HST':Hid (TwoB w W p q m [.int .i64 k,.string s,v0,v1,v2,v3,v4,v5,.slice NA ns.length nc,.slice A its.length c]):=I (hp▸HST.o.1)
  have HWY:Hid (Whole 30 W p2 ca):=I HST.o.2
  have HP2:Hid (p2 < m/\p2≠p):=I ⟨HPM.o.1,hp▸HPM.o.2⟩
  rw[hq,hp2,hp]
  clear HST hq hm hp hp2 HPM
  have d0:W.cell? ⟨p,0,none⟩= some (.int .i64 k):=HST'.o.wa.at 0 rfl
  have d1:W.cell? ⟨p,1,none⟩= some (.string s):=HST'.o.wa.at 1 rfl
  obtain⟨bm,hbm⟩:∃ b,(decide (k= 2) && (s.toList ==nm.toList))= b:=⟨_,rfl⟩
  have HBM:=I hbm
  clear hbm
  go_cut [17] (fun v z=>v= .bool bm/\z= W)
  case first=>
   by_cases hk2:k= 2
   ·subst hk2
    have HV:Hid (bm=(s.toList ==nm.toList)):=I (by rw[← HBM.o];rfl)
    go_wp2
    go_meet
    case rel=>exact⟨by rw[HV.o],rfl⟩
   ·have hk2b:(k ==2)= false:=by simpa using hk2
    have HV:Hid (bm= false):=I (by rw[← HBM.o,decide_eq_false hk2];rfl)
    clear hk2
    go_wp2
    go_meet
    case rel=>exact⟨by rw[HV.o],rfl⟩
  case rest=>
  obtain⟨rfl,rfl⟩:=hcut
  clear d0 d1
  have HMW:Hid (m<=wc.heap.size):=I HST'.o.mw
  have HPP:Hid (q < m/\w.heap.size<=q):=I ⟨HST'.o.qm,HST'.o.wq⟩
  cases bm with
  |true=>
   have HRT:Hid (R= ty):=I (by have h:=HBM.o;rw[Bool.and_eq_true] at h;rw[HR0.o,if_pos ⟨of_decide_eq_true h.1,h.2⟩])
   have HRY:=I HWY.o.range
   have HST6:=HST'
   have HON:Hid (∀ v∈ca,v.oneCell'= true):=I HYA.o.one
   obtain⟨z0,hz0,hz1⟩:=HST6.o.wb
   have HZ0:=I (And.intro hz0 hz1)
   clear hz0 hz1
   go_wp2_with (first|((with_reducible refine z7 30 _ rfl ?_ (p2) (0) (ca) _ rfl HRY.o Tryz.underlying30 rfl ?_ ?_);(exact wA rfl);rw[HCA.o];kernel_rfl)|((with_reducible refine zd 30 _ _ rfl rfl ?_ (q) (z0) (ca) HZ0.o.2 ?_ ?_ ?_ ?_ ?_ ?_);(exact wA rfl);rw[HZ0.o.1,HCA.o];rfl;rfl;rw[HCA.o];kernel_rfl;exact HON.o;intro Z hz hb;have HZW:=I hz;have HZB:=I hb;clear hz hb))
   (try simp only[Exit.inBlock,Exit.then])
   refine bodyPost_ret (zH rfl _ _ q ca HCA.o rfl HZW.o) rfl ?_
   have hbel:Below w.heap.size w Z:=⟨HZB.o.os.trans HST6.o.bel.os,HZB.o.tape.trans HST6.o.bel.tape,HZB.o.output.trans HST6.o.bel.output,Nat.le_trans HST6.o.bel.size HZB.o.size,fun b hb=>(HZB.o.block b (by have:=HST6.o.bel.size;omega) (by have:=HST6.o.wq;omega) (by have:=HST6.o.wq;omega)).trans (HST6.o.bel.block b hb)⟩
   refine⟨_,rfl,?_,hbel⟩
   rw[HRT.o]
   exact(HYA.o.cellsB fun a v ha hv=>zy.2 ⟨.inl ha,(hbel.cell (Nat.lt_of_lt_of_le ha HBW.o)).trans hv⟩).more (Nat.le_trans HBW.o hbel.size)
  |false=>
  have HRT:Hid (R= .mk k s v ns (z02 nm ty its)):=I (by have h:=HBM.o;rw[HR0.o,if_neg];rintro⟨h1,h2⟩;rw[decide_eq_true h1,h2] at h;cases h)
  have HB3:Hid (B<=wc.heap.size):=I (Nat.le_trans HBW.o HST'.o.bel.size)
  go_wp2
  go_loopg [7,8] its.length (fun g v i u=>∃ (j:Nat) (KL:List C10),j+g= its.length/\i= .int .i64 j/\OwnE 30 B wc u v (z02 nm ty its) j KL)
  case atStart=>exact⟨0,[],by omega,rfl,OwnE.start _ _ _ HB3.o⟩
  case round=>
   obtain⟨j,KL,hj,rfl,hI⟩:=hrel
   have HI:=I hI
   clear hI
   obtain⟨UA,uc,rfl⟩:=z4c HI.o.own
   have HST5:=I (HST'.o.below HI.o.bel)
   have d9:wr.cell? ⟨p,9,none⟩= some (.slice A its.length c):=HST5.o.wa.at 9 rfl
   cases gk with
   |zero=>
    have hge: ¬ ((j:Int) <(its.length:Int)):=by omega
    obtain rfl:j= its.length:=by omega
    have f9:wr.frozen? ⟨p,9,none⟩= false:=HST5.o.wa.fz 9
    go_upto_region 9 with (fail)
    have HST6:Hid (TwoB w (wr.setCell ⟨p,9,none⟩ (.slice UA KL.length uc)) p q m [.int .i64 k,.string s,v0,v1,v2,v3,v4,v5,.slice NA ns.length nc,.slice UA KL.length uc]):=I (HST5.o.put 9 (.slice UA KL.length uc))
    have HP:Hid (∀ b,b < B\/m<=b->(wr.setCell ⟨p,9,none⟩ (.slice UA KL.length uc)).heap[b]?= wr.heap[b]?):=I fun b hb=>z1h wr p 9 b _ (by
     have:=HST5.o.pm
     have:=HST5.o.wp
     have:=HBW.o
     show b≠p
     omega)
    have HPS:Hid ((wr.setCell ⟨p,9,none⟩ (.slice UA KL.length uc)).heap.size= wr.heap.size):=I (by rw[z0P])
    clear d9 f9
    generalize wr.setCell ⟨p,9,none⟩ (.slice UA KL.length uc)= W9 at*
    have HR9:Hid (W9.rangeAt p 0 [.int .i64 k,.string s,v0,v1,v2,v3,v4,v5,.slice NA ns.length nc,.slice UA KL.length uc]):=I HST6.o.wa.range
    obtain⟨z0,hz0,hz1⟩:=HST6.o.wb
    have HZ0:=I (And.intro hz0 hz1)
    have HON:Hid (∀ v∈[.int .i64 k,.string s,v0,v1,v2,v3,v4,v5,.slice NA ns.length nc,.slice UA KL.length uc],v.oneCell'= true):=I (by
     intro u hu
     simp only[List.mem_cons,List.not_mem_nil,or_false] at hu
     rcases hu with rfl|rfl|h|h|h|h|h|h|rfl|rfl
     ·rfl
     ·rfl
     ·exact HONV.o u (by rw[h];simp)
     ·exact HONV.o u (by rw[h];simp)
     ·exact HONV.o u (by rw[h];simp)
     ·exact HONV.o u (by rw[h];simp)
     ·exact HONV.o u (by rw[h];simp)
     ·exact HONV.o u (by rw[h];simp)
     ·rfl
     ·rfl)
    clear hz0 hz1
    go_wp2_with (first|((with_reducible refine z7 30 _ rfl ?_ (p) (0) ([.int .i64 k,.string s,v0,v1,v2,v3,v4,v5,.slice NA ns.length nc,.slice UA KL.length uc]) _ rfl HR9.o Tryz.underlying30 rfl ?_ ?_);(exact wA rfl);kernel_rfl)|((with_reducible refine zd 30 _ _ rfl rfl ?_ (q) (z0) ([.int .i64 k,.string s,v0,v1,v2,v3,v4,v5,.slice NA ns.length nc,.slice UA KL.length uc]) HZ0.o.2 ?_ ?_ ?_ ?_ ?_ ?_);(exact wA rfl);rw[HZ0.o.1];rfl;rfl;rfl;kernel_rfl;exact HON.o;intro Z hz hb;have HZW:=I hz;have HZB:=I hb;clear hz hb))
    (try simp only[Exit.inBlock,Exit.then])
    refine bodyPost_ret (zH rfl _ _ q [.int .i64 k,.string s,v0,v1,v2,v3,v4,v5,.slice NA ns.length nc,.slice UA KL.length uc] rfl rfl HZW.o) rfl ?_
    have hbel:Below w.heap.size w Z:=⟨HZB.o.os.trans HST6.o.bel.os,HZB.o.tape.trans HST6.o.bel.tape,HZB.o.output.trans HST6.o.bel.output,Nat.le_trans HST6.o.bel.size HZB.o.size,fun b hb=>(HZB.o.block b (by have:=HST6.o.bel.size;omega) (by have:=HST6.o.wq;omega) (by have:=HST6.o.wq;omega)).trans (HST6.o.bel.block b hb)⟩
    have hI2:OwnE 30 B wc wr (.slice UA KL.length uc) (z02 nm ty its) (z02 nm ty its).length KL:=by rw[z1p];exact HI.o
    refine⟨_,rfl,?_,hbel⟩
    rw[HRT.o]
    refine zbz HW.o.1 HW.o.2.1 HW.o.2.2.1 (by rw[z1p];exact HW.o.2.2.2) HBW.o HMW.o HNB.o hI2 hbel (fun b hlt hb=> ?_) (by rw[← HPS.o];exact HZB.o.size) HM.o
    have hq:b≠q:=by
     have h1:=HST6.o.qm
     have h2:=HST6.o.wq
     have h3:=HBW.o
     omega
    rw[HZB.o.block b (by rw[HPS.o];exact hlt) hq hq]
    exact HP.o b hb
   |succ g=>
    have hlt:(j:Int) <(its.length:Int):=by omega
    have hln:its.length<=9223372036854775807:=HLN.o
    obtain⟨y,hy⟩:∃ y,its[j]?= some y:=⟨_,List.getElem?_eq_getElem (by omega)⟩
    obtain⟨b,o,rfl,hbb,hc⟩:=HA.o (by omega)
    obtain⟨ks,hkl,hr,hR⟩:=hc j y hy
    have HBw:Hid (Below B w wr):=I (HST5.o.bel.mono HBW.o)
    have HR:=I (za hr HBw.o hbb)
    have HKL:=I hkl
    have HY:=I hy
    have HYR:=I (z6O (nm:=nm) (y:=ty) hy)
    have HV:=I (hR.under HBw.o)
    have HBB:=I hbb
    clear hc hr hR hy hkl hbb
    have HBZ:Hid (B<=wr.heap.size):=I (Nat.le_trans HBW.o HST5.o.bel.size)
    have HRY:Hid (wr.rangeAt p2 0 ca):=I (((HWY.o.keep (HI.o.bel.block p2 (Nat.lt_of_lt_of_le HP2.o.1 HMW.o)))).range)
    obtain⟨j0,hi,hz0,hz1,hz2⟩:=z2Q z3K
    have HJ0:=I hi
    have HY0:=I hz0
    have HY1:=I hz1
    have HY2:=I hz2
    clear hi hz0 hz1 hz2
    go_upto_region 7 with (fail)
    refine zF [(0,true),(1,true),(2,true),(3,true),(4,true),(5,true),(6,true),(7,true),(8,false),(9,false),(10,false),(11,true)] (fun z=>z.cell? ⟨p,9,none⟩= some (.slice (some ⟨b,o,none⟩) its.length c)/\z.rangeAt b (o+j*10) ks/\z.rangeAt p2 0 ca) (by kernel_rfl) (by kernel_rfl) (by kernel_rfl) rfl (by intro c a d v w h;cases d<;>exact h) ?_
    have hs:(fun z=>z.cell? ⟨p,9,none⟩= some (.slice (some ⟨b,o,none⟩) its.length c)/\z.rangeAt b (o+j*10) ks/\z.rangeAt p2 0 ca) wr.drew:=⟨d9,HR.o,HRY.o⟩
    have HWD:Hid (Below wr.heap.size wr wr.drew):=I (Below.refl _ _).drew
    have HIY:=I (IH.o y (List.mem_of_getElem? HY.o) ks ca wr.drew (Nat.le_trans HBZ.o HWD.o.size) (HV.o.under (HWD.o.mono HBZ.o)) (HYA.o.under (HBw.o.trans (HWD.o.mono HBZ.o))))
    clear d9 HR HRY
    generalize wr.drew= wd at*
    refine zh (some 26) (.slice UA KL.length uc) _ _ rfl rfl rfl (by exact wA rfl) hs rfl ?_
    go_frame
    refine z8 (some 27) (.pointer (some ⟨p,9,none⟩)) _ rfl rfl (by exact wA rfl) hs (fun z hz=>by go_simp) ?_
    go_frame
    refine z8 (some 28) (.slice (some ⟨b,o,none⟩) its.length c) _ rfl rfl (by exact wA rfl) hs (fun z hz=>by have dd:=hz.1;clear hz;go_simp) ?_
    go_frame
    refine zh (some 29) (.int .i64 j) _ _ rfl rfl rfl (by exact wA rfl) hs rfl ?_
    go_frame
    refine z8 (some 30) (.pointer (some ⟨b,o+j*10,none⟩)) _ rfl rfl (by exact wA rfl) hs (fun z hz=>by go_simp) ?_
    go_frame
    refine z8 (some 31) (.agg ⟨ks⟩) _ rfl rfl (by exact wA rfl) hs (fun z hz=>zD 30 rfl (b) (o+j*10) (ks) _ rfl (hz.2.1) Tryz.underlying30 rfl (by rw[HKL.o];kernel_rfl)) ?_
    go_frame
    refine zh (some 32) (.string nm) _ _ rfl rfl rfl (by exact wA rfl) hs rfl ?_
    go_frame
    refine z8 (some 33) (.agg ⟨ca⟩) _ rfl rfl (by exact wA rfl) hs (fun z hz=>zD 30 rfl (p2) (0) (ca) _ rfl (hz.2.2) Tryz.underlying30 rfl (by rw[HCA.o];kernel_rfl)) ?_
    go_frame
    refine zx (some 34) 17 Tryz.func17 (by kernel_rfl) (by kernel_rfl) [.agg ⟨ks⟩,.string nm,.agg ⟨ca⟩] _ _ _ rfl rfl rfl (by exact wA rfl) rfl ?_
    refine HIY.o.mono ?_
    rintro e u6 ⟨cs',rfl,hk6,hb6⟩
    have HK6:=I hk6
    have HB6:=I hb6
    have HL6:=I (eslen hk6.exp)
    have HO6:=I hk6.exp.one
    have keep:∀ z:World,(∀ b',b' < wd.heap.size->b' < m->z.heap[b']?= wd.heap[b']?)->(fun z=>z.cell? ⟨p,9,none⟩= some (.slice (some ⟨b,o,none⟩) its.length c)/\z.rangeAt b (o+j*10) ks/\z.rangeAt p2 0 ca) z:=fun z hz=>by
     have h1:=HST5.o.pm
     have h2:=HBB.o
     have h3:=HBW.o
     have h4:=HWD.o.size
     have h5:=HST5.o.mw
     have h6:=HM.o
     have h7:=HP2.o.1
     exact⟨(World.cell?_of_block (a:=⟨p,9,none⟩) (hz p (by omega) h1)).trans hs.1,fun i u hu=>(World.cell?_of_block (a:=⟨b,_,none⟩) (hz b (by omega) (by omega))).trans (hs.2.1 i u hu),fun i u hu=>(World.cell?_of_block (a:=⟨p2,_,none⟩) (hz p2 (by omega) h7)).trans (hs.2.2 i u hu)⟩
    have KEEP:=I keep
    clear hk6 hb6 HIY keep
    refine⟨_,rfl,KEEP.o u6 (fun b' h _=>HB6.o.block b' h),?_⟩
    go_frame
    have HC7:Hid (∀ i u,(enc10 ⟨cs',HL6.o⟩)[i]?= some u->(u6.alloc (.cells ⟨cs'⟩ 30)).cell? ⟨u6.heap.size,i,none⟩= some u):=I (z0l u6 cs' 30)
    have HB7:=I (zc u6 (.cells ⟨cs'⟩ 30))
    have HU7:Hid (Below wd.heap.size wd (u6.alloc (.cells ⟨cs'⟩ 30))):=I (HB6.o.trans (HB7.o.mono HB6.o.size))
    have HS7:Hid (wc.heap.size<=(u6.alloc (.cells ⟨cs'⟩ 30)).heap.size):=I (Nat.le_trans HI.o.bel.size (Nat.le_trans HWD.o.size HU7.o.size))
    have HOW:Hid (OwnSl 30 10 enc10 (u6.alloc (.cells ⟨cs'⟩ 30)) wc.heap.size (.slice UA KL.length uc) KL):=I (HI.o.own.below (HWD.o.trans (HU7.o.mono HWD.o.size)))
    have HM63:Hid (KL.length+1<=maxLen):=I (by have:=HI.o.len;have:=HB88.o;unfold maxLen;omega)
    have HM88:Hid ((KL.length+1) *160<=140737488355328):=I (by have:=HI.o.len;have:=HB88.o;omega)
    refine z1y (some 35) (.slice (some ⟨u6.heap.size,0,none⟩) 1 1) (u6.alloc (.cells ⟨cs'⟩ 30)) _ rfl rfl (by exact wA rfl) (z8M 28 _ rfl 30 j0 _ cs' rfl Tryz.underlying28 HJ0.o HY0.o (by rw[HL6.o];exact HY1.o) (by rw[HL6.o];decide) (by rw[HL6.o];decide)) (KEEP.o _ (fun b' h _=>HU7.o.block b' h)) ?_
    go_frame
    refine zcR (some 36) _ _ _ 28 rfl rfl rfl (by exact wA rfl) wc.heap.size 30 j0 _ 10 160 enc10 Tryz.underlying28 HJ0.o HY0.o HY1.o HY2.o rfl (by decide) z2I (.slice UA KL.length uc) KL rfl HOW.o u6.heap.size 1 ⟨cs',HL6.o⟩ HO6.o rfl HC7.o HM63.o HM88.o HS7.o ?_
    intro v' u8 hown hg hblk
    have HN:=I (HI.o.next HWD.o HB6.o HB7.o HYR.o HK6.o hown hg hblk)
    have hse:=KEEP.o u8 (fun b' h1 h2=>(hg.block b' (Nat.lt_of_lt_of_le h1 HU7.o.size) (fun e=>by have:=HI.o.own.block e.symm;have:=HMW.o;omega)).trans (HU7.o.block b' h1))
    clear hown hg hblk
    refine⟨hse,?_⟩
    go_frame
    refine z21 (some 7) v' _ _ rfl rfl rfl (by exact wA rfl) hse rfl ?_
    go_frame
    refine z0a ?_
    clear hse hs
    go_wp2
    go_roundg g
    case measure=>omega
    case rel=>exact⟨j+1,_,by omega,by go_num,HN.o⟩
end
end Go.Proofs.YteolfamhmfidbaaGreatDoor
