/- Parts of a proof: VName, VBare, VRight, CanonP, Keep, RowG, BoxG, Typ, CntT. -/
import Derived.Laws.IdiomStrings
import Derived.Test.YtdjfpcmlffekkaaGreatDoorPackG4
import Derived.Test.YtdjfpcmlffekkaaGreatDoorPackG8
import Derived.Test.YtdjfpcmlffekkaaGreatDoorPackG10
set_option maxHeartbeats 8000000
set_option maxRecDepth 100000
set_option linter.unusedVariables false
set_option linter.unusedSimpArgs false
namespace Go.Proofs.YtdjfpcmlffekkaaGreatDoor
section
open Go Go.RowKit
def okC (i:Nat) (c:UInt8):Bool:=(decide (97<=c.toNat) && decide (c.toNat<=122)) ||(decide (0 < i) && (c.toNat ==95 ||(decide (48<=c.toNat) && decide (c.toNat<=57))))
def zT:List UInt8->Nat->Bool
 |[],_=>true
 |c::l,i=>okC i c && zT l (i+1)
def nameB (s:ByteArray):Bool:=decide (0 < s.size) && decide (s.size<=30) && zT s.data.toList 0
theorem zai (w:World) (C:Array Value) (T:TypeId) (fz:Nat × Nat) (i:Nat):(w.alloc (.cells C T fz)).cell? ⟨w.heap.size,i,none⟩= C[i]?:=by
 exact cell_of_row _ w.heap.size i C T fz (heap_alloc_new w _)
theorem z4f (s:ByteArray) (n k:Nat) {c:UInt8} (h:s.data.toList[k]?= some c):(bytesRow s n)[k]?= some (.int .u8 c.toNat):=by
 have h1:k < s.data.size:=by have:=(List.getElem?_eq_some_iff.1 h).1;simpa using this
 unfold bytesRow;rw[Array.getElem?_append_left (by simpa using h1),Array.getElem?_map];have h2:s.data[k]?= some c:=by simpa using h
 rw[h2];rfl
theorem z4p {l:List UInt8} {k:Nat} {c:UInt8} (h:l[k]?= some c):zT (l.drop k) k=(okC k c && zT (l.drop (k+1)) (k+1)):=by
 rw[z0c h];rfl
theorem z4F (s:ByteArray) (w:World):Calls Tryz.prog 59 #[.string s] w fun e w'=>e= .returned (.bool (nameB s))/\Below w.heap.size w w':=by
 have HN:Hid (nameB s=(decide (0 < s.size) && decide (s.size<=30) && zT s.data.toList 0)):=I rfl;have Y:Hid (s.data.toList.length= s.size):=I (by cases s;rfl);by_cases h0:s.size= 0
 ·have hl:s.data.toList=[]:=List.eq_nil_of_length_eq_zero (by rw[Y.o,h0])
  have t0:s.toList=[]:=by rw[toList_eq,hl]
  have t1:s.toList.isEmpty= true:=by rw[t0];rfl
  have G:Hid (nameB s= false):=I (by rw[HN.o,h0];rfl);clear hl h0;go_enter Tryz.func59,Tryz.ntmps59;go_wp2;go_ret;exact⟨z8 G.o.symm,Below.refl _ w⟩
 have t0: ¬ s.toList=[]:=fun h=>h0 (by rw[← Y.o,← toList_eq,h];rfl);have t1:s.toList.isEmpty= false:=by rw[Bool.eq_false_iff];intro h;exact t0 (List.isEmpty_iff.1 h)
 by_cases h1:s.size<=30
 ·have t2:(s.size:Int)<=30:=by omega
  have G:Hid (nameB s= zT s.data.toList 0):=I (by rw[HN.o,decide_eq_true (by omega),decide_eq_true h1];rfl);have a3:∀ W:World,(convert 9 131 (.string s)).run Tryz.prog W= .ok (.slice (some ⟨W.heap.size,0,none⟩) s.size (grownCap W s.size 0 5)) (W.drew.alloc (.cells (bytesRow s (grownCap W s.size 0 5)) 5 ((bytesRow s (grownCap W s.size 0 5)).size,(bytesRow s (grownCap W s.size 0 5)).size+1))):=fun W=>run_bytes_of_string W _ _ _ s Tryz.underlying9 Tryz.underlying131 Tryz.underlying5;have HC:=I (fun(W:World) (n:Nat) fz (k:Nat) (c:UInt8) (h:s.data.toList[k]?= some c)=>(zai W (bytesRow s n) 5 fz k).trans (z4f s n k h));have K:=I (fun k c=>z4p (l:=s.data.toList) (k:=k) (c:=c));have HE:Hid (∀ k,zT (s.data.toList.drop s.size) k= true):=I fun k=>by rw[List.drop_eq_nil_of_le (by rw[Y.o];exact Nat.le_refl _)];rfl
  have H0:Hid (zT (s.data.toList.drop 0) 0= zT s.data.toList 0):=I rfl;generalize zT s.data.toList 0= res at*;go_enter Tryz.func59,Tryz.ntmps59;go_upto_region 4 with (fail);have a1:Hid (∀ (k:Nat) c,s.data.toList[k]?= some c->((w.alloc (Obj.cells (bytesRow s (grownCap w s.size 0 5)) 5 ((bytesRow s (grownCap w s.size 0 5)).size,(bytesRow s (grownCap w s.size 0 5)).size+1))).drew).cell? ⟨w.heap.size,k,none⟩= some (.int .u8 c.toNat)):=I (fun k c h=>HC.o w _ _ k c h);have O:Hid (Below w.heap.size w ((w.alloc (Obj.cells (bytesRow s (grownCap w s.size 0 5)) 5 ((bytesRow s (grownCap w s.size 0 5)).size,(bytesRow s (grownCap w s.size 0 5)).size+1))).drew)):=I (zc w _).drew;generalize (w.alloc (Obj.cells (bytesRow s (grownCap w s.size 0 5)) 5 ((bytesRow s (grownCap w s.size 0 5)).size,(bytesRow s (grownCap w s.size 0 5)).size+1))).drew= W1 at*;generalize grownCap w s.size 0 5= cp at*;clear a3 HC HN;go_wp2;go_loopg [15] s.size (fun q x u=>∃ k:Nat,k+q= s.size/\x= .int .i64 k/\u= W1/\zT (s.data.toList.drop k) k= res);case atStart=>exact⟨0,by omega,rfl,rfl,H0.o⟩
  case round=>
   obtain⟨k,hk,rfl,rfl,N⟩:=hrel;have A:=I N;clear N;cases gk with
   |zero=>
    obtain rfl:k= s.size:=by omega
    have a9: ¬ ((s.size:Int) <(s.size:Int)):=by omega
    have F:=I (A.o.symm.trans (HE.o s.size));go_wp2;go_ret;exact⟨z8 (G.o.trans F.o).symm,O.o⟩
   |succ q=>
    have b0:(k:Int) <(s.size:Int):=by omega
    obtain⟨c,hc⟩:∃ c,s.data.toList[k]?= some c:=⟨_,List.getElem?_eq_getElem (by rw[Y.o];omega)⟩;have dk:=a1.o k c hc;have C:=I hc;clear hc;by_cases h97:97<=c.toNat
    ·by_cases h122:c.toNat<=122
     ·have d97:decide (97<=c.toNat)= true:=decide_eq_true (by omega)
      have d122:decide (c.toNat<=122)= true:=decide_eq_true (by omega);have f97:97<=(c.toNat:Int):=by omega
      have f122:(c.toNat:Int)<=122:=by omega
      have g:okC k c= true:=by unfold okC;simp only[d97,d122,Bool.and_self,Bool.true_or];try rfl
      have F:Hid (res= zT (s.data.toList.drop (k+1)) (k+1)):=I (A.o.symm.trans ((K.o k c C.o).trans (by rw[g];exact Bool.true_and _)));clear g;go_wp2;go_roundg q;case measure=>omega
      case rel=>exact⟨k+1,by omega,by go_num,rfl,F.o.symm⟩
     ·have d97:decide (97<=c.toNat)= true:=decide_eq_true (by omega)
      have d122:decide (c.toNat<=122)= false:=decide_eq_false (by omega);have f97:97<=(c.toNat:Int):=by omega
      have f122: ¬ ((c.toNat:Int)<=122):=by omega
      by_cases hk0:k= 0
      ·subst hk0
       have d0:decide ((0:Nat) < 0)= false:=rfl;have g:okC 0 c= false:=by unfold okC;simp only[d97,d122,Bool.and_false,Bool.false_or,d0,Bool.false_and,Bool.or_false,Bool.and_false,Bool.true_and];try rfl
       have F:Hid (res= false):=I (A.o.symm.trans ((K.o 0 c C.o).trans (by rw[g];exact Bool.false_and _)));clear g;go_wp2;go_ret;exact⟨z8 (G.o.trans F.o).symm,O.o⟩
      ·have d0:decide (0 < k)= true:=decide_eq_true (by omega)
       have a4:0 <(k:Int):=by omega
       by_cases h95:c.toNat= 95
       ·have e1:(c.toNat ==95)= true:=by simpa using h95
        have X:(c.toNat:Int)= 95:=by omega
        have g:okC k c= true:=by unfold okC;simp only[d97,d122,Bool.and_false,Bool.false_or,d0,e1,Bool.true_or,Bool.true_and,Bool.and_self,Bool.false_and,Bool.and_false,Bool.false_or];try rfl
        have F:Hid (res= zT (s.data.toList.drop (k+1)) (k+1)):=I (A.o.symm.trans ((K.o k c C.o).trans (by rw[g];exact Bool.true_and _)));clear g;go_wp2;go_roundg q;case measure=>omega
        case rel=>exact⟨k+1,by omega,by go_num,rfl,F.o.symm⟩
       ·have e1:(c.toNat ==95)= false:=by simpa using h95
        have X:((c.toNat:Int) ==95)= false:=by rw[beq_eq_false_iff_ne];omega
        by_cases h48:48<=c.toNat
        ·by_cases h57:c.toNat<=57
         ·have d48:decide (48<=c.toNat)= true:=decide_eq_true (by omega)
          have d57:decide (c.toNat<=57)= true:=decide_eq_true (by omega);have f48:48<=(c.toNat:Int):=by omega
          have f57:(c.toNat:Int)<=57:=by omega
          have g:okC k c= true:=by unfold okC;simp only[d97,d122,Bool.and_false,Bool.false_or,d0,e1,d48,d57,Bool.false_and,Bool.and_false,Bool.false_or,Bool.or_true,Bool.and_self];try rfl
          have F:Hid (res= zT (s.data.toList.drop (k+1)) (k+1)):=I (A.o.symm.trans ((K.o k c C.o).trans (by rw[g];exact Bool.true_and _)));clear g;go_wp2;go_roundg q;case measure=>omega
          case rel=>exact⟨k+1,by omega,by go_num,rfl,F.o.symm⟩
         ·have d48:decide (48<=c.toNat)= true:=decide_eq_true (by omega)
          have d57:decide (c.toNat<=57)= false:=decide_eq_false (by omega);have f48:48<=(c.toNat:Int):=by omega
          have f57: ¬ ((c.toNat:Int)<=57):=by omega
          have g:okC k c= false:=by unfold okC;simp only[d97,d122,Bool.and_false,Bool.false_or,d0,e1,d48,d57,Bool.false_and,Bool.and_false,Bool.false_or,Bool.or_self,Bool.and_self];try rfl
          have F:Hid (res= false):=I (A.o.symm.trans ((K.o k c C.o).trans (by rw[g];exact Bool.false_and _)));clear g;go_wp2;go_ret;exact⟨z8 (G.o.trans F.o).symm,O.o⟩
        ·have d48:decide (48<=c.toNat)= false:=decide_eq_false (by omega)
         have f48: ¬ (48<=(c.toNat:Int)):=by omega
         have g:okC k c= false:=by unfold okC;simp only[d97,d122,Bool.and_false,Bool.false_or,d0,e1,d48,Bool.false_and,Bool.and_false,Bool.false_or,Bool.or_self,Bool.and_self];try rfl
         have F:Hid (res= false):=I (A.o.symm.trans ((K.o k c C.o).trans (by rw[g];exact Bool.false_and _)));clear g;go_wp2;go_ret;exact⟨z8 (G.o.trans F.o).symm,O.o⟩
    ·have d97:decide (97<=c.toNat)= false:=decide_eq_false (by omega)
     have f97: ¬ (97<=(c.toNat:Int)):=by omega
     by_cases hk0:k= 0
     ·subst hk0
      have d0:decide ((0:Nat) < 0)= false:=rfl;have g:okC 0 c= false:=by unfold okC;simp only[d97,Bool.false_and,Bool.false_or,d0,Bool.false_and,Bool.or_false,Bool.and_false,Bool.true_and];try rfl
      have F:Hid (res= false):=I (A.o.symm.trans ((K.o 0 c C.o).trans (by rw[g];exact Bool.false_and _)));clear g;go_wp2;go_ret;exact⟨z8 (G.o.trans F.o).symm,O.o⟩
     ·have d0:decide (0 < k)= true:=decide_eq_true (by omega)
      have a4:0 <(k:Int):=by omega
      by_cases h95:c.toNat= 95
      ·have e1:(c.toNat ==95)= true:=by simpa using h95
       have X:(c.toNat:Int)= 95:=by omega
       have g:okC k c= true:=by unfold okC;simp only[d97,Bool.false_and,Bool.false_or,d0,e1,Bool.true_or,Bool.true_and,Bool.and_self,Bool.false_and,Bool.and_false,Bool.false_or];try rfl
       have F:Hid (res= zT (s.data.toList.drop (k+1)) (k+1)):=I (A.o.symm.trans ((K.o k c C.o).trans (by rw[g];exact Bool.true_and _)));clear g;go_wp2;go_roundg q;case measure=>omega
       case rel=>exact⟨k+1,by omega,by go_num,rfl,F.o.symm⟩
      ·have e1:(c.toNat ==95)= false:=by simpa using h95
       have X:((c.toNat:Int) ==95)= false:=by rw[beq_eq_false_iff_ne];omega
       by_cases h48:48<=c.toNat
       ·by_cases h57:c.toNat<=57
        ·have d48:decide (48<=c.toNat)= true:=decide_eq_true (by omega)
         have d57:decide (c.toNat<=57)= true:=decide_eq_true (by omega);have f48:48<=(c.toNat:Int):=by omega
         have f57:(c.toNat:Int)<=57:=by omega
         have g:okC k c= true:=by unfold okC;simp only[d97,Bool.false_and,Bool.false_or,d0,e1,d48,d57,Bool.false_and,Bool.and_false,Bool.false_or,Bool.or_true,Bool.and_self];try rfl
         have F:Hid (res= zT (s.data.toList.drop (k+1)) (k+1)):=I (A.o.symm.trans ((K.o k c C.o).trans (by rw[g];exact Bool.true_and _)));clear g;go_wp2;go_roundg q;case measure=>omega
         case rel=>exact⟨k+1,by omega,by go_num,rfl,F.o.symm⟩
        ·have d48:decide (48<=c.toNat)= true:=decide_eq_true (by omega)
         have d57:decide (c.toNat<=57)= false:=decide_eq_false (by omega);have f48:48<=(c.toNat:Int):=by omega
         have f57: ¬ ((c.toNat:Int)<=57):=by omega
         have g:okC k c= false:=by unfold okC;simp only[d97,Bool.false_and,Bool.false_or,d0,e1,d48,d57,Bool.false_and,Bool.and_false,Bool.false_or,Bool.or_self,Bool.and_self];try rfl
         have F:Hid (res= false):=I (A.o.symm.trans ((K.o k c C.o).trans (by rw[g];exact Bool.false_and _)));clear g;go_wp2;go_ret;exact⟨z8 (G.o.trans F.o).symm,O.o⟩
       ·have d48:decide (48<=c.toNat)= false:=decide_eq_false (by omega)
        have f48: ¬ (48<=(c.toNat:Int)):=by omega
        have g:okC k c= false:=by unfold okC;simp only[d97,Bool.false_and,Bool.false_or,d0,e1,d48,Bool.false_and,Bool.and_false,Bool.false_or,Bool.or_self,Bool.and_self];try rfl
        have F:Hid (res= false):=I (A.o.symm.trans ((K.o k c C.o).trans (by rw[g];exact Bool.false_and _)));clear g;go_wp2;go_ret;exact⟨z8 (G.o.trans F.o).symm,O.o⟩
 ·have t2: ¬ ((s.size:Int)<=30):=by omega
  have G:Hid (nameB s= false):=I (by rw[HN.o,decide_eq_false h1,Bool.and_false];rfl);go_enter Tryz.func59,Tryz.ntmps59;go_wp2;go_ret;exact⟨z8 G.o.symm,Below.refl _ w⟩
end
section
open Go Go.RowKit
def bareB (a b c d:Bool) (n:Int) (f:Nat) (s:ByteArray) (ns its:Nat):Bool:=(a || n ==0) && ((b || cmpF f 0 ==0) && ((c || s.toList.isEmpty) && (d ||(ns ==0 && its ==0))))
theorem zac (p o:Nat) (k n:Int) (f:Nat) (s:ByteArray) (A D:Option Addr) (ns its ca cd:Nat) (w:World) (hf0:f < 2 ^ 64) (h:w.rangeAt p o [.int .i64 k,.int .i64 n,.float .f64 f,.string s,.slice A ns ca,.slice D its cd]):
  Calls Tryz.prog 103 #[.pointer (some ⟨p,o,none⟩),.bool true,.bool false,.bool false,.bool false] w fun e w'=>e= .returned (.bool (bareB true false false false n f s ns its))/\w'= w:=by
 have d1:=h 1 _ rfl;have d2:=h 2 _ rfl;have d3:=h 3 _ rfl;have d4:=h 4 _ rfl;have d5:=h 5 _ rfl;have g:=I (fun w=>z0U f 0 hf0 (by decide) w);clear h hf0;by_cases hf:cmpF f 0= 0
 ·have t2:(cmpF f 0 ==0)= true:=by simpa using hf
  by_cases hs:s.toList=[]
  ·have t3:s.toList.isEmpty= true:=by rw[hs];rfl
   by_cases hm:ns= 0
   ·have t4:(ns ==0)= true:=by simpa using hm
    have F:((ns:Int) ==0)= true:=by rw[hm];rfl
    by_cases hi:its= 0
    ·have t5:(its ==0)= true:=by simpa using hi
     have G:((its:Int) ==0)= true:=by rw[hi];rfl
     have C:Hid (bareB true false false false n f s ns its= true):=I (by unfold bareB;simp[t2,t3,t4,t5]);generalize cmpF f 0= cf at*;go_enter Tryz.func103,Tryz.ntmps103;go_wp2_with (go_at_call 123;refine(g.o _).mono ?_;rintro e z ⟨rfl,rfl⟩);go_ret;exact⟨z8 C.o.symm,rfl⟩
    ·have t5:(its ==0)= false:=by simpa using hi
     have G:((its:Int) ==0)= false:=by rw[beq_eq_false_iff_ne];omega
     have C:Hid (bareB true false false false n f s ns its= false):=I (by unfold bareB;simp[t2,t3,t4,t5]);generalize cmpF f 0= cf at*;go_enter Tryz.func103,Tryz.ntmps103;go_wp2_with (go_at_call 123;refine(g.o _).mono ?_;rintro e z ⟨rfl,rfl⟩);go_ret;exact⟨z8 C.o.symm,rfl⟩
   ·have t4:(ns ==0)= false:=by simpa using hm
    have F:((ns:Int) ==0)= false:=by rw[beq_eq_false_iff_ne];omega
    have C:Hid (bareB true false false false n f s ns its= false):=I (by unfold bareB;simp[t2,t3,t4]);generalize cmpF f 0= cf at*;go_enter Tryz.func103,Tryz.ntmps103;go_wp2_with (go_at_call 123;refine(g.o _).mono ?_;rintro e z ⟨rfl,rfl⟩);go_ret;exact⟨z8 C.o.symm,rfl⟩
  ·have t3:s.toList.isEmpty= false:=by rw[Bool.eq_false_iff];intro h;exact hs (List.isEmpty_iff.1 h)
   have C:Hid (bareB true false false false n f s ns its= false):=I (by unfold bareB;simp[t2,t3]);generalize cmpF f 0= cf at*;go_enter Tryz.func103,Tryz.ntmps103;go_wp2_with (go_at_call 123;refine(g.o _).mono ?_;rintro e z ⟨rfl,rfl⟩);go_ret;exact⟨z8 C.o.symm,rfl⟩
 ·have t2:(cmpF f 0 ==0)= false:=by simpa using hf
  have C:Hid (bareB true false false false n f s ns its= false):=I (by unfold bareB;simp[t2]);generalize cmpF f 0= cf at*;go_enter Tryz.func103,Tryz.ntmps103;go_wp2_with (go_at_call 123;refine(g.o _).mono ?_;rintro e z ⟨rfl,rfl⟩);go_ret;exact⟨z8 C.o.symm,rfl⟩
theorem zeF (p o:Nat) (k n:Int) (f:Nat) (s:ByteArray) (A D:Option Addr) (ns its ca cd:Nat) (w:World) (hf0:f < 2 ^ 64) (h:w.rangeAt p o [.int .i64 k,.int .i64 n,.float .f64 f,.string s,.slice A ns ca,.slice D its cd]):
  Calls Tryz.prog 103 #[.pointer (some ⟨p,o,none⟩),.bool false,.bool true,.bool false,.bool false] w fun e w'=>e= .returned (.bool (bareB false true false false n f s ns its))/\w'= w:=by
 have d1:=h 1 _ rfl;have d2:=h 2 _ rfl;have d3:=h 3 _ rfl;have d4:=h 4 _ rfl;have d5:=h 5 _ rfl;have g:=I (fun w=>z0U f 0 hf0 (by decide) w);clear h hf0;by_cases hn:n= 0
 ·have t1:(n ==0)= true:=by simpa using hn
  by_cases hs:s.toList=[]
  ·have t3:s.toList.isEmpty= true:=by rw[hs];rfl
   by_cases hm:ns= 0
   ·have t4:(ns ==0)= true:=by simpa using hm
    have F:((ns:Int) ==0)= true:=by rw[hm];rfl
    by_cases hi:its= 0
    ·have t5:(its ==0)= true:=by simpa using hi
     have G:((its:Int) ==0)= true:=by rw[hi];rfl
     have C:Hid (bareB false true false false n f s ns its= true):=I (by unfold bareB;simp[t1,t3,t4,t5]);generalize cmpF f 0= cf at*;go_enter Tryz.func103,Tryz.ntmps103;go_wp2_with (go_at_call 123;refine(g.o _).mono ?_;rintro e z ⟨rfl,rfl⟩);go_ret;exact⟨z8 C.o.symm,rfl⟩
    ·have t5:(its ==0)= false:=by simpa using hi
     have G:((its:Int) ==0)= false:=by rw[beq_eq_false_iff_ne];omega
     have C:Hid (bareB false true false false n f s ns its= false):=I (by unfold bareB;simp[t1,t3,t4,t5]);generalize cmpF f 0= cf at*;go_enter Tryz.func103,Tryz.ntmps103;go_wp2_with (go_at_call 123;refine(g.o _).mono ?_;rintro e z ⟨rfl,rfl⟩);go_ret;exact⟨z8 C.o.symm,rfl⟩
   ·have t4:(ns ==0)= false:=by simpa using hm
    have F:((ns:Int) ==0)= false:=by rw[beq_eq_false_iff_ne];omega
    have C:Hid (bareB false true false false n f s ns its= false):=I (by unfold bareB;simp[t1,t3,t4]);generalize cmpF f 0= cf at*;go_enter Tryz.func103,Tryz.ntmps103;go_wp2_with (go_at_call 123;refine(g.o _).mono ?_;rintro e z ⟨rfl,rfl⟩);go_ret;exact⟨z8 C.o.symm,rfl⟩
  ·have t3:s.toList.isEmpty= false:=by rw[Bool.eq_false_iff];intro h;exact hs (List.isEmpty_iff.1 h)
   have C:Hid (bareB false true false false n f s ns its= false):=I (by unfold bareB;simp[t1,t3]);generalize cmpF f 0= cf at*;go_enter Tryz.func103,Tryz.ntmps103;go_wp2_with (go_at_call 123;refine(g.o _).mono ?_;rintro e z ⟨rfl,rfl⟩);go_ret;exact⟨z8 C.o.symm,rfl⟩
 ·have t1:(n ==0)= false:=by simpa using hn
  have C:Hid (bareB false true false false n f s ns its= false):=I (by unfold bareB;simp[t1]);generalize cmpF f 0= cf at*;go_enter Tryz.func103,Tryz.ntmps103;go_wp2_with (go_at_call 123;refine(g.o _).mono ?_;rintro e z ⟨rfl,rfl⟩);go_ret;exact⟨z8 C.o.symm,rfl⟩
theorem zeG (p o:Nat) (k n:Int) (f:Nat) (s:ByteArray) (A D:Option Addr) (ns its ca cd:Nat) (w:World) (hf0:f < 2 ^ 64) (h:w.rangeAt p o [.int .i64 k,.int .i64 n,.float .f64 f,.string s,.slice A ns ca,.slice D its cd]):
  Calls Tryz.prog 103 #[.pointer (some ⟨p,o,none⟩),.bool false,.bool false,.bool true,.bool false] w fun e w'=>e= .returned (.bool (bareB false false true false n f s ns its))/\w'= w:=by
 have d1:=h 1 _ rfl;have d2:=h 2 _ rfl;have d3:=h 3 _ rfl;have d4:=h 4 _ rfl;have d5:=h 5 _ rfl;have g:=I (fun w=>z0U f 0 hf0 (by decide) w);clear h hf0;by_cases hn:n= 0
 ·have t1:(n ==0)= true:=by simpa using hn
  by_cases hf:cmpF f 0= 0
  ·have t2:(cmpF f 0 ==0)= true:=by simpa using hf
   by_cases hm:ns= 0
   ·have t4:(ns ==0)= true:=by simpa using hm
    have F:((ns:Int) ==0)= true:=by rw[hm];rfl
    by_cases hi:its= 0
    ·have t5:(its ==0)= true:=by simpa using hi
     have G:((its:Int) ==0)= true:=by rw[hi];rfl
     have C:Hid (bareB false false true false n f s ns its= true):=I (by unfold bareB;simp[t1,t2,t4,t5]);generalize cmpF f 0= cf at*;go_enter Tryz.func103,Tryz.ntmps103;go_wp2_with (go_at_call 123;refine(g.o _).mono ?_;rintro e z ⟨rfl,rfl⟩);go_ret;exact⟨z8 C.o.symm,rfl⟩
    ·have t5:(its ==0)= false:=by simpa using hi
     have G:((its:Int) ==0)= false:=by rw[beq_eq_false_iff_ne];omega
     have C:Hid (bareB false false true false n f s ns its= false):=I (by unfold bareB;simp[t1,t2,t4,t5]);generalize cmpF f 0= cf at*;go_enter Tryz.func103,Tryz.ntmps103;go_wp2_with (go_at_call 123;refine(g.o _).mono ?_;rintro e z ⟨rfl,rfl⟩);go_ret;exact⟨z8 C.o.symm,rfl⟩
   ·have t4:(ns ==0)= false:=by simpa using hm
    have F:((ns:Int) ==0)= false:=by rw[beq_eq_false_iff_ne];omega
    have C:Hid (bareB false false true false n f s ns its= false):=I (by unfold bareB;simp[t1,t2,t4]);generalize cmpF f 0= cf at*;go_enter Tryz.func103,Tryz.ntmps103;go_wp2_with (go_at_call 123;refine(g.o _).mono ?_;rintro e z ⟨rfl,rfl⟩);go_ret;exact⟨z8 C.o.symm,rfl⟩
  ·have t2:(cmpF f 0 ==0)= false:=by simpa using hf
   have C:Hid (bareB false false true false n f s ns its= false):=I (by unfold bareB;simp[t1,t2]);generalize cmpF f 0= cf at*;go_enter Tryz.func103,Tryz.ntmps103;go_wp2_with (go_at_call 123;refine(g.o _).mono ?_;rintro e z ⟨rfl,rfl⟩);go_ret;exact⟨z8 C.o.symm,rfl⟩
 ·have t1:(n ==0)= false:=by simpa using hn
  have C:Hid (bareB false false true false n f s ns its= false):=I (by unfold bareB;simp[t1]);generalize cmpF f 0= cf at*;go_enter Tryz.func103,Tryz.ntmps103;go_wp2_with (go_at_call 123;refine(g.o _).mono ?_;rintro e z ⟨rfl,rfl⟩);go_ret;exact⟨z8 C.o.symm,rfl⟩
theorem zad (p o:Nat) (k n:Int) (f:Nat) (s:ByteArray) (A D:Option Addr) (ns its ca cd:Nat) (w:World) (hf0:f < 2 ^ 64) (h:w.rangeAt p o [.int .i64 k,.int .i64 n,.float .f64 f,.string s,.slice A ns ca,.slice D its cd]):
  Calls Tryz.prog 103 #[.pointer (some ⟨p,o,none⟩),.bool false,.bool false,.bool false,.bool true] w fun e w'=>e= .returned (.bool (bareB false false false true n f s ns its))/\w'= w:=by
 have d1:=h 1 _ rfl;have d2:=h 2 _ rfl;have d3:=h 3 _ rfl;have d4:=h 4 _ rfl;have d5:=h 5 _ rfl;have g:=I (fun w=>z0U f 0 hf0 (by decide) w);clear h hf0;by_cases hn:n= 0
 ·have t1:(n ==0)= true:=by simpa using hn
  by_cases hf:cmpF f 0= 0
  ·have t2:(cmpF f 0 ==0)= true:=by simpa using hf
   by_cases hs:s.toList=[]
   ·have t3:s.toList.isEmpty= true:=by rw[hs];rfl
    have C:Hid (bareB false false false true n f s ns its= true):=I (by unfold bareB;simp[t1,t2,t3]);generalize cmpF f 0= cf at*;go_enter Tryz.func103,Tryz.ntmps103;go_wp2_with (go_at_call 123;refine(g.o _).mono ?_;rintro e z ⟨rfl,rfl⟩);go_ret;exact⟨z8 C.o.symm,rfl⟩
   ·have t3:s.toList.isEmpty= false:=by rw[Bool.eq_false_iff];intro h;exact hs (List.isEmpty_iff.1 h)
    have C:Hid (bareB false false false true n f s ns its= false):=I (by unfold bareB;simp[t1,t2,t3]);generalize cmpF f 0= cf at*;go_enter Tryz.func103,Tryz.ntmps103;go_wp2_with (go_at_call 123;refine(g.o _).mono ?_;rintro e z ⟨rfl,rfl⟩);go_ret;exact⟨z8 C.o.symm,rfl⟩
  ·have t2:(cmpF f 0 ==0)= false:=by simpa using hf
   have C:Hid (bareB false false false true n f s ns its= false):=I (by unfold bareB;simp[t1,t2]);generalize cmpF f 0= cf at*;go_enter Tryz.func103,Tryz.ntmps103;go_wp2_with (go_at_call 123;refine(g.o _).mono ?_;rintro e z ⟨rfl,rfl⟩);go_ret;exact⟨z8 C.o.symm,rfl⟩
 ·have t1:(n ==0)= false:=by simpa using hn
  have C:Hid (bareB false false false true n f s ns its= false):=I (by unfold bareB;simp[t1]);generalize cmpF f 0= cf at*;go_enter Tryz.func103,Tryz.ntmps103;go_wp2_with (go_at_call 123;refine(g.o _).mono ?_;rintro e z ⟨rfl,rfl⟩);go_ret;exact⟨z8 C.o.symm,rfl⟩
def riseB:Option ByteArray->List ByteArray->Bool
 |_,[]=>true
 |none,s::l=>nameB s && riseB (some s) l
 |some p,s::l=>nameB s && (Op.bytesLess p.toList s.toList && riseB (some s) l)
def prevK (l:List ByteArray) (k:Nat):Option ByteArray:=if k= 0 then none else l[k - 1]?
theorem z5m {l:List ByteArray} {s:ByteArray} (h:l[0]?= some s):riseB (prevK l 0) (l.drop 0)=(nameB s && riseB (prevK l 1) (l.drop 1)):=by
 rw[z0c h];show(nameB s && riseB (some s) (l.drop 1))= _;unfold prevK;simp[h]
theorem z6u {l:List ByteArray} {k:Nat} {p s:ByteArray} (hp:l[k]?= some p) (h:l[k+1]?= some s):riseB (prevK l (k+1)) (l.drop (k+1))=(nameB s && (Op.bytesLess p.toList s.toList && riseB (prevK l (k+2)) (l.drop (k+2)))):=by
 rw[z0c h];have h1:prevK l (k+1)= some p:=by unfold prevK;simp[hp]
 have h2:prevK l (k+2)= some s:=by unfold prevK;simp[h]
 rw[h1,h2];rfl
theorem z7L {l:List ByteArray}:riseB (prevK l l.length) (l.drop l.length)= true:=by
 rw[List.drop_eq_nil_of_le (Nat.le_refl _)];rw[riseB]
theorem z5n (v:Value) (l:List ByteArray) (w:World) (hv:SlAt w w.heap.size 1 StrR v l):
  Calls Tryz.prog 73 #[v] w fun e w'=>e= .returned (.bool (riseB none l))/\Below w.heap.size w w':=by
 obtain⟨_,A,c,rfl,_⟩:=id hv;obtain⟨_,hl,ha⟩:=z1A hv;have HA:=I ha;have H1:=I (fun s=>z5m (l:=l) (s:=s));have H2:=I (fun k p s=>z6u (l:=l) (k:=k) (p:=p) (s:=s));have HE:=I (z7L (l:=l));have H0:Hid (riseB (prevK l 0) (l.drop 0)= riseB none l):=I rfl;have c7:(l.length:Int)<=9223372036854775807:=by omega
 clear ha hv;generalize riseB none l= res at*;go_enter Tryz.func73,Tryz.ntmps73;go_wp2;go_loopg [7] l.length (fun q x u=>∃ k:Nat,k+q= l.length/\x= .int .i64 k/\Below w.heap.size w u/\riseB (prevK l k) (l.drop k)= res);case atStart=>exact⟨0,by omega,rfl,Below.refl _ _,H0.o⟩
 case round=>
  obtain⟨k,hk,rfl,hb,O⟩:=hrel;have HR:=I O;have C:=I hb;clear O hb;cases gk with
  |zero=>
   obtain rfl:k= l.length:=by omega
   have c5: ¬ ((l.length:Int) <(l.length:Int)):=by omega
   have N:=I (HR.o.symm.trans HE.o);clear HR;go_wp2;go_ret;exact⟨z8 N.o.symm,C.o⟩
  |succ q=>
   have c8:(k:Int) <(l.length:Int):=by omega
   obtain⟨s,hs⟩:∃ s,l[k]?= some s:=⟨_,List.getElem?_eq_getElem (by omega)⟩;obtain⟨b,o,rfl,Y,hc⟩:=HA.o (by omega);have a5:=I (fun i x hx=>(hc i x hx).1);have a1:=I Y;have ds:=(C.o.cell (p:=⟨b,o+k,none⟩) Y).trans (hc k s hs).1;have K:=I (z4F s wr);have a3:=I hs;clear hc Y hs;rcases Nat.eq_zero_or_pos k with a4|a4
   ·subst a4
    have c4:wr.cell? ⟨b,o,none⟩= some (.string s):=ds;have b1:(0:Int) <(l.length:Int):=by omega
    have N:=I (HR.o.symm.trans (H1.o s a3.o));clear HR;generalize nameB s= nb at*;cases nb with
    |false=>
     have F:Hid (res= false):=I (N.o.trans (Bool.false_and _));clear N;go_wp2_with (go_at_call 59;refine zi K.o ?_;intro z g);go_ret;exact⟨z8 F.o.symm,(beT C.o g.o)⟩
    |true=>
     have F:=I (N.o.trans (Bool.true_and _));clear N;go_wp2_with (go_at_call 59;refine zi K.o ?_;intro z g);go_roundg q;case measure=>omega
     case rel=>exact⟨1,by omega,by go_num,(beT C.o g.o),F.o.symm⟩
   ·obtain⟨j,rfl⟩:∃ j,k= j+1:=⟨k - 1,by omega⟩
    obtain⟨p,hp⟩:∃ p,l[j]?= some p:=⟨_,List.getElem?_eq_getElem (by omega)⟩;have N:=I (HR.o.symm.trans (H2.o j p s hp a3.o));have a2:=I (a5.o j p hp);have b2:(0:Int) <((j+1:Nat):Int):=by omega
    have c6:(j:Int) <(l.length:Int):=by omega
    clear HR hp;generalize nameB s= nb at*;cases nb with
    |false=>
     have F:Hid (res= false):=I (N.o.trans (Bool.false_and _));clear N;go_wp2_with (go_at_call 59;refine zi K.o ?_;intro z g);go_ret;exact⟨z8 F.o.symm,(beT C.o g.o)⟩
    |true=>
     have F:=I (N.o.trans (Bool.true_and _));clear N;cases hlt3:Op.bytesLess p.toList s.toList with
     |false=>
      have X:Hid (res= false):=I (F.o.trans (by rw[hlt3];exact Bool.false_and _));go_wp2_with (go_at_call 59;refine K.o.mono ?_;rintro e z ⟨rfl,G⟩;have g:=I G;have dp:=(((beT C.o G).cell (p:=⟨b,o+j,none⟩) a1.o)).trans a2.o;clear G);go_ret;exact⟨z8 X.o.symm,(beT C.o g.o)⟩
     |true=>
      have X:=I (F.o.trans (by rw[hlt3,Bool.true_and]));go_wp2_with (go_at_call 59;refine K.o.mono ?_;rintro e z ⟨rfl,G⟩;have g:=I G;have dp:=(((beT C.o G).cell (p:=⟨b,o+j,none⟩) a1.o)).trans a2.o;clear G);go_roundg q;case measure=>omega
      case rel=>exact⟨j+2,by omega,by go_num,(beT C.o g.o),X.o.symm⟩
mutual
def cntV:VT->Nat->Nat
 | .mk _ _ _ _ _ its,n=>cntL its (n+1)
def cntL:List VT->Nat->Nat
 |[],n=>n
 |a::l,n=>if 500<=n then n else cntL l (cntV a n)
end
theorem z8D:∀ (l:List VT) (n:Nat),(∀ x∈l,∀ m,m < 500->cntV x m<=500)->n<=500->cntL l n<=500
 |[],n,_,h=>by rw[cntL];exact h
 |a::l,n,h,hn=>by
  rw[cntL]
  split
  ·exact hn
  ·exact z8D l _ (fun x hx=>h x (List.mem_cons_of_mem _ hx)) (h a (List.mem_cons_self ..) n (by omega))
theorem zdR (t:VT):∀ m,m < 500->cntV t m<=500:=by
 induction t using VT.ind with
 |h k n f s ns its ih=>exact fun m hm=>by rw[cntV];exact z8D its _ ih (by omega)
theorem zap {l:List VT} {k m:Nat} {x:VT} (h:l[k]?= some x):cntL (l.drop k) m= if 500<=m then m else cntL (l.drop (k+1)) (cntV x m):=by
 rw[z0c h,cntL]
theorem zcq {l:List VT} {m:Nat}:cntL (l.drop l.length) m= m:=by
 rw[List.drop_eq_nil_of_le (Nat.le_refl _),cntL]
theorem z8f:∀ (t:VT) (m:Nat) (cs:List Value) (p o:Nat) (w:World),m < 500->w.rangeAt p o cs->ValAt w w.heap.size cs t->
  Calls Tryz.prog 102 #[.pointer (some ⟨p,o,none⟩),.int .i64 m] w fun e w'=>e= .returned (.int .i64 (cntV t m:Nat))/\w'= w:=by
 intro t
 induction t using VT.ind with
 |h k n f s ns its ih=>
  intro m cs p o w hm hr hv;have IH:=I ih;obtain⟨vn,vi,rfl,_,_,_,_,_,_,hi⟩:=hv.inv;obtain⟨A,c,rfl,b4,hA⟩:=z1J hi;have HA:=I hA;have d5:=hr 5 _ rfl;have HS:=I (fun k m x=>zap (l:=its) (k:=k) (m:=m) (x:=x));have HE:=I (fun m=>zcq (l:=its) (m:=m));have O:=I (fun x m hm=>zdR x m hm);have H0:Hid (cntL (its.drop 0) (m+1)= cntV (.mk k n f s ns its) m):=I (by rw[cntV];rfl);have b6:(m:Int) < 500:=by omega
  clear ih hi hA hr hv;generalize cntV (.mk k n f s ns its) m= res at*;go_enter Tryz.func102,Tryz.ntmps102;go_wp2;go_loopg [1,13] its.length (fun q n x u=>∃ (j m:Nat),j+q= its.length/\x= .int .i64 j/\n= .int .i64 m/\m<=500/\u= w/\cntL (its.drop j) m= res);case atStart=>exact⟨0,m+1,by omega,rfl,by go_num,by omega,rfl,H0.o⟩
  case round=>
   obtain⟨j,m,hj,rfl,rfl,b7,rfl,g⟩:=hrel;have HR:=I g;clear g;cases gk with
   |zero=>
    obtain rfl:j= its.length:=by omega
    have b3: ¬ ((its.length:Int) <(its.length:Int)):=by omega
    have K:=I (HR.o.symm.trans (HE.o m));go_wp2;go_ret;exact⟨by rw[K.o];rfl,rfl⟩
   |succ q=>
    have b5:(j:Int) <(its.length:Int):=by omega
    obtain⟨x,N⟩:∃ x,its[j]?= some x:=⟨_,List.getElem?_eq_getElem (by omega)⟩;obtain⟨b,o',rfl,b2,X⟩:=HA.o (by omega);obtain⟨ks,F,G⟩:=X j x N;have K:=I (HR.o.symm.trans (HS.o j m x N));by_cases h5:500<=m
    ·have C:=I (K.o.trans (if_pos h5))
     have t1:(500:Int)<=(m:Int):=by omega
     clear X F G N K;go_wp2;go_ret;exact⟨by rw[C.o];rfl,rfl⟩
    ·have C:=I (K.o.trans (if_neg h5))
     have t1: ¬ ((500:Int)<=(m:Int)):=by omega
     have HC:=I (IH.o x (List.mem_of_getElem? N) m ks b (o'+j*6) wr (by omega) F G);have Y:=O.o x m (by omega);clear X F G N K h5;go_wp2_with (go_at_call 102;refine HC.o.mono ?_;rintro e z ⟨rfl,rfl⟩);go_roundg q;case measure=>omega
     case rel=>exact⟨j+1,_,by omega,by go_num,rfl,Y,rfl,C.o.symm⟩
theorem zb9 (t:VT) (cs:List Value) (w:World) (hv:ValAt w w.heap.size cs t):Calls Tryz.prog 79 #[.agg ⟨cs⟩] w fun e w'=>e= .returned (.int .i64 (cntV t 0:Nat))/\Below w.heap.size w w':=by
 have g:=I (zc w (.cells ⟨cs⟩ 52));have A:=I (z8f t 0 cs w.heap.size 0 (w.alloc (.cells ⟨cs⟩ 52)) (by decide) (zL w cs 52) (hv.next g.o));go_enter Tryz.func79,Tryz.ntmps79;go_wp2_with (go_at_call 102;refine A.o.mono ?_;rintro e z ⟨rfl,rfl⟩);go_ret;exact⟨rfl,g.o⟩
end
section
open Go Go.RowKit
mutual
def zw:VT->Nat->Bool
 | .mk k n f s ns its,d=>
  if 12 < d then false
  else if k= 1 then bareB true false false false n f s ns.length its.length && (n / 2 ==0)
  else if k= 2 then bareB true false false false n f s ns.length its.length
  else if k= 3 then bareB false true false false n f s ns.length its.length
  else if k= 4 then bareB false false true false n f s ns.length its.length && decide (s.size<=200)
  else if k= 6 then(ns.length ==its.length) && (riseB none ns && (bareB false false false true n f s ns.length its.length && zN its (d+1)))
  else if k= 5 then bareB false false false true n f s ns.length its.length && ((ns.length ==0) && zN its (d+1))
  else false
def zN:List VT->Nat->Bool
 |[],_=>true
 |a::l,d=>zw a d && zN l d
end
theorem z4s {l:List VT} {k d:Nat} {x:VT} (h:l[k]?= some x):zN (l.drop k) d=(zw x d && zN (l.drop (k+1)) d):=by
 rw[z0c h,zN]
theorem z5j {l:List VT} {d:Nat}:zN (l.drop l.length) d= true:=by
 rw[List.drop_eq_nil_of_le (Nat.le_refl _),zN]
theorem zbj:∀ (t:VT) (d:Nat) (cs:List Value) (p o:Nat) (w:World),d<=13->p < w.heap.size->w.rangeAt p o cs->ValAt w w.heap.size cs t->
  Calls Tryz.prog 80 #[.pointer (some ⟨p,o,none⟩),.int .i64 d] w fun e w'=>e= .returned (.bool (zw t d))/\Below w.heap.size w w':=by
 intro t
 induction t using VT.ind with
 |h k n f s ns its ih=>
  intro d cs p o w hd hp hr hv;have IH:=I ih;obtain⟨vn,vi,rfl,_,_,hf,_,hn,_,hi⟩:=hv.inv;obtain⟨_,NA,nc,rfl,_⟩:=id hn;obtain⟨A,c,rfl,f4,hA⟩:=z1J hi;have f6:=hn.1;have HF:=I (wf64 hf);have HN:=I hn;have HA:=I hA;have G:=I hr;have HP:=I hp;have d0:w.cell? ⟨p,o,none⟩= some (.int .i64 k):=hr 0 _ rfl;have d1:=hr 1 _ rfl;have d3:=hr 3 _ rfl;have d4:=hr 4 _ rfl;have d5:=hr 5 _ rfl;have HO:Hid (zw (.mk k n f s ns its) d= if 12 < d then false
   else if k= 1 then bareB true false false false n f s ns.length its.length && (n / 2 ==0)
   else if k= 2 then bareB true false false false n f s ns.length its.length
   else if k= 3 then bareB false true false false n f s ns.length its.length
   else if k= 4 then bareB false false true false n f s ns.length its.length && decide (s.size<=200)
   else if k= 6 then(ns.length ==its.length) && (riseB none ns && (bareB false false false true n f s ns.length its.length && zN its (d+1)))
   else if k= 5 then bareB false false false true n f s ns.length its.length && ((ns.length ==0) && zN its (d+1))
   else false):=I (by rw[zw])
  generalize Y:zw (.mk k n f s ns its) d= res at*;clear ih hr hv hn hi hA hf hp Y;by_cases hdeep:12 < d
  ·have O:=I (HO.o.trans (if_pos hdeep))
   have t1:(12:Int) <(d:Int):=by omega
   clear HO hdeep;go_enter Tryz.func80,Tryz.ntmps80;go_wp2;go_ret;exact⟨z8 O.o.symm,Below.refl _ w⟩
  have t1: ¬ ((12:Int) <(d:Int)):=by omega
  have b0:=I (HO.o.trans (if_neg hdeep));clear HO;by_cases k1:k= 1
  ·subst k1
   have O:=I (b0.o.trans (if_pos rfl));clear b0;have K:=I (fun w' (h:w'.rangeAt p o [(.int .i64 1),.int .i64 n,.float .f64 f,.string s,.slice NA ns.length nc,.slice A its.length c])=>zac p o 1 n f s NA A ns.length its.length nc c w' HF.o h);generalize bareB true false false false n f s ns.length its.length= bb at*;cases bb with
   |false=>
    have g:Hid (res= false):=I (O.o.trans (Bool.false_and _));clear O d3 d4 d5;go_enter Tryz.func80,Tryz.ntmps80;go_wp2_with (go_at_call 103;refine(K.o _ G.o).mono ?_;rintro e z ⟨rfl,C⟩;obtain rfl:=C.symm);go_ret;exact⟨z8 g.o.symm,Below.refl _ w⟩
   |true=>
    have g:Hid (res=(n / 2 ==0)):=I (O.o.trans (Bool.true_and _));clear O d3 d4 d5;go_enter Tryz.func80,Tryz.ntmps80;go_wp2_with (go_at_call 103;refine(K.o _ G.o).mono ?_;rintro e z ⟨rfl,C⟩;obtain rfl:=C.symm);go_ret;exact⟨z8 g.o.symm,Below.refl _ w⟩
  have b1:=I (b0.o.trans (if_neg k1));clear b0;by_cases k2:k= 2
  ·subst k2
   have O:=I (b1.o.trans (if_pos rfl));clear b1;have K:=I (fun w' (h:w'.rangeAt p o [(.int .i64 2),.int .i64 n,.float .f64 f,.string s,.slice NA ns.length nc,.slice A its.length c])=>zac p o 2 n f s NA A ns.length its.length nc c w' HF.o h);generalize bareB true false false false n f s ns.length its.length= bb at*;clear d1 d3 d4 d5;go_enter Tryz.func80,Tryz.ntmps80;go_wp2_with (go_at_call 103;refine(K.o _ G.o).mono ?_;rintro e z ⟨rfl,C⟩;obtain rfl:=C.symm);go_ret;exact⟨z8 O.o.symm,Below.refl _ w⟩
  have b2:=I (b1.o.trans (if_neg k2));clear b1;by_cases k3:k= 3
  ·subst k3
   have O:=I (b2.o.trans (if_pos rfl));clear b2;have K:=I (fun w' (h:w'.rangeAt p o [(.int .i64 3),.int .i64 n,.float .f64 f,.string s,.slice NA ns.length nc,.slice A its.length c])=>zeF p o 3 n f s NA A ns.length its.length nc c w' HF.o h);generalize bareB false true false false n f s ns.length its.length= bb at*;clear d1 d3 d4 d5;go_enter Tryz.func80,Tryz.ntmps80;go_wp2_with (go_at_call 103;refine(K.o _ G.o).mono ?_;rintro e z ⟨rfl,C⟩;obtain rfl:=C.symm);go_ret;exact⟨z8 O.o.symm,Below.refl _ w⟩
  have b3:=I (b2.o.trans (if_neg k3));clear b2;by_cases k4:k= 4
  ·subst k4
   have O:=I (b3.o.trans (if_pos rfl));clear b3;have K:=I (fun w' (h:w'.rangeAt p o [(.int .i64 4),.int .i64 n,.float .f64 f,.string s,.slice NA ns.length nc,.slice A its.length c])=>zeG p o 4 n f s NA A ns.length its.length nc c w' HF.o h);generalize bareB false false true false n f s ns.length its.length= bb at*;cases bb with
   |false=>
    have g:Hid (res= false):=I (O.o.trans (Bool.false_and _));clear O d1 d4 d5;go_enter Tryz.func80,Tryz.ntmps80;go_wp2_with (go_at_call 103;refine(K.o _ G.o).mono ?_;rintro e z ⟨rfl,C⟩;obtain rfl:=C.symm);go_ret;exact⟨z8 g.o.symm,Below.refl _ w⟩
   |true=>
    have g:Hid (res= decide (s.size<=200)):=I (O.o.trans (Bool.true_and _));clear O d1 d4 d5;by_cases F:s.size<=200
    ·have t2:(s.size:Int)<=200:=by omega
     have X:=I (g.o.trans (decide_eq_true F));go_enter Tryz.func80,Tryz.ntmps80;go_wp2_with (go_at_call 103;refine(K.o _ G.o).mono ?_;rintro e z ⟨rfl,C⟩;obtain rfl:=C.symm);go_ret;exact⟨z8 X.o.symm,Below.refl _ w⟩
    ·have t2:decide ((s.size:Int)<=200)= false:=decide_eq_false (by omega)
     have f7:(200:Int) <(s.size:Int):=by omega
     have X:=I (g.o.trans (decide_eq_false F));go_enter Tryz.func80,Tryz.ntmps80;go_wp2_with (go_at_call 103;refine(K.o _ G.o).mono ?_;rintro e z ⟨rfl,C⟩;obtain rfl:=C.symm);go_ret;exact⟨z8 X.o.symm,Below.refl _ w⟩
  have a3:=I (b3.o.trans (if_neg k4));clear b3;by_cases k5:k= 5
  ·subst k5
   have O:=I (a3.o.trans ((if_neg (by decide)).trans (if_pos rfl)));clear a3;have K:=I (fun w' (h:w'.rangeAt p o [(.int .i64 5),.int .i64 n,.float .f64 f,.string s,.slice NA ns.length nc,.slice A its.length c])=>zad p o 5 n f s NA A ns.length its.length nc c w' HF.o h);generalize bareB false false false true n f s ns.length its.length= bb at*;cases bb with
   |false=>
    have g:Hid (res= false):=I (O.o.trans (Bool.false_and _));clear O d1 d3;go_enter Tryz.func80,Tryz.ntmps80;go_wp2_with (go_at_call 103;refine(K.o _ G.o).mono ?_;rintro e z ⟨rfl,C⟩;obtain rfl:=C.symm);go_ret;exact⟨z8 g.o.symm,Below.refl _ w⟩
   |true=>
    have g:=I (O.o.trans (Bool.true_and _));clear O d1 d3;by_cases hnz:ns.length= 0
    ·have b8:Hid (res= zN its (d+1)):=I (g.o.trans (by rw[hnz];exact Bool.true_and _))
     rw[hnz] at G K d4;clear g hnz HN;go_enter Tryz.func80,Tryz.ntmps80;go_wp2_with (go_at_call 103;refine(K.o _ G.o).mono ?_;rintro e z ⟨rfl,C⟩;obtain rfl:=C.symm);go_loopg [90] its.length (fun q x u=>∃ j:Nat,j+q= its.length/\x= .int .i64 j/\Below w.heap.size w u/\zN (its.drop j) (d+1)= res);case atStart=>exact⟨0,by omega,rfl,Below.refl _ _,b8.o.symm⟩
     case round=>
      obtain⟨j,hj,rfl,hb,Y⟩:=hrel;have HR:=I Y;have N:=I hb;clear Y hb;cases gk with
      |zero=>
       obtain rfl:j= its.length:=by omega
       have e1: ¬ ((its.length:Int) <(its.length:Int)):=by omega
       have b9:=I (HR.o.symm.trans z5j);go_wp2;go_ret;exact⟨z8 b9.o.symm,N.o⟩
      |succ q=>
       have e2:(j:Int) <(its.length:Int):=by omega
       obtain⟨x,hx⟩:∃ x,its[j]?= some x:=⟨_,List.getElem?_eq_getElem (by omega)⟩;obtain⟨b,o',rfl,a6,hc⟩:=HA.o (by omega);obtain⟨ks,a8,a9⟩:=hc j x hx;have a1:=I (HR.o.symm.trans (z4s hx));have d9:=(N.o.cell (p:=⟨p,o+5,none⟩) HP.o).trans (G.o 5 _ rfl);have HC:=I (IH.o x (List.mem_of_getElem? hx) (d+1) ks b (o'+j*6) wr (by omega) (Nat.lt_of_lt_of_le a6 N.o.size) (zb a8 N.o a6) (a9.next N.o));have a7:((d+1:Nat):Int)=(d:Int)+1:=by omega
       rw[a7] at HC;clear hc a8 a9 hx a7;generalize zw x (d+1)= rx at*;cases rx with
       |true=>
        have g:=I (a1.o.trans (Bool.true_and _));clear a1;go_wp2_with (go_at_call 80;refine zi HC.o ?_;intro z a2);go_roundg q;case measure=>omega
        case rel=>exact⟨j+1,by omega,by go_num,(beT N.o a2.o),g.o.symm⟩
       |false=>
        have g:Hid (res= false):=I (a1.o.trans (Bool.false_and _));clear a1;go_wp2_with (go_at_call 80;refine zi HC.o ?_;intro z a2);go_ret;exact⟨z8 g.o.symm,(beT N.o a2.o)⟩
    ·have X:Hid (res= false):=I (g.o.trans (by rw[beq_eq_false_iff_ne.2 hnz];exact Bool.false_and _))
     have t2:(0:Int) <(ns.length:Int):=by omega
     clear g hnz;go_enter Tryz.func80,Tryz.ntmps80;go_wp2_with (go_at_call 103;refine(K.o _ G.o).mono ?_;rintro e z ⟨rfl,C⟩;obtain rfl:=C.symm);go_ret;exact⟨z8 X.o.symm,Below.refl _ w⟩
  by_cases k6:k= 6
  ·subst k6
   have O:=I (a3.o.trans (if_pos rfl));clear a3;have K:=I (fun w' (h:w'.rangeAt p o [(.int .i64 6),.int .i64 n,.float .f64 f,.string s,.slice NA ns.length nc,.slice A its.length c])=>zad p o 6 n f s NA A ns.length its.length nc c w' HF.o h);have c7:=I (fun z (hz:Below w.heap.size w z)=>z5n (.slice NA ns.length nc) ns z ((HN.o.below hz fun _ _ _ h=>h).more hz.size));by_cases hlen:ns.length= its.length
   ·have g:=I (O.o.trans (by rw[show(ns.length ==its.length)= true from by rw[hlen];exact beq_self_eq_true _,Bool.true_and]))
    have t2:((ns.length:Int) !=(its.length:Int))= false:=by rw[hlen];exact bne_self_eq_false _
    clear O hlen;generalize riseB none ns= rb at*;cases rb with
    |false=>
     have X:Hid (res= false):=I (g.o.trans (Bool.false_and _));clear g d1 d3;go_enter Tryz.func80,Tryz.ntmps80;go_upto_region 14 with (fail);clear d0 d4 d5;refine zr [(0,true),(1,true),(2,true),(3,true),(4,true),(5,true),(6,true),(7,true),(8,true),(9,true),(10,true),(11,true),(12,true),(13,true),(14,true),(15,true),(16,false),(17,true),(18,true)] (fun z=>Below w.heap.size w z) (by kernel_rfl) (by intro c a d v w h;cases d<;>exact h) ?_;have F:Below w.heap.size w w.drew:=(Below.refl _ w).drew;refine zf 48 (.pointer (some ⟨p,o,none⟩)) rfl rfl rfl rfl F rfl ?_;go_frame;refine z7 49 (.pointer (some ⟨p,o,none⟩)) rfl rfl rfl F (fun z hz=>by go_simp) ?_;go_frame;refine z7 50 (.pointer (some ⟨p,o+4,none⟩)) rfl rfl rfl F (fun z hz=>by go_simp) ?_;go_frame;refine z7 51 (.slice NA ns.length nc) rfl rfl rfl F (fun z hz=>by have dd:=(hz.cell (p:=⟨p,o+4,none⟩) HP.o).trans (G.o 4 _ rfl);go_simp) ?_;go_frame;refine z7 52 (.int .i64 ns.length) rfl rfl rfl F (fun z hz=>by go_simp) ?_;go_frame;refine zf 53 (.pointer (some ⟨p,o,none⟩)) rfl rfl rfl rfl F rfl ?_;go_frame;refine z7 54 (.pointer (some ⟨p,o,none⟩)) rfl rfl rfl F (fun z hz=>by go_simp) ?_;go_frame;refine z7 55 (.pointer (some ⟨p,o+5,none⟩)) rfl rfl rfl F (fun z hz=>by go_simp) ?_;go_frame;refine z7 56 (.slice A its.length c) rfl rfl rfl F (fun z hz=>by have dd:=(hz.cell (p:=⟨p,o+5,none⟩) HP.o).trans (G.o 5 _ rfl);go_simp) ?_;go_frame;refine z7 57 (.int .i64 its.length) rfl rfl rfl F (fun z hz=>by go_simp) ?_;go_frame;refine z7 58 (.bool false) rfl rfl rfl F (fun z hz=>by go_simp) ?_;go_frame;refine zf 59 (.bool false) rfl rfl rfl rfl F rfl ?_;go_frame;refine zf 60 (.pointer (some ⟨p,o,none⟩)) rfl rfl rfl rfl F rfl ?_;go_frame;refine z7 61 (.pointer (some ⟨p,o,none⟩)) rfl rfl rfl F (fun z hz=>by go_simp) ?_;go_frame;refine z7 62 (.pointer (some ⟨p,o+4,none⟩)) rfl rfl rfl F (fun z hz=>by go_simp) ?_;go_frame;refine z7 63 (.slice NA ns.length nc) rfl rfl rfl F (fun z hz=>by have dd:=(hz.cell (p:=⟨p,o+4,none⟩) HP.o).trans (G.o 4 _ rfl);go_simp) ?_;go_frame;refine zv 64 73 Tryz.func73 (by kernel_rfl) [.slice NA ns.length nc] rfl rfl rfl rfl rfl ?_;refine(c7.o _ F).mono ?_;rintro e z1 ⟨rfl,a5⟩;have a0:Below w.heap.size w z1:=(beT F a5);refine⟨.bool false,rfl,a0,?_⟩;clear a5;go_frame;refine z7 65 (.bool true) rfl rfl rfl a0 (fun z hz=>by go_simp) ?_;go_frame;refine zC (some 66) (.bool true) _ _ _ _ false rfl rfl rfl rfl (by exact wA rfl) a0 rfl ?_;go_frame;refine zF ?_;have a4:=I a0;clear F a0;go_wp2;go_ret;exact⟨z8 X.o.symm,a4.o⟩
    |true=>
     have X:=I (g.o.trans (Bool.true_and _));clear g d1 d3;generalize bareB false false false true n f s ns.length its.length= bb at*;go_enter Tryz.func80,Tryz.ntmps80;go_upto_region 14 with (fail);clear d0 d4 d5;refine zr [(0,true),(1,true),(2,true),(3,true),(4,true),(5,true),(6,true),(7,true),(8,true),(9,true),(10,true),(11,true),(12,true),(13,true),(14,true),(15,true),(16,false),(17,true),(18,true)] (fun z=>Below w.heap.size w z) (by kernel_rfl) (by intro c a d v w h;cases d<;>exact h) ?_;have F:Below w.heap.size w w.drew:=(Below.refl _ w).drew;refine zf 48 (.pointer (some ⟨p,o,none⟩)) rfl rfl rfl rfl F rfl ?_;go_frame;refine z7 49 (.pointer (some ⟨p,o,none⟩)) rfl rfl rfl F (fun z hz=>by go_simp) ?_;go_frame;refine z7 50 (.pointer (some ⟨p,o+4,none⟩)) rfl rfl rfl F (fun z hz=>by go_simp) ?_;go_frame;refine z7 51 (.slice NA ns.length nc) rfl rfl rfl F (fun z hz=>by have dd:=(hz.cell (p:=⟨p,o+4,none⟩) HP.o).trans (G.o 4 _ rfl);go_simp) ?_;go_frame;refine z7 52 (.int .i64 ns.length) rfl rfl rfl F (fun z hz=>by go_simp) ?_;go_frame;refine zf 53 (.pointer (some ⟨p,o,none⟩)) rfl rfl rfl rfl F rfl ?_;go_frame;refine z7 54 (.pointer (some ⟨p,o,none⟩)) rfl rfl rfl F (fun z hz=>by go_simp) ?_;go_frame;refine z7 55 (.pointer (some ⟨p,o+5,none⟩)) rfl rfl rfl F (fun z hz=>by go_simp) ?_;go_frame;refine z7 56 (.slice A its.length c) rfl rfl rfl F (fun z hz=>by have dd:=(hz.cell (p:=⟨p,o+5,none⟩) HP.o).trans (G.o 5 _ rfl);go_simp) ?_;go_frame;refine z7 57 (.int .i64 its.length) rfl rfl rfl F (fun z hz=>by go_simp) ?_;go_frame;refine z7 58 (.bool false) rfl rfl rfl F (fun z hz=>by go_simp) ?_;go_frame;refine zf 59 (.bool false) rfl rfl rfl rfl F rfl ?_;go_frame;refine zf 60 (.pointer (some ⟨p,o,none⟩)) rfl rfl rfl rfl F rfl ?_;go_frame;refine z7 61 (.pointer (some ⟨p,o,none⟩)) rfl rfl rfl F (fun z hz=>by go_simp) ?_;go_frame;refine z7 62 (.pointer (some ⟨p,o+4,none⟩)) rfl rfl rfl F (fun z hz=>by go_simp) ?_;go_frame;refine z7 63 (.slice NA ns.length nc) rfl rfl rfl F (fun z hz=>by have dd:=(hz.cell (p:=⟨p,o+4,none⟩) HP.o).trans (G.o 4 _ rfl);go_simp) ?_;go_frame;refine zv 64 73 Tryz.func73 (by kernel_rfl) [.slice NA ns.length nc] rfl rfl rfl rfl rfl ?_;refine(c7.o _ F).mono ?_;rintro e z1 ⟨rfl,a5⟩;have a0:Below w.heap.size w z1:=(beT F a5);refine⟨.bool true,rfl,a0,?_⟩;clear a5;go_frame;refine z7 65 (.bool false) rfl rfl rfl a0 (fun z hz=>by go_simp) ?_;go_frame;refine zC (some 66) (.bool false) _ _ _ _ false rfl rfl rfl rfl (by exact wA rfl) a0 rfl ?_;go_frame;refine zF ?_;have a4:=I a0;clear F a0;have b5:=I (zb G.o a4.o HP.o);have e0:z1.cell? ⟨p,o,none⟩= some (.int .i64 6):=b5.o 0 _ rfl;have e5:=b5.o 5 _ rfl;cases bb with
     |false=>
      have d8:Hid (res= false):=I (X.o.trans (Bool.false_and _));go_wp2_with (go_at_call 103;refine(K.o _ b5.o).mono ?_;rintro e z ⟨rfl,C⟩;obtain rfl:=C.symm);go_ret;exact⟨z8 d8.o.symm,a4.o⟩
     |true=>
      have b8:Hid (res= zN its (d+1)):=I (X.o.trans (Bool.true_and _));clear X;go_wp2_with (go_at_call 103;refine(K.o _ b5.o).mono ?_;rintro e z ⟨rfl,C⟩;obtain rfl:=C.symm);clear e0 e5;go_loopg [90] its.length (fun q x u=>∃ j:Nat,j+q= its.length/\x= .int .i64 j/\Below w.heap.size w u/\zN (its.drop j) (d+1)= res);case atStart=>exact⟨0,by omega,rfl,a4.o,b8.o.symm⟩
      case round=>
       obtain⟨j,hj,rfl,hb,Y⟩:=hrel;have HR:=I Y;have N:=I hb;clear Y hb;cases gk with
       |zero=>
        obtain rfl:j= its.length:=by omega
        have e1: ¬ ((its.length:Int) <(its.length:Int)):=by omega
        have b9:=I (HR.o.symm.trans z5j);go_wp2;go_ret;exact⟨z8 b9.o.symm,N.o⟩
       |succ q=>
        have e2:(j:Int) <(its.length:Int):=by omega
        obtain⟨x,hx⟩:∃ x,its[j]?= some x:=⟨_,List.getElem?_eq_getElem (by omega)⟩;obtain⟨b,o',rfl,a6,hc⟩:=HA.o (by omega);obtain⟨ks,a8,a9⟩:=hc j x hx;have a1:=I (HR.o.symm.trans (z4s hx));have d9:=(N.o.cell (p:=⟨p,o+5,none⟩) HP.o).trans (G.o 5 _ rfl);have HC:=I (IH.o x (List.mem_of_getElem? hx) (d+1) ks b (o'+j*6) wr (by omega) (Nat.lt_of_lt_of_le a6 N.o.size) (zb a8 N.o a6) (a9.next N.o));have a7:((d+1:Nat):Int)=(d:Int)+1:=by omega
        rw[a7] at HC;clear hc a8 a9 hx a7;generalize zw x (d+1)= rx at*;cases rx with
        |true=>
         have g:=I (a1.o.trans (Bool.true_and _));clear a1;go_wp2_with (go_at_call 80;refine zi HC.o ?_;intro z a2);go_roundg q;case measure=>omega
         case rel=>exact⟨j+1,by omega,by go_num,(beT N.o a2.o),g.o.symm⟩
        |false=>
         have g:Hid (res= false):=I (a1.o.trans (Bool.false_and _));clear a1;go_wp2_with (go_at_call 80;refine zi HC.o ?_;intro z a2);go_ret;exact⟨z8 g.o.symm,(beT N.o a2.o)⟩
   ·have g:Hid (res= false):=I (O.o.trans (by rw[beq_eq_false_iff_ne.2 hlen];exact Bool.false_and _))
    have t2:((ns.length:Int) !=(its.length:Int))= true:=by rw[bne_iff_ne];omega
    clear O hlen d1 d3;go_enter Tryz.func80,Tryz.ntmps80;go_wp2;go_quiet (fail);go_wp2;go_ret;exact⟨z8 g.o.symm,zj (Below.refl _ w) _⟩
  have O:=I (a3.o.trans ((if_neg k6).trans (if_neg k5)));have s1:(k ==1)= false:=by simpa using k1
  have s2:(k ==2)= false:=by simpa using k2
  have s3:(k ==3)= false:=by simpa using k3
  have s4:(k ==4)= false:=by simpa using k4
  have s5:(k ==5)= false:=by simpa using k5
  have s6:(k ==6)= false:=by simpa using k6
  clear a3 d1 d3 d4 d5 k1 k2 k3 k4 k5 k6;go_enter Tryz.func80,Tryz.ntmps80;go_wp2;go_ret;exact⟨z8 O.o.symm,Below.refl _ w⟩
theorem z1s (t:VT) (cs:List Value) (w:World) (hv:ValAt w w.heap.size cs t):Calls Tryz.prog 61 #[.agg ⟨cs⟩] w fun e w'=>e= .returned (.bool (decide (cntV t 0<=200) && zw t 1))/\Below w.heap.size w w':=by
 have A:=I (zc w (.cells ⟨cs⟩ 52));have F:=I (zV w (.cells ⟨cs⟩ 52));have C:=I (zL w cs 52);have N:=I (zp hv);have X:=I (hv.next A.o);have O:=I (zb9 t cs (w.alloc (.cells ⟨cs⟩ 52)) X.o);clear hv;go_enter Tryz.func61,Tryz.ntmps61;go_upto_region 1 with (fail);generalize w.alloc (.cells ⟨cs⟩ 52)= W at*;by_cases hc:cntV t 0<=200
 ·have t1:((cntV t 0:Nat):Int)<=200:=by omega
  have K:Hid ((decide (cntV t 0<=200) && zw t 1)= zw t 1):=I (by rw[decide_eq_true hc];exact Bool.true_and _);go_wp2_with (first|((with_reducible refine za tyK52 _ rfl ?_ C.o rfl N.o.1 ?_);exact wA rfl)|(go_at_call 79;refine zi O.o ?_;intro z g)|(go_at_call 80;refine zi (zbj t 1 cs w.heap.size 0 _ (by decide) (Nat.lt_of_lt_of_le F.o g.o.size) (zb C.o g.o F.o) (X.o.next g.o)) ?_;intro z2 G));go_ret;exact⟨z8 K.o.symm,A.o.trans ((beT g.o G.o).mono A.o.size)⟩
 ·have t1: ¬ (((cntV t 0:Nat):Int)<=200):=by omega
  have K:Hid ((decide (cntV t 0<=200) && zw t 1)= false):=I (by rw[decide_eq_false hc];exact Bool.false_and _);go_wp2_with (first|((with_reducible refine za tyK52 _ rfl ?_ C.o rfl N.o.1 ?_);exact wA rfl)|(go_at_call 79;refine zi O.o ?_;intro z g));go_ret;first|exact⟨z8 K.o.symm,(beT A.o g.o)⟩|exact⟨rfl,(beT A.o g.o)⟩
end
section
open Go
def zo (f:Nat):Nat:=if nanB f= true then 9221120237041090560 else f
theorem z97 {f:Nat} (h:nanB f= true):cmpF (zo f) f= 0:=by
 have h1:nanB 9221120237041090560= true:=by decide +kernel
 unfold zo;rw[if_pos h];unfold cmpF;rw[h1,h];rfl
theorem z8a (f:Nat):cmpF (zo f) f= 0:=by
 by_cases h:nanB f= true
 ·exact z97 h
 ·unfold zo
  rw[if_neg h];exact cmpF_good.refl f
theorem z8b (f:Nat):(cmpF (zo f) 0 ==0)=(cmpF f 0 ==0):=by
 have h1:=z8a f;have h2:=cmpF_good.anti (zo f) f;have t1:=cmpF_good.trans (zo f) f 0;have t2:=cmpF_good.trans f (zo f) 0;have t3:=cmpF_good.trans 0 (zo f) f;have t4:=cmpF_good.trans 0 f (zo f);have a1:=cmpF_good.anti (zo f) 0;have a2:=cmpF_good.anti f 0;rw[Bool.eq_iff_iff,beq_iff_eq,beq_iff_eq];constructor<;>intro h<;>omega
mutual
def z0d:VT->VT
 | .mk k n f s ns its=> .mk k n (zo f) s ns (z0E its)
def z0E:List VT->List VT
 |[]=>[]
 |a::l=>z0d a::z0E l
end
theorem z2X:∀ l:List VT,z0E l= l.map z0d
 |[]=>by rw[z0E];rfl
 |a::l=>by rw[z0E,z2X l];rfl
theorem z2W (l:List VT):(z0E l).length= l.length:=by rw[z2X,List.length_map]
theorem z86 (a b c d:Bool) (n:Int) (f:Nat) (s:ByteArray) (x y:Nat):bareB a b c d n (zo f) s x y= bareB a b c d n f s x y:=by
 unfold bareB;rw[z8b]
theorem z3O:∀ (l:List VT) (d:Nat),(∀ x∈l,∀ d,zw (z0d x) d= zw x d)->zN (z0E l) d= zN l d
 |[],d,_=>by rw[z0E]
 |a::l,d,h=>by
  rw[z0E,zN,zN,h a (List.mem_cons_self ..),z3O l d fun x hx=>h x (List.mem_cons_of_mem _ hx)]
theorem z8d (t:VT):∀ d,zw (z0d t) d= zw t d:=by
 induction t using VT.ind with
 |h k n f s ns its ih=>
  intro d;rw[z0d,zw,zw];simp only[z86,z2W,z3O its _ ih]
theorem z4Q:∀ (l:List VT) (m:Nat),(∀ x∈l,∀ m,cntV (z0d x) m= cntV x m)->cntL (z0E l) m= cntL l m
 |[],m,_=>by rw[z0E]
 |a::l,m,h=>by
  rw[z0E,cntL,cntL,h a (List.mem_cons_self ..)]
  split
  ·rfl
  ·exact z4Q l _ fun x hx=>h x (List.mem_cons_of_mem _ hx)
theorem z8c (t:VT):∀ m,cntV (z0d t) m= cntV t m:=by
 induction t using VT.ind with
 |h k n f s ns its ih=>
  intro m;rw[z0d,cntV,cntV];exact z4Q its _ ih
end
section
open Go Go.RowKit
def Kept (p:Nat->Prop) (w:World) (cs:List Value) (t:VT):Prop:=ValAt (only w p) w.heap.size cs t
theorem Kept.val {p:Nat->Prop} {w:World} {cs:List Value} {t:VT} (h:Kept p w cs t):ValAt w w.heap.size cs t:=ValAt.cells h fun a v hv=>(zu.1 hv).2
theorem Kept.to {p q:Nat->Prop} {w w':World} {cs:List Value} {t:VT} (h:Kept p w cs t) (hb:∀ b,p b->b < w.heap.size->q b/\w'.heap[b]?= w.heap[b]?) (hs:w.heap.size<=w'.heap.size):Kept q w' cs t:=
 (ValAt.cells h (z42 hb)).more hs
abbrev zU:= {ks:List Value // ks.length= 6}
def enc6 (k:zU):List Value:=k.1
theorem z0J (k:zU):(enc6 k).length= 6:=k.2
structure CanInv (TV:TypeId) (W u:World) (v:Value) (l:List VT) (i:Nat) (KL:List zU):Prop where
 own:OwnSl TV 6 enc6 u W.heap.size v KL
 len:KL.length= i
 bel:Below W.heap.size W u
 els:∀ (j:Nat) k x,KL[j]?= some k->l[j]?= some x->Kept (fun b=>W.heap.size<=b/\some b≠v.ownBlock) u k.1 (z0d x)
theorem CanInv.start (TV:TypeId) (W:World) (l:List VT):CanInv TV W W (.slice none 0 0) l 0 []:=⟨OwnSl.nil _ _,rfl,Below.refl _ _,fun j k x hk _=>by cases hk⟩
theorem CanInv.next {TV:TypeId} {W u u5 u6 u7 u8:World} {v v':Value} {l:List VT} {i:Nat} {KL:List zU} (h:CanInv TV W u v l i KL) (h5:Below u.heap.size u u5) (h6:Below u5.heap.size u5 u6) (h7:Below u6.heap.size u6 u7) {k:zU} {x:VT} (hx:l[i]?= some x)
  (hk:Kept (fun b=>u5.heap.size<=b) u6 k.1 (z0d x)) (hown:OwnSl TV 6 enc6 u8 W.heap.size v' (KL ++ [k])) (hg:u7.grownBy u8 v.ownBlock) (hb:v'.ownBlock= v.ownBlock\/v'.ownBlock= some u7.heap.size):
  CanInv TV W u8 v' l (i+1) (KL ++ [k]):=by
 have h57:=h5.trans ((beT h6 h7).mono h5.size);have A:∀ b,b < u.heap.size->some b≠v.ownBlock->some b≠v'.ownBlock/\u8.heap[b]?= u.heap[b]?:=fun b hlt g=>by
  have e1:=h57.block b hlt;have e2:=hg.block b (Nat.lt_of_lt_of_le hlt h57.size) g;refine⟨?_,e2.trans e1⟩;rcases hb with hb|hb
  ·rw[hb];exact g
  ·rw[hb]
   intro e;injection e with e;have:=h57.size;omega
 have C:∀ b,u5.heap.size<=b->b < u6.heap.size->some b≠v'.ownBlock/\u8.heap[b]?= u6.heap[b]?:=fun b hge hlt=>by
  have g:some b≠v.ownBlock:=fun e=>by
   have:=z0z h.own e.symm;have:=h5.size;omega
  have e1:=h7.block b hlt;have e2:=hg.block b (Nat.lt_of_lt_of_le hlt h7.size) g;refine⟨?_,e2.trans e1⟩;rcases hb with hb|hb
  ·rw[hb];exact g
  ·rw[hb]
   intro e;injection e with e;have:=h7.size;omega
 have G:=h.bel.size;refine⟨hown,by rw[List.length_append,h.len];rfl,?_,fun j k' y hk' hy=> ?_⟩
 ·refine⟨hg.os.trans (h57.os.trans h.bel.os),hg.tape.trans (h57.tape.trans h.bel.tape),hg.output.trans (h57.output.trans h.bel.output),?_,fun b hlt=> ?_⟩
  ·have:=hg.size
   have:=h57.size;omega
  ·have g:some b≠v.ownBlock:=fun e=>by
    have:=h.own.block e.symm;omega
   exact(A b (by omega) g).2.trans (h.bel.block b hlt)
 ·rcases Nat.lt_or_ge j KL.length with K|K
  ·rw[List.getElem?_append_left K] at hk'
   refine(h.els j k' y hk' hy).to (fun b hp hlt=>⟨⟨hp.1,(A b hlt hp.2).1⟩,(A b hlt hp.2).2⟩) ?_;have:=hg.size;have:=h57.size;omega
  ·rw[List.getElem?_append_right K] at hk'
   have F:j= KL.length:=by
    have:=(List.getElem?_eq_some_iff.1 hk').1;simp only[List.length_singleton] at this;omega
   rw[F,Nat.sub_self] at hk';injection hk' with hk';subst hk';have e:y= x:=by
    rw[F,h.len,hx] at hy;injection hy with hy;exact hy.symm
   subst e;refine hk.to (fun b hp hlt=>⟨⟨?_,(C b hp hlt).1⟩,(C b hp hlt).2⟩) ?_
   ·have:=h5.size
    omega
   ·have:=hg.size
    have:=h7.size;omega
theorem CanInv.row {TV:TypeId} {W u u':World} {v:Value} {l:List VT} {KL:List zU} {B:Nat} (h:CanInv TV W u v l l.length KL) (hl:l.length<=maxLen) (hB:B<=W.heap.size) (hk:∀ b,W.heap.size<=b->b < u.heap.size->u'.heap[b]?= u.heap[b]?) (hs:u.heap.size<=u'.heap.size):
  SlAt (only u' (fun b=>B<=b)) u'.heap.size 6 (ValAt (only u' (fun b=>B<=b)) u'.heap.size) v (z0E l):=by
 have A:(z0E l).length= l.length:=z2W l;refine⟨by rw[A];exact Nat.le_trans hl z0L,?_⟩;rcases h.own.2 with ⟨rfl,h0⟩|⟨g,G,Y,O,hg,_,_⟩
 ·rw[h.len] at h0
  exact⟨none,0,by rw[A,h0],fun h1=>by omega⟩
 ·refine⟨some ⟨g,0,none⟩,G,by rw[O,A,h.len],fun _=> ?_⟩
  have C:v.ownBlock= some g:=by rw[O];rfl
  have K:=z0z h.own C;refine⟨g,0,rfl,by omega,fun i x hx=> ?_⟩;rw[z2X,List.getElem?_map,Option.map_eq_some_iff] at hx;obtain⟨y,X,rfl⟩:=hx;have N:=(List.getElem?_eq_some_iff.1 X).1;have F:KL[i]?= some (KL[i]'(by rw[h.len];exact N)):=List.getElem?_eq_getElem _;refine⟨_,(KL[i]'(by rw[h.len];exact N)).2,fun j c hc=> ?_,?_⟩
  ·refine zu.2 ⟨?_,?_⟩
   ·show B<=g
    omega
   ·refine(World.cell?_of_block (a:=⟨g,_,none⟩) (hk g hg K)).trans ?_
    have:=World.ownsRow.cells h.own C (i*6+j) c (z0Y z0J KL i _ F j c hc);rw[Addr.add_mid] at this;rw[show 0+i*6+j= 0+ (i*6+j) by omega];exact this
  ·exact(h.els i _ y F X).to (fun b hp hb=>⟨Nat.le_trans hB hp.1,hk b hp.1 hb⟩) hs
end
section
open Go Go.RowKit
structure RowInv (TV:TypeId) (W u:World) (v:Value) (vs:List VT) (KL:List zU):Prop where
 own:OwnSl TV 6 enc6 u W.heap.size v KL
 len:KL.length= vs.length
 bel:Below W.heap.size W u
 els:∀ (j:Nat) k x,KL[j]?= some k->vs[j]?= some x->Kept (fun b=>W.heap.size<=b/\some b≠v.ownBlock) u k.1 x
theorem RowInv.start (TV:TypeId) (W:World):RowInv TV W W (.slice none 0 0) [] []:=⟨OwnSl.nil _ _,rfl,Below.refl _ _,fun j k x hk _=>by cases hk⟩
theorem RowInv.next {TV:TypeId} {W u u5 u6 u7 u8:World} {v v':Value} {vs:List VT} {KL:List zU} (h:RowInv TV W u v vs KL) (h5:Below u.heap.size u u5) (h6:Below u5.heap.size u5 u6) (h7:Below u6.heap.size u6 u7) {k:zU} {x:VT}
  (hk:Kept (fun b=>u5.heap.size<=b) u6 k.1 x) (hown:OwnSl TV 6 enc6 u8 W.heap.size v' (KL ++ [k])) (hg:u7.grownBy u8 v.ownBlock) (hb:v'.ownBlock= v.ownBlock\/v'.ownBlock= some u7.heap.size):
  RowInv TV W u8 v' (vs ++ [x]) (KL ++ [k]):=by
 have h57:=h5.trans ((beT h6 h7).mono h5.size);have A:∀ b,b < u.heap.size->some b≠v.ownBlock->some b≠v'.ownBlock/\u8.heap[b]?= u.heap[b]?:=fun b hlt g=>by
  have e1:=h57.block b hlt;have e2:=hg.block b (Nat.lt_of_lt_of_le hlt h57.size) g;refine⟨?_,e2.trans e1⟩;rcases hb with hb|hb
  ·rw[hb];exact g
  ·rw[hb]
   intro e;injection e with e;have:=h57.size;omega
 have C:∀ b,u5.heap.size<=b->b < u6.heap.size->some b≠v'.ownBlock/\u8.heap[b]?= u6.heap[b]?:=fun b hge hlt=>by
  have g:some b≠v.ownBlock:=fun e=>by
   have:=z0z h.own e.symm;have:=h5.size;omega
  have e1:=h7.block b hlt;have e2:=hg.block b (Nat.lt_of_lt_of_le hlt h7.size) g;refine⟨?_,e2.trans e1⟩;rcases hb with hb|hb
  ·rw[hb];exact g
  ·rw[hb]
   intro e;injection e with e;have:=h7.size;omega
 have K:=h.bel.size;refine⟨hown,by rw[List.length_append,List.length_append,h.len];rfl,?_,fun j k' y hk' hy=> ?_⟩
 ·refine⟨hg.os.trans (h57.os.trans h.bel.os),hg.tape.trans (h57.tape.trans h.bel.tape),hg.output.trans (h57.output.trans h.bel.output),?_,fun b hlt=> ?_⟩
  ·have:=hg.size
   have:=h57.size;omega
  ·have g:some b≠v.ownBlock:=fun e=>by
    have:=h.own.block e.symm;omega
   exact(A b (by omega) g).2.trans (h.bel.block b hlt)
 ·rcases Nat.lt_or_ge j KL.length with G|G
  ·rw[List.getElem?_append_left G] at hk'
   rw[List.getElem?_append_left (by rw[← h.len];exact G)] at hy;refine(h.els j k' y hk' hy).to (fun b hp hlt=>⟨⟨hp.1,(A b hlt hp.2).1⟩,(A b hlt hp.2).2⟩) ?_;have:=hg.size;have:=h57.size;omega
  ·rw[List.getElem?_append_right G] at hk'
   have F:j= KL.length:=by
    have:=(List.getElem?_eq_some_iff.1 hk').1;simp only[List.length_singleton] at this;omega
   rw[F,Nat.sub_self] at hk';injection hk' with hk';subst hk';have e:y= x:=by
    rw[F,h.len,List.getElem?_append_right (Nat.le_refl _),Nat.sub_self] at hy;injection hy with hy;exact hy.symm
   subst e;refine hk.to (fun b hp hlt=>⟨⟨?_,(C b hp hlt).1⟩,(C b hp hlt).2⟩) ?_
   ·have:=h5.size
    omega
   ·have:=hg.size
    have:=h7.size;omega
theorem RowInv.row {TV:TypeId} {W u u':World} {v:Value} {vs:List VT} {KL:List zU} {B:Nat} (h:RowInv TV W u v vs KL) (hl:vs.length<=maxLen) (hB:B<=W.heap.size) (hk:∀ b,W.heap.size<=b->b < u.heap.size->u'.heap[b]?= u.heap[b]?) (hs:u.heap.size<=u'.heap.size):
  SlAt (only u' (fun b=>B<=b)) u'.heap.size 6 (ValAt (only u' (fun b=>B<=b)) u'.heap.size) v vs:=by
 refine⟨Nat.le_trans hl z0L,?_⟩;rcases h.own.2 with ⟨rfl,h0⟩|⟨g,F,O,N,X,_,_⟩
 ·rw[h.len] at h0
  exact⟨none,0,by rw[← h0],fun h1=>by omega⟩
 ·refine⟨some ⟨g,0,none⟩,F,by rw[N,h.len],fun _=> ?_⟩
  have A:v.ownBlock= some g:=by rw[N];rfl
  have G:=z0z h.own A;refine⟨g,0,rfl,by omega,fun i x hx=> ?_⟩;have K:=(List.getElem?_eq_some_iff.1 hx).1;have C:KL[i]?= some (KL[i]'(by rw[h.len];exact K)):=List.getElem?_eq_getElem _;refine⟨_,(KL[i]'(by rw[h.len];exact K)).2,fun j c hc=> ?_,?_⟩
  ·refine zu.2 ⟨?_,?_⟩
   ·show B<=g
    omega
   ·refine(World.cell?_of_block (a:=⟨g,_,none⟩) (hk g X G)).trans ?_
    have:=World.ownsRow.cells h.own A (i*6+j) c (z0Y z0J KL i _ C j c hc);rw[Addr.add_mid] at this;rw[show 0+i*6+j= 0+ (i*6+j) by omega];exact this
  ·exact(h.els i _ x C hx).to (fun b hp hb=>⟨Nat.le_trans hB hp.1,hk b hp.1 hb⟩) hs
end
section
open Go Go.RowKit
structure RowC (TV:TypeId) (B:Nat) (u:World) (v:Value) (vs:List VT) (KL:List zU):Prop where
 own:OwnSl TV 6 enc6 u B v KL
 len:KL.length= vs.length
 sz:B<=u.heap.size
 els:∀ (j:Nat) k x,KL[j]?= some k->vs[j]?= some x->Kept (fun b=>B<=b/\some b≠v.ownBlock) u k.1 x
theorem RowC.start (TV:TypeId) {B:Nat} {u:World} (h:B<=u.heap.size):RowC TV B u (.slice none 0 0) [] []:=⟨OwnSl.nil _ _,rfl,h,fun j k x hk _=>by cases hk⟩
theorem RowC.next {TV:TypeId} {B:Nat} {u u6 u7 u8:World} {v v':Value} {vs:List VT} {KL:List zU} (h:RowC TV B u v vs KL) (h6:Below u.heap.size u u6) (h7:Below u6.heap.size u6 u7) {k:zU} {x:VT}
  (hk:Kept (fun b=>u.heap.size<=b) u6 k.1 x) (hown:OwnSl TV 6 enc6 u8 B v' (KL ++ [k])) (hg:u7.grownBy u8 v.ownBlock) (hb:v'.ownBlock= v.ownBlock\/v'.ownBlock= some u7.heap.size):
  RowC TV B u8 v' (vs ++ [x]) (KL ++ [k]):=by
 have h57:=(beT h6 h7);have K:=h.sz;have A:∀ b,b < u.heap.size->some b≠v.ownBlock->some b≠v'.ownBlock/\u8.heap[b]?= u.heap[b]?:=fun b hlt g=>by
  have e1:=h57.block b hlt;have e2:=hg.block b (Nat.lt_of_lt_of_le hlt h57.size) g;refine⟨?_,e2.trans e1⟩;rcases hb with hb|hb
  ·rw[hb];exact g
  ·rw[hb]
   intro e;injection e with e;have:=h57.size;omega
 have C:∀ b,u.heap.size<=b->b < u6.heap.size->some b≠v'.ownBlock/\u8.heap[b]?= u6.heap[b]?:=fun b hge hlt=>by
  have g:some b≠v.ownBlock:=fun e=>by
   have:=z0z h.own e.symm;omega
  have e1:=h7.block b hlt;have e2:=hg.block b (Nat.lt_of_lt_of_le hlt h7.size) g;refine⟨?_,e2.trans e1⟩;rcases hb with hb|hb
  ·rw[hb];exact g
  ·rw[hb]
   intro e;injection e with e;have:=h7.size;omega
 refine⟨hown,by rw[List.length_append,List.length_append,h.len];rfl,?_,fun j k' y hk' hy=> ?_⟩
 ·have:=hg.size
  have:=h57.size;omega
 ·rcases Nat.lt_or_ge j KL.length with G|G
  ·rw[List.getElem?_append_left G] at hk'
   rw[List.getElem?_append_left (by rw[← h.len];exact G)] at hy;refine(h.els j k' y hk' hy).to (fun b hp hlt=>⟨⟨hp.1,(A b hlt hp.2).1⟩,(A b hlt hp.2).2⟩) ?_;have:=hg.size;have:=h57.size;omega
  ·rw[List.getElem?_append_right G] at hk'
   have F:j= KL.length:=by
    have:=(List.getElem?_eq_some_iff.1 hk').1;simp only[List.length_singleton] at this;omega
   rw[F,Nat.sub_self] at hk';injection hk' with hk';subst hk';have e:y= x:=by
    rw[F,h.len,List.getElem?_append_right (Nat.le_refl _),Nat.sub_self] at hy;injection hy with hy;exact hy.symm
   subst e;refine hk.to (fun b hp hlt=>⟨⟨by omega,(C b hp hlt).1⟩,(C b hp hlt).2⟩) ?_;have:=hg.size;have:=h7.size;omega
theorem RowC.store {TV:TypeId} {B p:Nat} {u u':World} {v:Value} {vs:List VT} {KL:List zU} (h:RowC TV B u v vs KL) (hb:But u u' p p) (hp:p < B):RowC TV B u' v vs KL:=by
 refine⟨World.ownsRow.kept h.own (row:=some p) ⟨hb.os,hb.tape,hb.output,hb.size,fun i hi hne=>hb.block i hi (fun e=>hne (by rw[e])) (fun e=>hne (by rw[e]))⟩ ?_,h.len,Nat.le_trans h.sz hb.size,fun j k x hk hx=> ?_⟩
 ·exact .inr fun e=>by have:=h.own.block e;omega
 ·exact(h.els j k x hk hx).to (fun b hq _=>⟨hq,hb.block b ‹_› (by omega) (by omega)⟩) hb.size
theorem RowC.row {TV:TypeId} {B C:Nat} {u u':World} {v:Value} {vs:List VT} {KL:List zU} (h:RowC TV B u v vs KL) (hl:vs.length<=maxLen) (hB:C<=B) (hk:∀ b,B<=b->b < u.heap.size->u'.heap[b]?= u.heap[b]?) (hs:u.heap.size<=u'.heap.size):
  SlAt (only u' (fun b=>C<=b)) u'.heap.size 6 (ValAt (only u' (fun b=>C<=b)) u'.heap.size) v vs:=by
 refine⟨Nat.le_trans hl z0L,?_⟩;rcases h.own.2 with ⟨rfl,h0⟩|⟨g,G,X,O,Y,_,_⟩
 ·rw[h.len] at h0
  exact⟨none,0,by rw[← h0],fun h1=>by omega⟩
 ·refine⟨some ⟨g,0,none⟩,G,by rw[O,h.len],fun _=> ?_⟩
  have A:v.ownBlock= some g:=by rw[O];rfl
  have K:=z0z h.own A;refine⟨g,0,rfl,by omega,fun i x hx=> ?_⟩;have N:=(List.getElem?_eq_some_iff.1 hx).1;have F:KL[i]?= some (KL[i]'(by rw[h.len];exact N)):=List.getElem?_eq_getElem _;refine⟨_,(KL[i]'(by rw[h.len];exact N)).2,fun j c hc=> ?_,?_⟩
  ·refine zu.2 ⟨?_,?_⟩
   ·show C<=g
    omega
   ·refine(World.cell?_of_block (a:=⟨g,_,none⟩) (hk g Y K)).trans ?_
    have:=World.ownsRow.cells h.own A (i*6+j) c (z0Y z0J KL i _ F j c hc);rw[Addr.add_mid] at this;rw[show 0+i*6+j= 0+ (i*6+j) by omega];exact this
  ·exact(h.els i _ x F hx).to (fun b hp hb=>⟨Nat.le_trans hB hp.1,hk b hp.1 hb⟩) hs
theorem Whole.putM {T:TypeId} {w:World} {b:Nat} {pre post:List Value} {v0 v:Value} (h:Whole T w b (pre ++ v0::post)):Whole T (w.setCell ⟨b,pre.length,none⟩ v) b (pre ++ v::post):=by
 show(w.heap.modify b _)[b]?= _;rw[Array.getElem?_modify,if_pos rfl,(show w.heap[b]?= _ from h)];simp
theorem Whole.frozV {T:TypeId} {w:World} {b j:Nat} {cs:List Value} (h:Whole T w b cs) (hj:j < cs.length):w.frozen? ⟨b,j,none⟩= false:=by
 have:=(h.there j hj).2;rwa [Nat.zero_add] at this
section
variable {P:Program} {ops:Array Oper} {S:World->Prop} {Q:Exit->Act->World->Prop} {i:Nat} {r:List (Nat × Bool)} {a:Act} {w:World} {o:Oper}
theorem z79 (t:TypeId) (x:Operand) (ho:o.op= .buildSlice t 1 #[(0,x)]) (e:TypeId) (i:TypeInfo) (z:Value) (ks:List Value) (hx:a.eval x= .agg ks.toArray)
  (ht:P.underlying t= some (.slice e)) (hi:P.info? e= some i) (hz:i.zero= some z) (hsz:i.size= ks.length) (h0:0 < ks.length) (hmax:ks.length<=1000):
  (execOp a.eval o).run P w= .ok (.value (.slice (some ⟨w.heap.size,0,none⟩) 1 1)) (w.alloc (.cells ⟨ks⟩ e)):=by
 unfold execOp;have hr:=z5p (P:=P) w t e i z ks ht hi hz hsz h0 hmax;simp only[ho,List.map_toArray,List.map_cons,List.map_nil,hx,Sem.run_bind,Sem.run_pure,Result.andThen_ok,hr]
theorem zb7 {α:Type} (d:Option Tmp) (o:Oper) (s x:Operand) (t:TypeId) (hi0:ops[i]?= some o) (ho:o.op= .call { callee:= .builtin .append,args:= #[s,x],argTypes:= #[t,t] }) (hd:o.dst= d) (hw:Region.wanted o (yielded ops a.tmps)= true)
  (base:Nat) (e:TypeId) (i':TypeInfo) (z:Value) (k bytes:Nat) (enc:α->List Value) (ht:P.underlying t= some (.slice e)) (hi:P.info? e= some i') (hz:i'.zero= some z)
  (hsize:i'.size= k) (hby:i'.bytes= bytes) (hzs:z.cells.size= k) (hsz:0 < k) (hk:∀ x,(enc x).length= k)
  (v:Value) (l:List α) (hs:a.eval s= v) (hown:OwnSl e k enc w base v l) (nb c:Nat) (y:α) (h1:∀ u∈enc y,u.oneCell'= true) (hx:a.eval x= .slice (some ⟨nb,0,none⟩) 1 c)
  (hc:∀ j u,(enc y)[j]?= some u->w.cell? ⟨nb,j,none⟩= some u) (h63:l.length+1<=maxLen) (hbytes:(l.length+1) *bytes<=140737488355328) (hbase:base<=w.heap.size)
  (h:∀ v' w',OwnSl e k enc w' base v' (l ++ [y])->w.grownBy w' v.ownBlock->(v'.ownBlock= v.ownBlock\/v'.ownBlock= some w.heap.size)->S w'/\wpOrd P ops S Q r (a.put d v') w'):wpOrd P ops S Q ((i,false)::r) a w:=by
 obtain⟨v',w',g,k2,k3,_,k5⟩:=run_append_own_at (P:=P) w base t o.type e i' z k bytes ht hi hz hsize hby hzs hsz v l.length (flat enc l) hown ⟨nb,0,none⟩ 1 c (enc y) (by rw[hk];omega)
  (fun j u hu=>by rw[Addr.add_mid,Nat.zero_add];exact hc j u hu) h1 h63 hbytes hbase
 have H:=h v' w' (by unfold OwnSl;rw[z6d,List.length_append];exact k2) k3 k5;refine z2M d v' w' o hi0 hd hw ?_ H.1 H.2;unfold execOp;simp only[ho,resolve,invoke,builtin,Sem.run_bind,Sem.run_pure,Result.andThen_ok,List.map_toArray,List.map_cons,List.map_nil,hs,hx,g]
end
end
section
open Go Go.RowKit
theorem TypAt.next {w w':World} {cs:List Value} {t:TT} (h:TypAt w w.heap.size cs t) (hb:Below w.heap.size w w'):TypAt w' w'.heap.size cs t:=(h.under hb).more hb.size
theorem z1t {w:World} {v:Value} {l:List TT} (h:SlAt w w.heap.size 3 (TypAt w w.heap.size) v l):∃ A c,v= .slice A l.length c/\l.length<=9223372036854775807/\
  (0 < l.length->∃ b o,A= some ⟨b,o,none⟩/\b < w.heap.size/\∀ (i:Nat) x,l[i]?= some x->∃ cs:List Value,w.rangeAt b (o+i*3) cs/\TypAt w w.heap.size cs x):=by
 obtain⟨h0,A,c,h1,h2⟩:=h;refine⟨A,c,h1,h0,fun hp=> ?_⟩;obtain⟨b,o,h3,h4,h5⟩:=h2 hp;refine⟨b,o,h3,h4,fun i x hx=> ?_⟩;obtain⟨cs,_,h7,h8⟩:=h5 i x hx;exact⟨cs,h7,h8⟩
theorem zl {w:World} {B:Nat} {cs:List Value} {t:TT} (h:TypAt w B cs t):cs.length= 3/\∀ u∈cs,u.oneCell'= true:=by
 cases t with
 |mk k ns its=>
  have h9:=h.one;obtain⟨vn,vi,rfl,_,h1,_,h2⟩:=h.inv;exact⟨rfl,h9⟩
mutual
def cntT:TT->Nat->Nat
 | .mk _ _ its,n=>cntTL its (n+1)
def cntTL:List TT->Nat->Nat
 |[],n=>n
 |a::l,n=>if 500<=n then n else cntTL l (cntT a n)
end
theorem z70:∀ (l:List TT) (n:Nat),(∀ x∈l,∀ m,m < 500->cntT x m<=500)->n<=500->cntTL l n<=500
 |[],n,_,h=>by rw[cntTL];exact h
 |a::l,n,h,hn=>by
  rw[cntTL]
  split
  ·exact hn
  ·exact z70 l _ (fun x hx=>h x (List.mem_cons_of_mem _ hx)) (h a (List.mem_cons_self ..) n (by omega))
theorem z8H (t:TT):∀ m,m < 500->cntT t m<=500:=by
 induction t using TT.ind with
 |h k ns its ih=>exact fun m hm=>by rw[cntT];exact z70 its _ ih (by omega)
theorem z4R {l:List TT} {k m:Nat} {x:TT} (h:l[k]?= some x):cntTL (l.drop k) m= if 500<=m then m else cntTL (l.drop (k+1)) (cntT x m):=by
 rw[z0c h,cntTL]
theorem z65 {l:List TT} {m:Nat}:cntTL (l.drop l.length) m= m:=by
 rw[List.drop_eq_nil_of_le (Nat.le_refl _),cntTL]
mutual
def zE:TT->Nat->Bool
 | .mk k ns its,d=>
  if 12 < d then false
  else if k= 5 then(its.length ==1) && ((ns.length ==0) && z0a its (d+1))
  else if k= 6 then(ns.length ==its.length) && (riseB none ns && z0a its (d+1))
  else if k= 1\/k= 2\/k= 3\/k= 4\/k= 7 then(ns.length ==0) && (its.length ==0)
  else false
def z0a:List TT->Nat->Bool
 |[],_=>true
 |a::l,d=>zE a d && z0a l d
end
theorem z2I {l:List TT} {k d:Nat} {x:TT} (h:l[k]?= some x):z0a (l.drop k) d=(zE x d && z0a (l.drop (k+1)) d):=by
 rw[z0c h,z0a]
theorem z3l {l:List TT} {d:Nat}:z0a (l.drop l.length) d= true:=by
 rw[List.drop_eq_nil_of_le (Nat.le_refl _),z0a]
theorem z9R {l : List TT} {d : Nat} {x : TT} (hl : l.length = 1) (h : l[0]? = some x) : z0a l d = zE x d := by
  match l, hl with
  | [y], _ => obtain rfl : y = x := by simpa using h
              simp [z0a]
theorem z6O:∀ (t:TT) (m:Nat) (cs:List Value) (p o:Nat) (w:World),m < 500->w.rangeAt p o cs->TypAt w w.heap.size cs t->
  Calls Tryz.prog 49 #[.pointer (some ⟨p,o,none⟩),.int .i64 m] w fun e w'=>e= .returned (.int .i64 (cntT t m:Nat))/\w'= w:=by
 intro t
 induction t using TT.ind with
 |h k ns its ih=>
  intro m cs p o w hm hr hv;have IH:=I ih;obtain⟨vn,vi,rfl,_,_,_,hi⟩:=hv.inv;obtain⟨A,c,rfl,b4,hA⟩:=z1t hi;have HA:=I hA;have d2:=hr 2 _ rfl;have HS:=I (fun k m x=>z4R (l:=its) (k:=k) (m:=m) (x:=x));have HE:=I (fun m=>z65 (l:=its) (m:=m));have O:=I (fun x m hm=>z8H x m hm);have H0:Hid (cntTL (its.drop 0) (m+1)= cntT (.mk k ns its) m):=I (by rw[cntT];rfl);have b6:(m:Int) < 500:=by omega
  clear ih hi hA hr hv;generalize cntT (.mk k ns its) m= res at*;go_enter Tryz.func49,Tryz.ntmps49;go_wp2;go_loopg [1,13] its.length (fun q n x u=>∃ (j m:Nat),j+q= its.length/\x= .int .i64 j/\n= .int .i64 m/\m<=500/\u= w/\cntTL (its.drop j) m= res);case atStart=>exact⟨0,m+1,by omega,rfl,by go_num,by omega,rfl,H0.o⟩
  case round=>
   obtain⟨j,m,hj,rfl,rfl,b7,rfl,g⟩:=hrel;have HR:=I g;clear g;cases gk with
   |zero=>
    obtain rfl:j= its.length:=by omega
    have b3: ¬ ((its.length:Int) <(its.length:Int)):=by omega
    have K:=I (HR.o.symm.trans (HE.o m));go_wp2;go_ret;exact⟨by rw[K.o];rfl,rfl⟩
   |succ q=>
    have b5:(j:Int) <(its.length:Int):=by omega
    obtain⟨x,N⟩:∃ x,its[j]?= some x:=⟨_,List.getElem?_eq_getElem (by omega)⟩;obtain⟨b,o',rfl,b2,X⟩:=HA.o (by omega);obtain⟨ks,F,G⟩:=X j x N;have K:=I (HR.o.symm.trans (HS.o j m x N));by_cases h5:500<=m
    ·have C:=I (K.o.trans (if_pos h5))
     have t1:(500:Int)<=(m:Int):=by omega
     clear X F G N K;go_wp2;go_ret;exact⟨by rw[C.o];rfl,rfl⟩
    ·have C:=I (K.o.trans (if_neg h5))
     have t1: ¬ ((500:Int)<=(m:Int)):=by omega
     have HC:=I (IH.o x (List.mem_of_getElem? N) m ks b (o'+j*3) wr (by omega) F G);have Y:=O.o x m (by omega);clear X F G N K h5;go_wp2_with (go_at_call 49;refine HC.o.mono ?_;rintro e z ⟨rfl,rfl⟩);go_roundg q;case measure=>omega
     case rel=>exact⟨j+1,_,by omega,by go_num,rfl,Y,rfl,C.o.symm⟩
theorem zbZ:∀ (t:TT) (d:Nat) (cs:List Value) (p o:Nat) (w:World),d<=13->p < w.heap.size->w.rangeAt p o cs->TypAt w w.heap.size cs t->
  Calls Tryz.prog 50 #[.pointer (some ⟨p,o,none⟩),.int .i64 d] w fun e w'=>e= .returned (.bool (zE t d))/\Below w.heap.size w w':=by
 intro t
 induction t using TT.ind with
 |h k ns its ih=>
  intro d cs p o w hd hp hr hv;have IH:=I ih;obtain⟨vn,vi,rfl,_,hn,_,hi⟩:=hv.inv;obtain⟨_,NA,nc,rfl,_⟩:=id hn;obtain⟨A,c,rfl,e7,hA⟩:=z1t hi;have e9:=hn.1;have HN:=I hn;have HA:=I hA;have Y:=I hr;have HP:=I hp;have d0:w.cell? ⟨p,o,none⟩= some (.int .i64 k):=hr 0 _ rfl;have d1:=hr 1 _ rfl;have d2:=hr 2 _ rfl;have HO:Hid (zE (.mk k ns its) d= if 12 < d then false
   else if k= 5 then(its.length ==1) && ((ns.length ==0) && z0a its (d+1))
   else if k= 6 then(ns.length ==its.length) && (riseB none ns && z0a its (d+1))
   else if k= 1\/k= 2\/k= 3\/k= 4\/k= 7 then(ns.length ==0) && (its.length ==0)
   else false):=I (by rw[zE])
  generalize a1:zE (.mk k ns its) d= res at*;clear ih hr hv hn hi hA hp a1;by_cases hdeep:12 < d
  ·have K:=I (HO.o.trans (if_pos hdeep))
   have t1:(12:Int) <(d:Int):=by omega
   clear HO hdeep;go_enter Tryz.func50,Tryz.ntmps50;go_wp2;go_ret;exact⟨z8 K.o.symm,Below.refl _ w⟩
  have t1: ¬ ((12:Int) <(d:Int)):=by omega
  have a8:=I (HO.o.trans (if_neg hdeep));clear HO;by_cases k5:k= 5
  ·subst k5
   have K:=I (a8.o.trans (if_pos rfl));clear a8;by_cases hm0:ns.length= 0
   ·have m1:((ns.length:Int) ==0)= true:=by rw[hm0];rfl
    have g:(ns.length ==0)= true:=by rw[hm0];rfl
    by_cases hi1:its.length= 1
    ·have j1:((its.length:Int) ==1)= true:=by rw[hi1];rfl
     have b5:(its.length ==1)= true:=by rw[hi1];rfl
     obtain⟨x,hx⟩:∃ x,its[0]?= some x:=⟨_,List.getElem?_eq_getElem (by omega)⟩;obtain⟨b,o',rfl,b1,hc⟩:=HA.o (by omega);obtain⟨ks,a5,a6⟩:=hc 0 x hx;have b4:w.rangeAt b o' ks:=by simpa using a5
     have HC:=I (IH.o x (List.mem_of_getElem? hx) (d+1) ks b o' w (by omega) b1 b4 a6);have a4:((d+1:Nat):Int)=(d:Int)+1:=by omega
     rw[a4] at HC;have C:Hid (res= zE x (d+1)):=I (by rw[K.o,z9R hi1 hx];simp[g,b5]);have e0:(0:Int) <(its.length:Int):=by omega
     clear hc a5 b4 a6 hx a4 hi1 hm0;generalize zE x (d+1)= rx at*;go_enter Tryz.func50,Tryz.ntmps50;go_wp2_with (go_at_call 50;refine zi HC.o ?_;intro z a2);go_ret;exact⟨z8 C.o.symm,a2.o⟩
    ·have j1:((its.length:Int) ==1)= false:=by rw[beq_eq_false_iff_ne];omega
     have b5:(its.length ==1)= false:=by simpa using hi1
     clear hi1 hm0;have C:Hid (res= false):=I (by rw[K.o];simp[g,b5]);go_enter Tryz.func50,Tryz.ntmps50;go_wp2;go_ret;exact⟨z8 C.o.symm,Below.refl _ w⟩
   ·have m1:((ns.length:Int) ==0)= false:=by rw[beq_eq_false_iff_ne];omega
    have g:(ns.length ==0)= false:=by simpa using hm0
    clear hm0;have C:Hid (res= false):=I (by rw[K.o];simp[g]);go_enter Tryz.func50,Tryz.ntmps50;go_wp2;go_ret;exact⟨z8 C.o.symm,Below.refl _ w⟩
  have a9:=I (a8.o.trans (if_neg k5));clear a8;by_cases k6:k= 6
  ·subst k6
   have K:=I (a9.o.trans (if_pos rfl));clear a9;have b7:=I (fun z (hz:Below w.heap.size w z)=>z5n (.slice NA ns.length nc) ns z ((HN.o.below hz fun _ _ _ h=>h).more hz.size));by_cases hlen:ns.length= its.length
   ·have X:=I (K.o.trans (by rw[show(ns.length ==its.length)= true from by rw[hlen];exact beq_self_eq_true _,Bool.true_and]))
    have t2:((ns.length:Int) !=(its.length:Int))= false:=by rw[hlen];exact bne_self_eq_false _
    clear K hlen;generalize riseB none ns= rb at*;cases rb with
    |false=>
     have c9:Hid (res= false):=I (X.o.trans (Bool.false_and _));clear X;go_enter Tryz.func50,Tryz.ntmps50;go_upto_region 13 with (fail);clear d0 d1 d2;refine zr [(0,true),(1,true),(2,true),(3,true),(4,true),(5,true),(6,true),(7,true),(8,true),(9,true),(10,true),(11,true),(12,true),(13,true),(14,true),(15,true),(16,false),(17,true),(18,true)] (fun z=>Below w.heap.size w z) (by kernel_rfl) (by intro c a d v w h;cases d<;>exact h) ?_;have F:Below w.heap.size w w.drew:=(Below.refl _ w).drew;refine zf 60 (.pointer (some ⟨p,o,none⟩)) rfl rfl rfl rfl F rfl ?_;go_frame;refine z7 61 (.pointer (some ⟨p,o,none⟩)) rfl rfl rfl F (fun z hz=>by go_simp) ?_;go_frame;refine z7 62 (.pointer (some ⟨p,o+1,none⟩)) rfl rfl rfl F (fun z hz=>by go_simp) ?_;go_frame;refine z7 63 (.slice NA ns.length nc) rfl rfl rfl F (fun z hz=>by have dd:=(hz.cell (p:=⟨p,o+1,none⟩) HP.o).trans (Y.o 1 _ rfl);go_simp) ?_;go_frame;refine z7 64 (.int .i64 ns.length) rfl rfl rfl F (fun z hz=>by go_simp) ?_;go_frame;refine zf 65 (.pointer (some ⟨p,o,none⟩)) rfl rfl rfl rfl F rfl ?_;go_frame;refine z7 66 (.pointer (some ⟨p,o,none⟩)) rfl rfl rfl F (fun z hz=>by go_simp) ?_;go_frame;refine z7 67 (.pointer (some ⟨p,o+2,none⟩)) rfl rfl rfl F (fun z hz=>by go_simp) ?_;go_frame;refine z7 68 (.slice A its.length c) rfl rfl rfl F (fun z hz=>by have dd:=(hz.cell (p:=⟨p,o+2,none⟩) HP.o).trans (Y.o 2 _ rfl);go_simp) ?_;go_frame;refine z7 69 (.int .i64 its.length) rfl rfl rfl F (fun z hz=>by go_simp) ?_;go_frame;refine z7 70 (.bool false) rfl rfl rfl F (fun z hz=>by go_simp) ?_;go_frame;refine zf 71 (.bool false) rfl rfl rfl rfl F rfl ?_;go_frame;refine zf 72 (.pointer (some ⟨p,o,none⟩)) rfl rfl rfl rfl F rfl ?_;go_frame;refine z7 73 (.pointer (some ⟨p,o,none⟩)) rfl rfl rfl F (fun z hz=>by go_simp) ?_;go_frame;refine z7 74 (.pointer (some ⟨p,o+1,none⟩)) rfl rfl rfl F (fun z hz=>by go_simp) ?_;go_frame;refine z7 75 (.slice NA ns.length nc) rfl rfl rfl F (fun z hz=>by have dd:=(hz.cell (p:=⟨p,o+1,none⟩) HP.o).trans (Y.o 1 _ rfl);go_simp) ?_;go_frame;refine zv 76 73 Tryz.func73 (by kernel_rfl) [.slice NA ns.length nc] rfl rfl rfl rfl rfl ?_;refine(b7.o _ F).mono ?_;rintro e z1 ⟨rfl,a3⟩;have O:Below w.heap.size w z1:=(beT F a3);refine⟨.bool false,rfl,O,?_⟩;clear a3;go_frame;refine z7 77 (.bool true) rfl rfl rfl O (fun z hz=>by go_simp) ?_;go_frame;refine zC (some 78) (.bool true) _ _ _ _ false rfl rfl rfl rfl (by exact wA rfl) O rfl ?_;go_frame;refine zF ?_;have a7:=I O;clear F O;go_wp2;go_ret;exact⟨z8 c9.o.symm,a7.o⟩
    |true=>
     have d3:Hid (res= z0a its (d+1)):=I (X.o.trans (Bool.true_and _));clear X;go_enter Tryz.func50,Tryz.ntmps50;go_upto_region 13 with (fail);clear d0 d1 d2;refine zr [(0,true),(1,true),(2,true),(3,true),(4,true),(5,true),(6,true),(7,true),(8,true),(9,true),(10,true),(11,true),(12,true),(13,true),(14,true),(15,true),(16,false),(17,true),(18,true)] (fun z=>Below w.heap.size w z) (by kernel_rfl) (by intro c a d v w h;cases d<;>exact h) ?_;have F:Below w.heap.size w w.drew:=(Below.refl _ w).drew;refine zf 60 (.pointer (some ⟨p,o,none⟩)) rfl rfl rfl rfl F rfl ?_;go_frame;refine z7 61 (.pointer (some ⟨p,o,none⟩)) rfl rfl rfl F (fun z hz=>by go_simp) ?_;go_frame;refine z7 62 (.pointer (some ⟨p,o+1,none⟩)) rfl rfl rfl F (fun z hz=>by go_simp) ?_;go_frame;refine z7 63 (.slice NA ns.length nc) rfl rfl rfl F (fun z hz=>by have dd:=(hz.cell (p:=⟨p,o+1,none⟩) HP.o).trans (Y.o 1 _ rfl);go_simp) ?_;go_frame;refine z7 64 (.int .i64 ns.length) rfl rfl rfl F (fun z hz=>by go_simp) ?_;go_frame;refine zf 65 (.pointer (some ⟨p,o,none⟩)) rfl rfl rfl rfl F rfl ?_;go_frame;refine z7 66 (.pointer (some ⟨p,o,none⟩)) rfl rfl rfl F (fun z hz=>by go_simp) ?_;go_frame;refine z7 67 (.pointer (some ⟨p,o+2,none⟩)) rfl rfl rfl F (fun z hz=>by go_simp) ?_;go_frame;refine z7 68 (.slice A its.length c) rfl rfl rfl F (fun z hz=>by have dd:=(hz.cell (p:=⟨p,o+2,none⟩) HP.o).trans (Y.o 2 _ rfl);go_simp) ?_;go_frame;refine z7 69 (.int .i64 its.length) rfl rfl rfl F (fun z hz=>by go_simp) ?_;go_frame;refine z7 70 (.bool false) rfl rfl rfl F (fun z hz=>by go_simp) ?_;go_frame;refine zf 71 (.bool false) rfl rfl rfl rfl F rfl ?_;go_frame;refine zf 72 (.pointer (some ⟨p,o,none⟩)) rfl rfl rfl rfl F rfl ?_;go_frame;refine z7 73 (.pointer (some ⟨p,o,none⟩)) rfl rfl rfl F (fun z hz=>by go_simp) ?_;go_frame;refine z7 74 (.pointer (some ⟨p,o+1,none⟩)) rfl rfl rfl F (fun z hz=>by go_simp) ?_;go_frame;refine z7 75 (.slice NA ns.length nc) rfl rfl rfl F (fun z hz=>by have dd:=(hz.cell (p:=⟨p,o+1,none⟩) HP.o).trans (Y.o 1 _ rfl);go_simp) ?_;go_frame;refine zv 76 73 Tryz.func73 (by kernel_rfl) [.slice NA ns.length nc] rfl rfl rfl rfl rfl ?_;refine(b7.o _ F).mono ?_;rintro e z1 ⟨rfl,a3⟩;have O:Below w.heap.size w z1:=(beT F a3);refine⟨.bool true,rfl,O,?_⟩;clear a3;go_frame;refine z7 77 (.bool false) rfl rfl rfl O (fun z hz=>by go_simp) ?_;go_frame;refine zC (some 78) (.bool false) _ _ _ _ false rfl rfl rfl rfl (by exact wA rfl) O rfl ?_;go_frame;refine zF ?_;have a7:=I O;clear F O;have e2:=(a7.o.cell (p:=⟨p,o+2,none⟩) HP.o).trans (Y.o 2 _ rfl);go_wp2;clear e2;go_loopg [84] its.length (fun q x u=>∃ j:Nat,j+q= its.length/\x= .int .i64 j/\Below w.heap.size w u/\z0a (its.drop j) (d+1)= res);case atStart=>exact⟨0,by omega,rfl,a7.o,d3.o.symm⟩
     case round=>
      obtain⟨j,hj,rfl,hb,a1⟩:=hrel;have C:=I a1;have a0:=I hb;clear a1 hb;cases gk with
      |zero=>
       obtain rfl:j= its.length:=by omega
       have e6: ¬ ((its.length:Int) <(its.length:Int)):=by omega
       have d4:=I (C.o.symm.trans z3l);go_wp2;go_ret;exact⟨z8 d4.o.symm,a0.o⟩
      |succ q=>
       have e8:(j:Int) <(its.length:Int):=by omega
       obtain⟨x,hx⟩:∃ x,its[j]?= some x:=⟨_,List.getElem?_eq_getElem (by omega)⟩;obtain⟨b,o',rfl,b1,hc⟩:=HA.o (by omega);obtain⟨ks,a5,a6⟩:=hc j x hx;have b0:=I (C.o.symm.trans (z2I hx));have e5:=(a0.o.cell (p:=⟨p,o+2,none⟩) HP.o).trans (Y.o 2 _ rfl);have HC:=I (IH.o x (List.mem_of_getElem? hx) (d+1) ks b (o'+j*3) wr (by omega) (Nat.lt_of_lt_of_le b1 a0.o.size) (zb a5 a0.o b1) (a6.next a0.o));have a4:((d+1:Nat):Int)=(d:Int)+1:=by omega
       rw[a4] at HC;clear hc a5 a6 hx a4;generalize zE x (d+1)= rx at*;cases rx with
       |true=>
        have X:=I (b0.o.trans (Bool.true_and _));clear b0;go_wp2_with (go_at_call 50;refine zi HC.o ?_;intro z a2);go_roundg q;case measure=>omega
        case rel=>exact⟨j+1,by omega,by go_num,(beT a0.o a2.o),X.o.symm⟩
       |false=>
        have X:Hid (res= false):=I (b0.o.trans (Bool.false_and _));clear b0;go_wp2_with (go_at_call 50;refine zi HC.o ?_;intro z a2);go_ret;exact⟨z8 X.o.symm,(beT a0.o a2.o)⟩
   ·have X:Hid (res= false):=I (K.o.trans (by rw[beq_eq_false_iff_ne.2 hlen];exact Bool.false_and _))
    have t2:((ns.length:Int) !=(its.length:Int))= true:=by rw[bne_iff_ne];omega
    clear K hlen;go_enter Tryz.func50,Tryz.ntmps50;go_wp2;go_quiet (fail);go_wp2;go_ret;exact⟨z8 X.o.symm,zj (Below.refl _ w) _⟩
  have N:=I (a9.o.trans (if_neg k6));clear a9;by_cases k1:k= 1
  ·subst k1
   have K:=I (N.o.trans (if_pos (by decide)));clear N;by_cases hm0:ns.length= 0
   ·have m1:((ns.length:Int) ==0)= true:=by rw[hm0];rfl
    have g:(ns.length ==0)= true:=by rw[hm0];rfl
    clear hm0;by_cases hi0:its.length= 0
    ·have i1:((its.length:Int) ==0)= true:=by rw[hi0];rfl
     have G:(its.length ==0)= true:=by rw[hi0];rfl
     clear hi0;have C:Hid (res= true):=I (by rw[K.o];simp[g,G]);go_enter Tryz.func50,Tryz.ntmps50;go_wp2;go_ret;exact⟨z8 C.o.symm,Below.refl _ w⟩
    ·have i1:((its.length:Int) ==0)= false:=by rw[beq_eq_false_iff_ne];omega
     have G:(its.length ==0)= false:=by simpa using hi0
     clear hi0;have C:Hid (res= false):=I (by rw[K.o];simp[g,G]);go_enter Tryz.func50,Tryz.ntmps50;go_wp2;go_ret;exact⟨z8 C.o.symm,Below.refl _ w⟩
   ·have m1:((ns.length:Int) ==0)= false:=by rw[beq_eq_false_iff_ne];omega
    have g:(ns.length ==0)= false:=by simpa using hm0
    clear hm0;have C:Hid (res= false):=I (by rw[K.o];simp[g]);go_enter Tryz.func50,Tryz.ntmps50;go_wp2;go_ret;exact⟨z8 C.o.symm,Below.refl _ w⟩
  by_cases k2:k= 2
  ·subst k2
   have K:=I (N.o.trans (if_pos (by decide)));clear N;by_cases hm0:ns.length= 0
   ·have m1:((ns.length:Int) ==0)= true:=by rw[hm0];rfl
    have g:(ns.length ==0)= true:=by rw[hm0];rfl
    clear hm0;by_cases hi0:its.length= 0
    ·have i1:((its.length:Int) ==0)= true:=by rw[hi0];rfl
     have G:(its.length ==0)= true:=by rw[hi0];rfl
     clear hi0;have C:Hid (res= true):=I (by rw[K.o];simp[g,G]);go_enter Tryz.func50,Tryz.ntmps50;go_wp2;go_ret;exact⟨z8 C.o.symm,Below.refl _ w⟩
    ·have i1:((its.length:Int) ==0)= false:=by rw[beq_eq_false_iff_ne];omega
     have G:(its.length ==0)= false:=by simpa using hi0
     clear hi0;have C:Hid (res= false):=I (by rw[K.o];simp[g,G]);go_enter Tryz.func50,Tryz.ntmps50;go_wp2;go_ret;exact⟨z8 C.o.symm,Below.refl _ w⟩
   ·have m1:((ns.length:Int) ==0)= false:=by rw[beq_eq_false_iff_ne];omega
    have g:(ns.length ==0)= false:=by simpa using hm0
    clear hm0;have C:Hid (res= false):=I (by rw[K.o];simp[g]);go_enter Tryz.func50,Tryz.ntmps50;go_wp2;go_ret;exact⟨z8 C.o.symm,Below.refl _ w⟩
  by_cases k3:k= 3
  ·subst k3
   have K:=I (N.o.trans (if_pos (by decide)));clear N;by_cases hm0:ns.length= 0
   ·have m1:((ns.length:Int) ==0)= true:=by rw[hm0];rfl
    have g:(ns.length ==0)= true:=by rw[hm0];rfl
    clear hm0;by_cases hi0:its.length= 0
    ·have i1:((its.length:Int) ==0)= true:=by rw[hi0];rfl
     have G:(its.length ==0)= true:=by rw[hi0];rfl
     clear hi0;have C:Hid (res= true):=I (by rw[K.o];simp[g,G]);go_enter Tryz.func50,Tryz.ntmps50;go_wp2;go_ret;exact⟨z8 C.o.symm,Below.refl _ w⟩
    ·have i1:((its.length:Int) ==0)= false:=by rw[beq_eq_false_iff_ne];omega
     have G:(its.length ==0)= false:=by simpa using hi0
     clear hi0;have C:Hid (res= false):=I (by rw[K.o];simp[g,G]);go_enter Tryz.func50,Tryz.ntmps50;go_wp2;go_ret;exact⟨z8 C.o.symm,Below.refl _ w⟩
   ·have m1:((ns.length:Int) ==0)= false:=by rw[beq_eq_false_iff_ne];omega
    have g:(ns.length ==0)= false:=by simpa using hm0
    clear hm0;have C:Hid (res= false):=I (by rw[K.o];simp[g]);go_enter Tryz.func50,Tryz.ntmps50;go_wp2;go_ret;exact⟨z8 C.o.symm,Below.refl _ w⟩
  by_cases k4:k= 4
  ·subst k4
   have K:=I (N.o.trans (if_pos (by decide)));clear N;by_cases hm0:ns.length= 0
   ·have m1:((ns.length:Int) ==0)= true:=by rw[hm0];rfl
    have g:(ns.length ==0)= true:=by rw[hm0];rfl
    clear hm0;by_cases hi0:its.length= 0
    ·have i1:((its.length:Int) ==0)= true:=by rw[hi0];rfl
     have G:(its.length ==0)= true:=by rw[hi0];rfl
     clear hi0;have C:Hid (res= true):=I (by rw[K.o];simp[g,G]);go_enter Tryz.func50,Tryz.ntmps50;go_wp2;go_ret;exact⟨z8 C.o.symm,Below.refl _ w⟩
    ·have i1:((its.length:Int) ==0)= false:=by rw[beq_eq_false_iff_ne];omega
     have G:(its.length ==0)= false:=by simpa using hi0
     clear hi0;have C:Hid (res= false):=I (by rw[K.o];simp[g,G]);go_enter Tryz.func50,Tryz.ntmps50;go_wp2;go_ret;exact⟨z8 C.o.symm,Below.refl _ w⟩
   ·have m1:((ns.length:Int) ==0)= false:=by rw[beq_eq_false_iff_ne];omega
    have g:(ns.length ==0)= false:=by simpa using hm0
    clear hm0;have C:Hid (res= false):=I (by rw[K.o];simp[g]);go_enter Tryz.func50,Tryz.ntmps50;go_wp2;go_ret;exact⟨z8 C.o.symm,Below.refl _ w⟩
  by_cases k7:k= 7
  ·subst k7
   have K:=I (N.o.trans (if_pos (by decide)));clear N;by_cases hm0:ns.length= 0
   ·have m1:((ns.length:Int) ==0)= true:=by rw[hm0];rfl
    have g:(ns.length ==0)= true:=by rw[hm0];rfl
    clear hm0;by_cases hi0:its.length= 0
    ·have i1:((its.length:Int) ==0)= true:=by rw[hi0];rfl
     have G:(its.length ==0)= true:=by rw[hi0];rfl
     clear hi0;have C:Hid (res= true):=I (by rw[K.o];simp[g,G]);go_enter Tryz.func50,Tryz.ntmps50;go_wp2;go_ret;exact⟨z8 C.o.symm,Below.refl _ w⟩
    ·have i1:((its.length:Int) ==0)= false:=by rw[beq_eq_false_iff_ne];omega
     have G:(its.length ==0)= false:=by simpa using hi0
     clear hi0;have C:Hid (res= false):=I (by rw[K.o];simp[g,G]);go_enter Tryz.func50,Tryz.ntmps50;go_wp2;go_ret;exact⟨z8 C.o.symm,Below.refl _ w⟩
   ·have m1:((ns.length:Int) ==0)= false:=by rw[beq_eq_false_iff_ne];omega
    have g:(ns.length ==0)= false:=by simpa using hm0
    clear hm0;have C:Hid (res= false):=I (by rw[K.o];simp[g]);go_enter Tryz.func50,Tryz.ntmps50;go_wp2;go_ret;exact⟨z8 C.o.symm,Below.refl _ w⟩
  have C:=I (N.o.trans (if_neg (by omega)));have s1:(k ==1)= false:=by simpa using k1
  have s2:(k ==2)= false:=by simpa using k2
  have s3:(k ==3)= false:=by simpa using k3
  have s4:(k ==4)= false:=by simpa using k4
  have s5:(k ==5)= false:=by simpa using k5
  have s6:(k ==6)= false:=by simpa using k6
  have s7:(k ==7)= false:=by simpa using k7
  clear N k1 k2 k3 k4 k5 k6 k7;go_enter Tryz.func50,Tryz.ntmps50;go_wp2;go_ret;exact⟨z8 C.o.symm,Below.refl _ w⟩
theorem z0D (t:TT) (cs:List Value) (w:World) (hv:TypAt w w.heap.size cs t):Calls Tryz.prog 30 #[.agg ⟨cs⟩] w fun e w'=>e= .returned (.bool (decide (cntT t 0<=200) && zE t 1))/\Below w.heap.size w w':=by
 have g:=I (zc w (.cells ⟨cs⟩ 41));have K:=I (zV w (.cells ⟨cs⟩ 41));have C:=I (zL w cs 41);have O:=I (hv.next g.o);clear hv;go_enter Tryz.func30,Tryz.ntmps30;go_upto_region 1 with (fail);generalize w.alloc (.cells ⟨cs⟩ 41)= W at*;have N:=I (z6O t 0 cs w.heap.size 0 W (by decide) C.o O.o);have X:=I (zbZ t 1 cs w.heap.size 0 W (by decide) K.o C.o O.o);by_cases hc:cntT t 0<=200
 ·have t1:((cntT t 0:Nat):Int)<=200:=by omega
  have G:Hid ((decide (cntT t 0<=200) && zE t 1)= zE t 1):=I (by rw[decide_eq_true hc];exact Bool.true_and _);go_wp2_with (first|(go_at_call 49;refine N.o.mono ?_;rintro e z ⟨rfl,A⟩;obtain rfl:=A)|(go_at_call 50;refine zi X.o ?_;intro z2 F));go_ret;exact⟨z8 G.o.symm,(beT g.o F.o)⟩
 ·have t1: ¬ (((cntT t 0:Nat):Int)<=200):=by omega
  have G:Hid ((decide (cntT t 0<=200) && zE t 1)= false):=I (by rw[decide_eq_false hc];exact Bool.false_and _);go_wp2_with (go_at_call 49;refine N.o.mono ?_;rintro e z ⟨rfl,A⟩;obtain rfl:=A);go_ret;first|exact⟨z8 G.o.symm,g.o⟩|exact⟨rfl,g.o⟩
end
section
open Go Go.RowKit
theorem z6Z:∀ (l:List TT) (m:Nat),(∀ x∈l,∀ n,n < 500->n < cntT x n)->m<=200->cntTL l m<=200->m+l.length<=200/\∀ x∈l,∃ n,n<=200/\cntT x n<=200
 |[],m,_,h,_=>⟨by simpa using h,fun x hx=>by cases hx⟩
 |a::l,m,hx,hm,h=>by
  rw[cntTL,if_neg (by omega)] at h
  have h1:=hx a (by simp) m (by omega)
  have h2:cntT a m<=200:=by
   rcases Nat.lt_or_ge 200 (cntT a m) with h3|h3
   ·exfalso
    have C:∀ (l:List TT) (k:Nat),(∀ x∈l,∀ n,n < 500->n < cntT x n)->200 < k->200 < cntTL l k:=by
     intro l
     induction l with
     |nil=>intro k _ A;rw[cntTL];exact A
     |cons b r ih=>
      intro k F A;rw[cntTL];split
      ·exact A
      ·exact ih _ (fun x hx=>F x (List.mem_cons_of_mem _ hx)) (by have:=F b (by simp) k (by omega);omega)
    have:=C l _ (fun x g=>hx x (List.mem_cons_of_mem _ g)) h3;omega
   ·exact h3
  obtain⟨h3,h4⟩:=z6Z l (cntT a m) (fun x g=>hx x (List.mem_cons_of_mem _ g)) h2 h;refine⟨by rw[List.length_cons];omega,fun x g=> ?_⟩;rcases List.mem_cons.1 g with rfl|g
  ·exact⟨m,hm,h2⟩
  ·exact h4 x g
theorem z8G (t:TT):∀ n,n < 500->n < cntT t n:=by
 induction t using TT.ind with
 |h k ns its ih=>
  intro n C;rw[cntT];have g:∀ (l:List TT) (m:Nat),(∀ x∈l,∀ n,n < 500->n < cntT x n)->m<=cntTL l m:=by
   intro l
   induction l with
   |nil=>intro m _;rw[cntTL];exact Nat.le_refl _
   |cons a l ihl=>
    intro m A;rw[cntTL];split
    ·exact Nat.le_refl _
    ·have h1:=A a (by simp) m (by omega)
     have h2:=ihl (cntT a m) fun x hxx=>A x (List.mem_cons_of_mem _ hxx);omega
  have:=g its (n+1) ih;omega
end
end Go.Proofs.YtdjfpcmlffekkaaGreatDoor
