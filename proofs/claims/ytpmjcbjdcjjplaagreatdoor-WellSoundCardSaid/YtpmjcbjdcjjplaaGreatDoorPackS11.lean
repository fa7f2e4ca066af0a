/- Parts of a proof: VName, VBare, VRight, CanonP, R03, RName, ELeaf, ENamed, Keep, RowG, BoxG, RRight. -/
import Derived.Test.YtpmjcbjdcjjplaaGreatDoorPackS10
set_option maxHeartbeats 8000000
set_option maxRecDepth 100000
set_option linter.unusedVariables false
set_option linter.unusedSimpArgs false
namespace Go.Proofs.YtpmjcbjdcjjplaaGreatDoor
section
open Go Go.RowKit
def okC (i:Nat) (c:UInt8):Bool:=(decide (97<=c.toNat) && decide (c.toNat<=122)) ||(decide (0 < i) && (c.toNat ==95 ||(decide (48<=c.toNat) && decide (c.toNat<=57))))
def z00:List UInt8->Nat->Bool
 |[],_=>true
 |c::l,i=>okC i c && z00 l (i+1)
def nameB (s:ByteArray):Bool:=decide (0 < s.size) && decide (s.size<=30) && z00 s.data.toList 0
theorem zbY (w:World) (C:Array Value) (T:TypeId) (fz:Nat × Nat) (i:Nat):(w.alloc (.cells C T fz)).cell? ⟨w.heap.size,i,none⟩= C[i]?:=by
 exact cell_of_row _ w.heap.size i C T fz (heap_alloc_new w _)
theorem z58 (s:ByteArray) (n k:Nat) {c:UInt8} (h:s.data.toList[k]?= some c):(bytesRow s n)[k]?= some (.int .u8 c.toNat):=by
 have h1:k < s.data.size:=by have:=(List.getElem?_eq_some_iff.1 h).1;simpa using this
 unfold bytesRow;rw[Array.getElem?_append_left (by simpa using h1),Array.getElem?_map];have h2:s.data[k]?= some c:=by simpa using h
 rw[h2];rfl
theorem z5g {l:List UInt8} {k:Nat} {c:UInt8} (h:l[k]?= some c):z00 (l.drop k) k=(okC k c && z00 (l.drop (k+1)) (k+1)):=by
 rw[z0d h];rfl
theorem z5z (s:ByteArray) (w:World):Calls Tryz.prog 90 #[.string s] w fun e w'=>e= .returned (.bool (nameB s))/\Below w.heap.size w w':=by
 have HN:Hid (nameB s=(decide (0 < s.size) && decide (s.size<=30) && z00 s.data.toList 0)):=I rfl;have HL:Hid (s.data.toList.length= s.size):=I (by cases s;rfl);by_cases h0:s.size= 0
 ·have hl:s.data.toList=[]:=List.eq_nil_of_length_eq_zero (by rw[HL.o,h0])
  have t0:s.toList=[]:=by rw[toList_eq,hl]
  have t1:s.toList.isEmpty= true:=by rw[t0];rfl
  have K:Hid (nameB s= false):=I (by rw[HN.o,h0];rfl);clear hl h0;go_enter Tryz.func90,Tryz.ntmps90;go_wp2;go_ret;exact⟨z8 K.o.symm,Below.refl _ w⟩
 have t0: ¬ s.toList=[]:=fun h=>h0 (by rw[← HL.o,← toList_eq,h];rfl);have t1:s.toList.isEmpty= false:=by rw[Bool.eq_false_iff];intro h;exact t0 (List.isEmpty_iff.1 h)
 by_cases h1:s.size<=30
 ·have t2:(s.size:Int)<=30:=by omega
  have K:Hid (nameB s= z00 s.data.toList 0):=I (by rw[HN.o,decide_eq_true (by omega),decide_eq_true h1];rfl);have a4:∀ W:World,(convert 9 188 (.string s)).run Tryz.prog W= .ok (.slice (some ⟨W.heap.size,0,none⟩) s.size (grownCap W s.size 0 5)) (W.drew.alloc (.cells (bytesRow s (grownCap W s.size 0 5)) 5 ((bytesRow s (grownCap W s.size 0 5)).size,(bytesRow s (grownCap W s.size 0 5)).size+1))):=fun W=>run_bytes_of_string W _ _ _ s Tryz.underlying9 Tryz.underlying188 Tryz.underlying5;have HC:=I (fun(W:World) (n:Nat) fz (k:Nat) (c:UInt8) (h:s.data.toList[k]?= some c)=>(zbY W (bytesRow s n) 5 fz k).trans (z58 s n k h));have N:=I (fun k c=>z5g (l:=s.data.toList) (k:=k) (c:=c));have HE:Hid (∀ k,z00 (s.data.toList.drop s.size) k= true):=I fun k=>by rw[List.drop_eq_nil_of_le (by rw[HL.o];exact Nat.le_refl _)];rfl
  have H0:Hid (z00 (s.data.toList.drop 0) 0= z00 s.data.toList 0):=I rfl;generalize z00 s.data.toList 0= res at*;go_enter Tryz.func90,Tryz.ntmps90;go_upto_region 4 with (fail);have a2:Hid (∀ (k:Nat) c,s.data.toList[k]?= some c->((w.alloc (Obj.cells (bytesRow s (grownCap w s.size 0 5)) 5 ((bytesRow s (grownCap w s.size 0 5)).size,(bytesRow s (grownCap w s.size 0 5)).size+1))).drew).cell? ⟨w.heap.size,k,none⟩= some (.int .u8 c.toNat)):=I (fun k c h=>HC.o w _ _ k c h);have X:Hid (Below w.heap.size w ((w.alloc (Obj.cells (bytesRow s (grownCap w s.size 0 5)) 5 ((bytesRow s (grownCap w s.size 0 5)).size,(bytesRow s (grownCap w s.size 0 5)).size+1))).drew)):=I (zc w _).drew;generalize (w.alloc (Obj.cells (bytesRow s (grownCap w s.size 0 5)) 5 ((bytesRow s (grownCap w s.size 0 5)).size,(bytesRow s (grownCap w s.size 0 5)).size+1))).drew= W1 at*;generalize grownCap w s.size 0 5= cp at*;clear a4 HC HN;go_wp2;go_loopg [15] s.size (fun q x u=>∃ k:Nat,k+q= s.size/\x= .int .i64 k/\u= W1/\z00 (s.data.toList.drop k) k= res);case atStart=>exact⟨0,by omega,rfl,rfl,H0.o⟩
  case round=>
   obtain⟨k,hk,rfl,rfl,O⟩:=hrel;have A:=I O;clear O;cases gk with
   |zero=>
    obtain rfl:k= s.size:=by omega
    have b0: ¬ ((s.size:Int) <(s.size:Int)):=by omega
    have G:=I (A.o.symm.trans (HE.o s.size));go_wp2;go_ret;exact⟨z8 (K.o.trans G.o).symm,X.o⟩
   |succ q=>
    have b1:(k:Int) <(s.size:Int):=by omega
    obtain⟨c,hc⟩:∃ c,s.data.toList[k]?= some c:=⟨_,List.getElem?_eq_getElem (by rw[HL.o];omega)⟩;have dk:=a2.o k c hc;have C:=I hc;clear hc;by_cases h97:97<=c.toNat
    ·by_cases h122:c.toNat<=122
     ·have d97:decide (97<=c.toNat)= true:=decide_eq_true (by omega)
      have d122:decide (c.toNat<=122)= true:=decide_eq_true (by omega);have f97:97<=(c.toNat:Int):=by omega
      have f122:(c.toNat:Int)<=122:=by omega
      have g:okC k c= true:=by unfold okC;simp only[d97,d122,Bool.and_self,Bool.true_or];try rfl
      have G:Hid (res= z00 (s.data.toList.drop (k+1)) (k+1)):=I (A.o.symm.trans ((N.o k c C.o).trans (by rw[g];exact Bool.true_and _)));clear g;go_wp2;go_roundg q;case measure=>omega
      case rel=>exact⟨k+1,by omega,by go_num,rfl,G.o.symm⟩
     ·have d97:decide (97<=c.toNat)= true:=decide_eq_true (by omega)
      have d122:decide (c.toNat<=122)= false:=decide_eq_false (by omega);have f97:97<=(c.toNat:Int):=by omega
      have f122: ¬ ((c.toNat:Int)<=122):=by omega
      by_cases hk0:k= 0
      ·subst hk0
       have d0:decide ((0:Nat) < 0)= false:=rfl;have g:okC 0 c= false:=by unfold okC;simp only[d97,d122,Bool.and_false,Bool.false_or,d0,Bool.false_and,Bool.or_false,Bool.and_false,Bool.true_and];try rfl
       have G:Hid (res= false):=I (A.o.symm.trans ((N.o 0 c C.o).trans (by rw[g];exact Bool.false_and _)));clear g;go_wp2;go_ret;exact⟨z8 (K.o.trans G.o).symm,X.o⟩
      ·have d0:decide (0 < k)= true:=decide_eq_true (by omega)
       have a5:0 <(k:Int):=by omega
       by_cases h95:c.toNat= 95
       ·have e1:(c.toNat ==95)= true:=by simpa using h95
        have Y:(c.toNat:Int)= 95:=by omega
        have g:okC k c= true:=by unfold okC;simp only[d97,d122,Bool.and_false,Bool.false_or,d0,e1,Bool.true_or,Bool.true_and,Bool.and_self,Bool.false_and,Bool.and_false,Bool.false_or];try rfl
        have G:Hid (res= z00 (s.data.toList.drop (k+1)) (k+1)):=I (A.o.symm.trans ((N.o k c C.o).trans (by rw[g];exact Bool.true_and _)));clear g;go_wp2;go_roundg q;case measure=>omega
        case rel=>exact⟨k+1,by omega,by go_num,rfl,G.o.symm⟩
       ·have e1:(c.toNat ==95)= false:=by simpa using h95
        have Y:((c.toNat:Int) ==95)= false:=by rw[beq_eq_false_iff_ne];omega
        by_cases h48:48<=c.toNat
        ·by_cases h57:c.toNat<=57
         ·have d48:decide (48<=c.toNat)= true:=decide_eq_true (by omega)
          have d57:decide (c.toNat<=57)= true:=decide_eq_true (by omega);have f48:48<=(c.toNat:Int):=by omega
          have f57:(c.toNat:Int)<=57:=by omega
          have g:okC k c= true:=by unfold okC;simp only[d97,d122,Bool.and_false,Bool.false_or,d0,e1,d48,d57,Bool.false_and,Bool.and_false,Bool.false_or,Bool.or_true,Bool.and_self];try rfl
          have G:Hid (res= z00 (s.data.toList.drop (k+1)) (k+1)):=I (A.o.symm.trans ((N.o k c C.o).trans (by rw[g];exact Bool.true_and _)));clear g;go_wp2;go_roundg q;case measure=>omega
          case rel=>exact⟨k+1,by omega,by go_num,rfl,G.o.symm⟩
         ·have d48:decide (48<=c.toNat)= true:=decide_eq_true (by omega)
          have d57:decide (c.toNat<=57)= false:=decide_eq_false (by omega);have f48:48<=(c.toNat:Int):=by omega
          have f57: ¬ ((c.toNat:Int)<=57):=by omega
          have g:okC k c= false:=by unfold okC;simp only[d97,d122,Bool.and_false,Bool.false_or,d0,e1,d48,d57,Bool.false_and,Bool.and_false,Bool.false_or,Bool.or_self,Bool.and_self];try rfl
          have G:Hid (res= false):=I (A.o.symm.trans ((N.o k c C.o).trans (by rw[g];exact Bool.false_and _)));clear g;go_wp2;go_ret;exact⟨z8 (K.o.trans G.o).symm,X.o⟩
        ·have d48:decide (48<=c.toNat)= false:=decide_eq_false (by omega)
         have f48: ¬ (48<=(c.toNat:Int)):=by omega
         have g:okC k c= false:=by unfold okC;simp only[d97,d122,Bool.and_false,Bool.false_or,d0,e1,d48,Bool.false_and,Bool.and_false,Bool.false_or,Bool.or_self,Bool.and_self];try rfl
         have G:Hid (res= false):=I (A.o.symm.trans ((N.o k c C.o).trans (by rw[g];exact Bool.false_and _)));clear g;go_wp2;go_ret;exact⟨z8 (K.o.trans G.o).symm,X.o⟩
    ·have d97:decide (97<=c.toNat)= false:=decide_eq_false (by omega)
     have f97: ¬ (97<=(c.toNat:Int)):=by omega
     by_cases hk0:k= 0
     ·subst hk0
      have d0:decide ((0:Nat) < 0)= false:=rfl;have g:okC 0 c= false:=by unfold okC;simp only[d97,Bool.false_and,Bool.false_or,d0,Bool.false_and,Bool.or_false,Bool.and_false,Bool.true_and];try rfl
      have G:Hid (res= false):=I (A.o.symm.trans ((N.o 0 c C.o).trans (by rw[g];exact Bool.false_and _)));clear g;go_wp2;go_ret;exact⟨z8 (K.o.trans G.o).symm,X.o⟩
     ·have d0:decide (0 < k)= true:=decide_eq_true (by omega)
      have a5:0 <(k:Int):=by omega
      by_cases h95:c.toNat= 95
      ·have e1:(c.toNat ==95)= true:=by simpa using h95
       have Y:(c.toNat:Int)= 95:=by omega
       have g:okC k c= true:=by unfold okC;simp only[d97,Bool.false_and,Bool.false_or,d0,e1,Bool.true_or,Bool.true_and,Bool.and_self,Bool.false_and,Bool.and_false,Bool.false_or];try rfl
       have G:Hid (res= z00 (s.data.toList.drop (k+1)) (k+1)):=I (A.o.symm.trans ((N.o k c C.o).trans (by rw[g];exact Bool.true_and _)));clear g;go_wp2;go_roundg q;case measure=>omega
       case rel=>exact⟨k+1,by omega,by go_num,rfl,G.o.symm⟩
      ·have e1:(c.toNat ==95)= false:=by simpa using h95
       have Y:((c.toNat:Int) ==95)= false:=by rw[beq_eq_false_iff_ne];omega
       by_cases h48:48<=c.toNat
       ·by_cases h57:c.toNat<=57
        ·have d48:decide (48<=c.toNat)= true:=decide_eq_true (by omega)
         have d57:decide (c.toNat<=57)= true:=decide_eq_true (by omega);have f48:48<=(c.toNat:Int):=by omega
         have f57:(c.toNat:Int)<=57:=by omega
         have g:okC k c= true:=by unfold okC;simp only[d97,Bool.false_and,Bool.false_or,d0,e1,d48,d57,Bool.false_and,Bool.and_false,Bool.false_or,Bool.or_true,Bool.and_self];try rfl
         have G:Hid (res= z00 (s.data.toList.drop (k+1)) (k+1)):=I (A.o.symm.trans ((N.o k c C.o).trans (by rw[g];exact Bool.true_and _)));clear g;go_wp2;go_roundg q;case measure=>omega
         case rel=>exact⟨k+1,by omega,by go_num,rfl,G.o.symm⟩
        ·have d48:decide (48<=c.toNat)= true:=decide_eq_true (by omega)
         have d57:decide (c.toNat<=57)= false:=decide_eq_false (by omega);have f48:48<=(c.toNat:Int):=by omega
         have f57: ¬ ((c.toNat:Int)<=57):=by omega
         have g:okC k c= false:=by unfold okC;simp only[d97,Bool.false_and,Bool.false_or,d0,e1,d48,d57,Bool.false_and,Bool.and_false,Bool.false_or,Bool.or_self,Bool.and_self];try rfl
         have G:Hid (res= false):=I (A.o.symm.trans ((N.o k c C.o).trans (by rw[g];exact Bool.false_and _)));clear g;go_wp2;go_ret;exact⟨z8 (K.o.trans G.o).symm,X.o⟩
       ·have d48:decide (48<=c.toNat)= false:=decide_eq_false (by omega)
        have f48: ¬ (48<=(c.toNat:Int)):=by omega
        have g:okC k c= false:=by unfold okC;simp only[d97,Bool.false_and,Bool.false_or,d0,e1,d48,Bool.false_and,Bool.and_false,Bool.false_or,Bool.or_self,Bool.and_self];try rfl
        have G:Hid (res= false):=I (A.o.symm.trans ((N.o k c C.o).trans (by rw[g];exact Bool.false_and _)));clear g;go_wp2;go_ret;exact⟨z8 (K.o.trans G.o).symm,X.o⟩
 ·have t2: ¬ ((s.size:Int)<=30):=by omega
  have K:Hid (nameB s= false):=I (by rw[HN.o,decide_eq_false h1,Bool.and_false];rfl);go_enter Tryz.func90,Tryz.ntmps90;go_wp2;go_ret;exact⟨z8 K.o.symm,Below.refl _ w⟩
end
section
open Go Go.RowKit
def bareB (a b c d:Bool) (n:Int) (f:Nat) (s:ByteArray) (ns its:Nat):Bool:=(a || n ==0) && ((b || cmpF f 0 ==0) && ((c || s.toList.isEmpty) && (d ||(ns ==0 && its ==0))))
theorem zbR (p o:Nat) (k n:Int) (f:Nat) (s:ByteArray) (A D:Option Addr) (ns its ca cd:Nat) (w:World) (hf0:f < 2 ^ 64) (h:w.rangeAt p o [.int .i64 k,.int .i64 n,.float .f64 f,.string s,.slice A ns ca,.slice D its cd]):
  Calls Tryz.prog 107 #[.pointer (some ⟨p,o,none⟩),.bool true,.bool false,.bool false,.bool false] w fun e w'=>e= .returned (.bool (bareB true false false false n f s ns its))/\w'= w:=by
 have d1:=h 1 _ rfl;have d2:=h 2 _ rfl;have d3:=h 3 _ rfl;have d4:=h 4 _ rfl;have d5:=h 5 _ rfl;have g:=I (fun w=>z16 f 0 hf0 (by decide) w);clear h hf0;by_cases hf:cmpF f 0= 0
 ·have t2:(cmpF f 0 ==0)= true:=by simpa using hf
  by_cases hs:s.toList=[]
  ·have t3:s.toList.isEmpty= true:=by rw[hs];rfl
   by_cases hm:ns= 0
   ·have t4:(ns ==0)= true:=by simpa using hm
    have G:((ns:Int) ==0)= true:=by rw[hm];rfl
    by_cases hi:its= 0
    ·have t5:(its ==0)= true:=by simpa using hi
     have K:((its:Int) ==0)= true:=by rw[hi];rfl
     have C:Hid (bareB true false false false n f s ns its= true):=I (by unfold bareB;simp[t2,t3,t4,t5]);generalize cmpF f 0= cf at*;go_enter Tryz.func107,Tryz.ntmps107;go_wp2_with (go_at_call 144;refine(g.o _).mono ?_;rintro e z ⟨rfl,rfl⟩);go_ret;exact⟨z8 C.o.symm,rfl⟩
    ·have t5:(its ==0)= false:=by simpa using hi
     have K:((its:Int) ==0)= false:=by rw[beq_eq_false_iff_ne];omega
     have C:Hid (bareB true false false false n f s ns its= false):=I (by unfold bareB;simp[t2,t3,t4,t5]);generalize cmpF f 0= cf at*;go_enter Tryz.func107,Tryz.ntmps107;go_wp2_with (go_at_call 144;refine(g.o _).mono ?_;rintro e z ⟨rfl,rfl⟩);go_ret;exact⟨z8 C.o.symm,rfl⟩
   ·have t4:(ns ==0)= false:=by simpa using hm
    have G:((ns:Int) ==0)= false:=by rw[beq_eq_false_iff_ne];omega
    have C:Hid (bareB true false false false n f s ns its= false):=I (by unfold bareB;simp[t2,t3,t4]);generalize cmpF f 0= cf at*;go_enter Tryz.func107,Tryz.ntmps107;go_wp2_with (go_at_call 144;refine(g.o _).mono ?_;rintro e z ⟨rfl,rfl⟩);go_ret;exact⟨z8 C.o.symm,rfl⟩
  ·have t3:s.toList.isEmpty= false:=by rw[Bool.eq_false_iff];intro h;exact hs (List.isEmpty_iff.1 h)
   have C:Hid (bareB true false false false n f s ns its= false):=I (by unfold bareB;simp[t2,t3]);generalize cmpF f 0= cf at*;go_enter Tryz.func107,Tryz.ntmps107;go_wp2_with (go_at_call 144;refine(g.o _).mono ?_;rintro e z ⟨rfl,rfl⟩);go_ret;exact⟨z8 C.o.symm,rfl⟩
 ·have t2:(cmpF f 0 ==0)= false:=by simpa using hf
  have C:Hid (bareB true false false false n f s ns its= false):=I (by unfold bareB;simp[t2]);generalize cmpF f 0= cf at*;go_enter Tryz.func107,Tryz.ntmps107;go_wp2_with (go_at_call 144;refine(g.o _).mono ?_;rintro e z ⟨rfl,rfl⟩);go_ret;exact⟨z8 C.o.symm,rfl⟩
theorem zgL (p o:Nat) (k n:Int) (f:Nat) (s:ByteArray) (A D:Option Addr) (ns its ca cd:Nat) (w:World) (hf0:f < 2 ^ 64) (h:w.rangeAt p o [.int .i64 k,.int .i64 n,.float .f64 f,.string s,.slice A ns ca,.slice D its cd]):
  Calls Tryz.prog 107 #[.pointer (some ⟨p,o,none⟩),.bool false,.bool true,.bool false,.bool false] w fun e w'=>e= .returned (.bool (bareB false true false false n f s ns its))/\w'= w:=by
 have d1:=h 1 _ rfl;have d2:=h 2 _ rfl;have d3:=h 3 _ rfl;have d4:=h 4 _ rfl;have d5:=h 5 _ rfl;have g:=I (fun w=>z16 f 0 hf0 (by decide) w);clear h hf0;by_cases hn:n= 0
 ·have t1:(n ==0)= true:=by simpa using hn
  by_cases hs:s.toList=[]
  ·have t3:s.toList.isEmpty= true:=by rw[hs];rfl
   by_cases hm:ns= 0
   ·have t4:(ns ==0)= true:=by simpa using hm
    have G:((ns:Int) ==0)= true:=by rw[hm];rfl
    by_cases hi:its= 0
    ·have t5:(its ==0)= true:=by simpa using hi
     have K:((its:Int) ==0)= true:=by rw[hi];rfl
     have C:Hid (bareB false true false false n f s ns its= true):=I (by unfold bareB;simp[t1,t3,t4,t5]);generalize cmpF f 0= cf at*;go_enter Tryz.func107,Tryz.ntmps107;go_wp2_with (go_at_call 144;refine(g.o _).mono ?_;rintro e z ⟨rfl,rfl⟩);go_ret;exact⟨z8 C.o.symm,rfl⟩
    ·have t5:(its ==0)= false:=by simpa using hi
     have K:((its:Int) ==0)= false:=by rw[beq_eq_false_iff_ne];omega
     have C:Hid (bareB false true false false n f s ns its= false):=I (by unfold bareB;simp[t1,t3,t4,t5]);generalize cmpF f 0= cf at*;go_enter Tryz.func107,Tryz.ntmps107;go_wp2_with (go_at_call 144;refine(g.o _).mono ?_;rintro e z ⟨rfl,rfl⟩);go_ret;exact⟨z8 C.o.symm,rfl⟩
   ·have t4:(ns ==0)= false:=by simpa using hm
    have G:((ns:Int) ==0)= false:=by rw[beq_eq_false_iff_ne];omega
    have C:Hid (bareB false true false false n f s ns its= false):=I (by unfold bareB;simp[t1,t3,t4]);generalize cmpF f 0= cf at*;go_enter Tryz.func107,Tryz.ntmps107;go_wp2_with (go_at_call 144;refine(g.o _).mono ?_;rintro e z ⟨rfl,rfl⟩);go_ret;exact⟨z8 C.o.symm,rfl⟩
  ·have t3:s.toList.isEmpty= false:=by rw[Bool.eq_false_iff];intro h;exact hs (List.isEmpty_iff.1 h)
   have C:Hid (bareB false true false false n f s ns its= false):=I (by unfold bareB;simp[t1,t3]);generalize cmpF f 0= cf at*;go_enter Tryz.func107,Tryz.ntmps107;go_wp2_with (go_at_call 144;refine(g.o _).mono ?_;rintro e z ⟨rfl,rfl⟩);go_ret;exact⟨z8 C.o.symm,rfl⟩
 ·have t1:(n ==0)= false:=by simpa using hn
  have C:Hid (bareB false true false false n f s ns its= false):=I (by unfold bareB;simp[t1]);generalize cmpF f 0= cf at*;go_enter Tryz.func107,Tryz.ntmps107;go_wp2_with (go_at_call 144;refine(g.o _).mono ?_;rintro e z ⟨rfl,rfl⟩);go_ret;exact⟨z8 C.o.symm,rfl⟩
theorem zgM (p o:Nat) (k n:Int) (f:Nat) (s:ByteArray) (A D:Option Addr) (ns its ca cd:Nat) (w:World) (hf0:f < 2 ^ 64) (h:w.rangeAt p o [.int .i64 k,.int .i64 n,.float .f64 f,.string s,.slice A ns ca,.slice D its cd]):
  Calls Tryz.prog 107 #[.pointer (some ⟨p,o,none⟩),.bool false,.bool false,.bool true,.bool false] w fun e w'=>e= .returned (.bool (bareB false false true false n f s ns its))/\w'= w:=by
 have d1:=h 1 _ rfl;have d2:=h 2 _ rfl;have d3:=h 3 _ rfl;have d4:=h 4 _ rfl;have d5:=h 5 _ rfl;have g:=I (fun w=>z16 f 0 hf0 (by decide) w);clear h hf0;by_cases hn:n= 0
 ·have t1:(n ==0)= true:=by simpa using hn
  by_cases hf:cmpF f 0= 0
  ·have t2:(cmpF f 0 ==0)= true:=by simpa using hf
   by_cases hm:ns= 0
   ·have t4:(ns ==0)= true:=by simpa using hm
    have G:((ns:Int) ==0)= true:=by rw[hm];rfl
    by_cases hi:its= 0
    ·have t5:(its ==0)= true:=by simpa using hi
     have K:((its:Int) ==0)= true:=by rw[hi];rfl
     have C:Hid (bareB false false true false n f s ns its= true):=I (by unfold bareB;simp[t1,t2,t4,t5]);generalize cmpF f 0= cf at*;go_enter Tryz.func107,Tryz.ntmps107;go_wp2_with (go_at_call 144;refine(g.o _).mono ?_;rintro e z ⟨rfl,rfl⟩);go_ret;exact⟨z8 C.o.symm,rfl⟩
    ·have t5:(its ==0)= false:=by simpa using hi
     have K:((its:Int) ==0)= false:=by rw[beq_eq_false_iff_ne];omega
     have C:Hid (bareB false false true false n f s ns its= false):=I (by unfold bareB;simp[t1,t2,t4,t5]);generalize cmpF f 0= cf at*;go_enter Tryz.func107,Tryz.ntmps107;go_wp2_with (go_at_call 144;refine(g.o _).mono ?_;rintro e z ⟨rfl,rfl⟩);go_ret;exact⟨z8 C.o.symm,rfl⟩
   ·have t4:(ns ==0)= false:=by simpa using hm
    have G:((ns:Int) ==0)= false:=by rw[beq_eq_false_iff_ne];omega
    have C:Hid (bareB false false true false n f s ns its= false):=I (by unfold bareB;simp[t1,t2,t4]);generalize cmpF f 0= cf at*;go_enter Tryz.func107,Tryz.ntmps107;go_wp2_with (go_at_call 144;refine(g.o _).mono ?_;rintro e z ⟨rfl,rfl⟩);go_ret;exact⟨z8 C.o.symm,rfl⟩
  ·have t2:(cmpF f 0 ==0)= false:=by simpa using hf
   have C:Hid (bareB false false true false n f s ns its= false):=I (by unfold bareB;simp[t1,t2]);generalize cmpF f 0= cf at*;go_enter Tryz.func107,Tryz.ntmps107;go_wp2_with (go_at_call 144;refine(g.o _).mono ?_;rintro e z ⟨rfl,rfl⟩);go_ret;exact⟨z8 C.o.symm,rfl⟩
 ·have t1:(n ==0)= false:=by simpa using hn
  have C:Hid (bareB false false true false n f s ns its= false):=I (by unfold bareB;simp[t1]);generalize cmpF f 0= cf at*;go_enter Tryz.func107,Tryz.ntmps107;go_wp2_with (go_at_call 144;refine(g.o _).mono ?_;rintro e z ⟨rfl,rfl⟩);go_ret;exact⟨z8 C.o.symm,rfl⟩
theorem zbS (p o:Nat) (k n:Int) (f:Nat) (s:ByteArray) (A D:Option Addr) (ns its ca cd:Nat) (w:World) (hf0:f < 2 ^ 64) (h:w.rangeAt p o [.int .i64 k,.int .i64 n,.float .f64 f,.string s,.slice A ns ca,.slice D its cd]):
  Calls Tryz.prog 107 #[.pointer (some ⟨p,o,none⟩),.bool false,.bool false,.bool false,.bool true] w fun e w'=>e= .returned (.bool (bareB false false false true n f s ns its))/\w'= w:=by
 have d1:=h 1 _ rfl;have d2:=h 2 _ rfl;have d3:=h 3 _ rfl;have d4:=h 4 _ rfl;have d5:=h 5 _ rfl;have g:=I (fun w=>z16 f 0 hf0 (by decide) w);clear h hf0;by_cases hn:n= 0
 ·have t1:(n ==0)= true:=by simpa using hn
  by_cases hf:cmpF f 0= 0
  ·have t2:(cmpF f 0 ==0)= true:=by simpa using hf
   by_cases hs:s.toList=[]
   ·have t3:s.toList.isEmpty= true:=by rw[hs];rfl
    have C:Hid (bareB false false false true n f s ns its= true):=I (by unfold bareB;simp[t1,t2,t3]);generalize cmpF f 0= cf at*;go_enter Tryz.func107,Tryz.ntmps107;go_wp2_with (go_at_call 144;refine(g.o _).mono ?_;rintro e z ⟨rfl,rfl⟩);go_ret;exact⟨z8 C.o.symm,rfl⟩
   ·have t3:s.toList.isEmpty= false:=by rw[Bool.eq_false_iff];intro h;exact hs (List.isEmpty_iff.1 h)
    have C:Hid (bareB false false false true n f s ns its= false):=I (by unfold bareB;simp[t1,t2,t3]);generalize cmpF f 0= cf at*;go_enter Tryz.func107,Tryz.ntmps107;go_wp2_with (go_at_call 144;refine(g.o _).mono ?_;rintro e z ⟨rfl,rfl⟩);go_ret;exact⟨z8 C.o.symm,rfl⟩
  ·have t2:(cmpF f 0 ==0)= false:=by simpa using hf
   have C:Hid (bareB false false false true n f s ns its= false):=I (by unfold bareB;simp[t1,t2]);generalize cmpF f 0= cf at*;go_enter Tryz.func107,Tryz.ntmps107;go_wp2_with (go_at_call 144;refine(g.o _).mono ?_;rintro e z ⟨rfl,rfl⟩);go_ret;exact⟨z8 C.o.symm,rfl⟩
 ·have t1:(n ==0)= false:=by simpa using hn
  have C:Hid (bareB false false false true n f s ns its= false):=I (by unfold bareB;simp[t1]);generalize cmpF f 0= cf at*;go_enter Tryz.func107,Tryz.ntmps107;go_wp2_with (go_at_call 144;refine(g.o _).mono ?_;rintro e z ⟨rfl,rfl⟩);go_ret;exact⟨z8 C.o.symm,rfl⟩
def riseB:Option ByteArray->List ByteArray->Bool
 |_,[]=>true
 |none,s::l=>nameB s && riseB (some s) l
 |some p,s::l=>nameB s && (Op.bytesLess p.toList s.toList && riseB (some s) l)
def prevK (l:List ByteArray) (k:Nat):Option ByteArray:=if k= 0 then none else l[k - 1]?
theorem z6j {l:List ByteArray} {s:ByteArray} (h:l[0]?= some s):riseB (prevK l 0) (l.drop 0)=(nameB s && riseB (prevK l 1) (l.drop 1)):=by
 rw[z0d h];show(nameB s && riseB (some s) (l.drop 1))= _;unfold prevK;simp[h]
theorem z7G {l:List ByteArray} {k:Nat} {p s:ByteArray} (hp:l[k]?= some p) (h:l[k+1]?= some s):riseB (prevK l (k+1)) (l.drop (k+1))=(nameB s && (Op.bytesLess p.toList s.toList && riseB (prevK l (k+2)) (l.drop (k+2)))):=by
 rw[z0d h];have h1:prevK l (k+1)= some p:=by unfold prevK;simp[hp]
 have h2:prevK l (k+2)= some s:=by unfold prevK;simp[h]
 rw[h1,h2];rfl
theorem z91 {l:List ByteArray}:riseB (prevK l l.length) (l.drop l.length)= true:=by
 rw[List.drop_eq_nil_of_le (Nat.le_refl _)];rw[riseB]
theorem z6k (v:Value) (l:List ByteArray) (w:World) (hv:SlAt w w.heap.size 1 StrR v l):
  Calls Tryz.prog 108 #[v] w fun e w'=>e= .returned (.bool (riseB none l))/\Below w.heap.size w w':=by
 obtain⟨_,A,c,rfl,_⟩:=id hv;obtain⟨_,hl,ha⟩:=z1l hv;have HA:=I ha;have H1:=I (fun s=>z6j (l:=l) (s:=s));have H2:=I (fun k p s=>z7G (l:=l) (k:=k) (p:=p) (s:=s));have HE:=I (z91 (l:=l));have H0:Hid (riseB (prevK l 0) (l.drop 0)= riseB none l):=I rfl;have c8:(l.length:Int)<=9223372036854775807:=by omega
 clear ha hv;generalize riseB none l= res at*;go_enter Tryz.func108,Tryz.ntmps108;go_wp2;go_loopg [7] l.length (fun q x u=>∃ k:Nat,k+q= l.length/\x= .int .i64 k/\Below w.heap.size w u/\riseB (prevK l k) (l.drop k)= res);case atStart=>exact⟨0,by omega,rfl,Below.refl _ _,H0.o⟩
 case round=>
  obtain⟨k,hk,rfl,hb,X⟩:=hrel;have HR:=I X;have C:=I hb;clear X hb;cases gk with
  |zero=>
   obtain rfl:k= l.length:=by omega
   have c6: ¬ ((l.length:Int) <(l.length:Int)):=by omega
   have O:=I (HR.o.symm.trans HE.o);clear HR;go_wp2;go_ret;exact⟨z8 O.o.symm,C.o⟩
  |succ q=>
   have c9:(k:Int) <(l.length:Int):=by omega
   obtain⟨s,hs⟩:∃ s,l[k]?= some s:=⟨_,List.getElem?_eq_getElem (by omega)⟩;obtain⟨b,o,rfl,a0,hc⟩:=HA.o (by omega);have a6:=I (fun i x hx=>(hc i x hx).1);have a2:=I a0;have ds:=(C.o.cell (p:=⟨b,o+k,none⟩) a0).trans (hc k s hs).1;have N:=I (z5z s wr);have a4:=I hs;clear hc a0 hs;rcases Nat.eq_zero_or_pos k with a5|a5
   ·subst a5
    have c5:wr.cell? ⟨b,o,none⟩= some (.string s):=ds;have b2:(0:Int) <(l.length:Int):=by omega
    have O:=I (HR.o.symm.trans (H1.o s a4.o));clear HR;generalize nameB s= nb at*;cases nb with
    |false=>
     have G:Hid (res= false):=I (O.o.trans (Bool.false_and _));clear O;go_wp2_with (go_at_call 90;refine zg N.o ?_;intro z g);go_ret;exact⟨z8 G.o.symm,(beT C.o g.o)⟩
    |true=>
     have G:=I (O.o.trans (Bool.true_and _));clear O;go_wp2_with (go_at_call 90;refine zg N.o ?_;intro z g);go_roundg q;case measure=>omega
     case rel=>exact⟨1,by omega,by go_num,(beT C.o g.o),G.o.symm⟩
   ·obtain⟨j,rfl⟩:∃ j,k= j+1:=⟨k - 1,by omega⟩
    obtain⟨p,hp⟩:∃ p,l[j]?= some p:=⟨_,List.getElem?_eq_getElem (by omega)⟩;have O:=I (HR.o.symm.trans (H2.o j p s hp a4.o));have a3:=I (a6.o j p hp);have b3:(0:Int) <((j+1:Nat):Int):=by omega
    have c7:(j:Int) <(l.length:Int):=by omega
    clear HR hp;generalize nameB s= nb at*;cases nb with
    |false=>
     have G:Hid (res= false):=I (O.o.trans (Bool.false_and _));clear O;go_wp2_with (go_at_call 90;refine zg N.o ?_;intro z g);go_ret;exact⟨z8 G.o.symm,(beT C.o g.o)⟩
    |true=>
     have G:=I (O.o.trans (Bool.true_and _));clear O;cases hlt3:Op.bytesLess p.toList s.toList with
     |false=>
      have Y:Hid (res= false):=I (G.o.trans (by rw[hlt3];exact Bool.false_and _));go_wp2_with (go_at_call 90;refine N.o.mono ?_;rintro e z ⟨rfl,K⟩;have g:=I K;have dp:=(((beT C.o K).cell (p:=⟨b,o+j,none⟩) a2.o)).trans a3.o;clear K);go_ret;exact⟨z8 Y.o.symm,(beT C.o g.o)⟩
     |true=>
      have Y:=I (G.o.trans (by rw[hlt3,Bool.true_and]));go_wp2_with (go_at_call 90;refine N.o.mono ?_;rintro e z ⟨rfl,K⟩;have g:=I K;have dp:=(((beT C.o K).cell (p:=⟨b,o+j,none⟩) a2.o)).trans a3.o;clear K);go_roundg q;case measure=>omega
      case rel=>exact⟨j+2,by omega,by go_num,(beT C.o g.o),Y.o.symm⟩
mutual
def cntV:VT->Nat->Nat
 | .mk _ _ _ _ _ its,n=>cntL its (n+1)
def cntL:List VT->Nat->Nat
 |[],n=>n
 |a::l,n=>if 500<=n then n else cntL l (cntV a n)
end
theorem za6:∀ (l:List VT) (n:Nat),(∀ x∈l,∀ m,m < 500->cntV x m<=500)->n<=500->cntL l n<=500
 |[],n,_,h=>by rw[cntL];exact h
 |a::l,n,h,hn=>by
  rw[cntL]
  split
  ·exact hn
  ·exact za6 l _ (fun x hx=>h x (List.mem_cons_of_mem _ hx)) (h a (List.mem_cons_self ..) n (by omega))
theorem zab (t:VT):∀ m,m < 500->cntV t m<=500:=by
 induction t using VT.ind with
 |h k n f s ns its ih=>exact fun m hm=>by rw[cntV];exact za6 its _ ih (by omega)
theorem z7b {l:List VT} {k m:Nat} {x:VT} (h:l[k]?= some x):cntL (l.drop k) m= if 500<=m then m else cntL (l.drop (k+1)) (cntV x m):=by
 rw[z0d h,cntL]
theorem z8d {l:List VT} {m:Nat}:cntL (l.drop l.length) m= m:=by
 rw[List.drop_eq_nil_of_le (Nat.le_refl _),cntL]
theorem z9C:∀ (t:VT) (m:Nat) (cs:List Value) (p o:Nat) (w:World),m < 500->w.rangeAt p o cs->ValAt w w.heap.size cs t->
  Calls Tryz.prog 106 #[.pointer (some ⟨p,o,none⟩),.int .i64 m] w fun e w'=>e= .returned (.int .i64 (cntV t m:Nat))/\w'= w:=by
 intro t
 induction t using VT.ind with
 |h k n f s ns its ih=>
  intro m cs p o w hm hr hv;have IH:=I ih;obtain⟨vn,vi,rfl,_,_,_,_,_,_,hi⟩:=hv.inv;obtain⟨A,c,rfl,b5,hA⟩:=z1e hi;have HA:=I hA;have d5:=hr 5 _ rfl;have HS:=I (fun k m x=>z7b (l:=its) (k:=k) (m:=m) (x:=x));have HE:=I (fun m=>z8d (l:=its) (m:=m));have X:=I (fun x m hm=>zab x m hm);have H0:Hid (cntL (its.drop 0) (m+1)= cntV (.mk k n f s ns its) m):=I (by rw[cntV];rfl);have b7:(m:Int) < 500:=by omega
  clear ih hi hA hr hv;generalize cntV (.mk k n f s ns its) m= res at*;go_enter Tryz.func106,Tryz.ntmps106;go_wp2;go_loopg [1,13] its.length (fun q n x u=>∃ (j m:Nat),j+q= its.length/\x= .int .i64 j/\n= .int .i64 m/\m<=500/\u= w/\cntL (its.drop j) m= res);case atStart=>exact⟨0,m+1,by omega,rfl,by go_num,by omega,rfl,H0.o⟩
  case round=>
   obtain⟨j,m,hj,rfl,rfl,b8,rfl,g⟩:=hrel;have HR:=I g;clear g;cases gk with
   |zero=>
    obtain rfl:j= its.length:=by omega
    have b4: ¬ ((its.length:Int) <(its.length:Int)):=by omega
    have N:=I (HR.o.symm.trans (HE.o m));go_wp2;go_ret;exact⟨by rw[N.o];rfl,rfl⟩
   |succ q=>
    have b6:(j:Int) <(its.length:Int):=by omega
    obtain⟨x,O⟩:∃ x,its[j]?= some x:=⟨_,List.getElem?_eq_getElem (by omega)⟩;obtain⟨b,o',rfl,b3,Y⟩:=HA.o (by omega);obtain⟨ks,G,K⟩:=Y j x O;have N:=I (HR.o.symm.trans (HS.o j m x O));by_cases h5:500<=m
    ·have C:=I (N.o.trans (if_pos h5))
     have t1:(500:Int)<=(m:Int):=by omega
     clear Y G K O N;go_wp2;go_ret;exact⟨by rw[C.o];rfl,rfl⟩
    ·have C:=I (N.o.trans (if_neg h5))
     have t1: ¬ ((500:Int)<=(m:Int)):=by omega
     have HC:=I (IH.o x (List.mem_of_getElem? O) m ks b (o'+j*6) wr (by omega) G K);have a0:=X.o x m (by omega);clear Y G K O N h5;go_wp2_with (go_at_call 106;refine HC.o.mono ?_;rintro e z ⟨rfl,rfl⟩);go_roundg q;case measure=>omega
     case rel=>exact⟨j+1,_,by omega,by go_num,rfl,a0,rfl,C.o.symm⟩
theorem zcP (t:VT) (cs:List Value) (w:World) (hv:ValAt w w.heap.size cs t):Calls Tryz.prog 67 #[.agg ⟨cs⟩] w fun e w'=>e= .returned (.int .i64 (cntV t 0:Nat))/\Below w.heap.size w w':=by
 have g:=I (zc w (.cells ⟨cs⟩ 39));have A:=I (z9C t 0 cs w.heap.size 0 (w.alloc (.cells ⟨cs⟩ 39)) (by decide) (zv w cs 39) (hv.next g.o));go_enter Tryz.func67,Tryz.ntmps67;go_wp2_with (go_at_call 106;refine A.o.mono ?_;rintro e z ⟨rfl,rfl⟩);go_ret;exact⟨rfl,g.o⟩
end
section
open Go Go.RowKit
mutual
def zr:VT->Nat->Bool
 | .mk k n f s ns its,d=>
  if 12 < d then false
  else if k= 1 then bareB true false false false n f s ns.length its.length && (n / 2 ==0)
  else if k= 2 then bareB true false false false n f s ns.length its.length
  else if k= 3 then bareB false true false false n f s ns.length its.length
  else if k= 4 then bareB false false true false n f s ns.length its.length && decide (s.size<=200)
  else if k= 6 then(ns.length ==its.length) && (riseB none ns && (bareB false false false true n f s ns.length its.length && zK its (d+1)))
  else if k= 5 then bareB false false false true n f s ns.length its.length && ((ns.length ==0) && zK its (d+1))
  else false
def zK:List VT->Nat->Bool
 |[],_=>true
 |a::l,d=>zr a d && zK l d
end
theorem z2h {l:List VT} {k d:Nat} {x:VT} (h:l[k]?= some x):zK (l.drop k) d=(zr x d && zK (l.drop (k+1)) d):=by
 rw[z0d h,zK]
theorem z2J {l:List VT} {d:Nat}:zK (l.drop l.length) d= true:=by
 rw[List.drop_eq_nil_of_le (Nat.le_refl _),zK]
theorem zd1:∀ (t:VT) (d:Nat) (cs:List Value) (p o:Nat) (w:World),d<=13->p < w.heap.size->w.rangeAt p o cs->ValAt w w.heap.size cs t->
  Calls Tryz.prog 68 #[.pointer (some ⟨p,o,none⟩),.int .i64 d] w fun e w'=>e= .returned (.bool (zr t d))/\Below w.heap.size w w':=by
 intro t
 induction t using VT.ind with
 |h k n f s ns its ih=>
  intro d cs p o w hd hp hr hv;have IH:=I ih;obtain⟨vn,vi,rfl,_,_,hf,_,hn,_,hi⟩:=hv.inv;obtain⟨_,NA,nc,rfl,_⟩:=id hn;obtain⟨A,c,rfl,f5,hA⟩:=z1e hi;have f7:=hn.1;have HF:=I (wf64 hf);have HN:=I hn;have HA:=I hA;have K:=I hr;have HP:=I hp;have d0:w.cell? ⟨p,o,none⟩= some (.int .i64 k):=hr 0 _ rfl;have d1:=hr 1 _ rfl;have d3:=hr 3 _ rfl;have d4:=hr 4 _ rfl;have d5:=hr 5 _ rfl;have HO:Hid (zr (.mk k n f s ns its) d= if 12 < d then false
   else if k= 1 then bareB true false false false n f s ns.length its.length && (n / 2 ==0)
   else if k= 2 then bareB true false false false n f s ns.length its.length
   else if k= 3 then bareB false true false false n f s ns.length its.length
   else if k= 4 then bareB false false true false n f s ns.length its.length && decide (s.size<=200)
   else if k= 6 then(ns.length ==its.length) && (riseB none ns && (bareB false false false true n f s ns.length its.length && zK its (d+1)))
   else if k= 5 then bareB false false false true n f s ns.length its.length && ((ns.length ==0) && zK its (d+1))
   else false):=I (by rw[zr])
  generalize a0:zr (.mk k n f s ns its) d= res at*;clear ih hr hv hn hi hA hf hp a0;by_cases hdeep:12 < d
  ·have X:=I (HO.o.trans (if_pos hdeep))
   have t1:(12:Int) <(d:Int):=by omega
   clear HO hdeep;go_enter Tryz.func68,Tryz.ntmps68;go_wp2;go_ret;exact⟨z8 X.o.symm,Below.refl _ w⟩
  have t1: ¬ ((12:Int) <(d:Int)):=by omega
  have b1:=I (HO.o.trans (if_neg hdeep));clear HO;by_cases k1:k= 1
  ·subst k1
   have X:=I (b1.o.trans (if_pos rfl));clear b1;have N:=I (fun w' (h:w'.rangeAt p o [(.int .i64 1),.int .i64 n,.float .f64 f,.string s,.slice NA ns.length nc,.slice A its.length c])=>zbR p o 1 n f s NA A ns.length its.length nc c w' HF.o h);generalize bareB true false false false n f s ns.length its.length= bb at*;cases bb with
   |false=>
    have g:Hid (res= false):=I (X.o.trans (Bool.false_and _));clear X d3 d4 d5;go_enter Tryz.func68,Tryz.ntmps68;go_wp2_with (go_at_call 107;refine(N.o _ K.o).mono ?_;rintro e z ⟨rfl,C⟩;obtain rfl:=C.symm);go_ret;exact⟨z8 g.o.symm,Below.refl _ w⟩
   |true=>
    have g:Hid (res=(n / 2 ==0)):=I (X.o.trans (Bool.true_and _));clear X d3 d4 d5;go_enter Tryz.func68,Tryz.ntmps68;go_wp2_with (go_at_call 107;refine(N.o _ K.o).mono ?_;rintro e z ⟨rfl,C⟩;obtain rfl:=C.symm);go_ret;exact⟨z8 g.o.symm,Below.refl _ w⟩
  have b2:=I (b1.o.trans (if_neg k1));clear b1;by_cases k2:k= 2
  ·subst k2
   have X:=I (b2.o.trans (if_pos rfl));clear b2;have N:=I (fun w' (h:w'.rangeAt p o [(.int .i64 2),.int .i64 n,.float .f64 f,.string s,.slice NA ns.length nc,.slice A its.length c])=>zbR p o 2 n f s NA A ns.length its.length nc c w' HF.o h);generalize bareB true false false false n f s ns.length its.length= bb at*;clear d1 d3 d4 d5;go_enter Tryz.func68,Tryz.ntmps68;go_wp2_with (go_at_call 107;refine(N.o _ K.o).mono ?_;rintro e z ⟨rfl,C⟩;obtain rfl:=C.symm);go_ret;exact⟨z8 X.o.symm,Below.refl _ w⟩
  have b3:=I (b2.o.trans (if_neg k2));clear b2;by_cases k3:k= 3
  ·subst k3
   have X:=I (b3.o.trans (if_pos rfl));clear b3;have N:=I (fun w' (h:w'.rangeAt p o [(.int .i64 3),.int .i64 n,.float .f64 f,.string s,.slice NA ns.length nc,.slice A its.length c])=>zgL p o 3 n f s NA A ns.length its.length nc c w' HF.o h);generalize bareB false true false false n f s ns.length its.length= bb at*;clear d1 d3 d4 d5;go_enter Tryz.func68,Tryz.ntmps68;go_wp2_with (go_at_call 107;refine(N.o _ K.o).mono ?_;rintro e z ⟨rfl,C⟩;obtain rfl:=C.symm);go_ret;exact⟨z8 X.o.symm,Below.refl _ w⟩
  have b4:=I (b3.o.trans (if_neg k3));clear b3;by_cases k4:k= 4
  ·subst k4
   have X:=I (b4.o.trans (if_pos rfl));clear b4;have N:=I (fun w' (h:w'.rangeAt p o [(.int .i64 4),.int .i64 n,.float .f64 f,.string s,.slice NA ns.length nc,.slice A its.length c])=>zgM p o 4 n f s NA A ns.length its.length nc c w' HF.o h);generalize bareB false false true false n f s ns.length its.length= bb at*;cases bb with
   |false=>
    have g:Hid (res= false):=I (X.o.trans (Bool.false_and _));clear X d1 d4 d5;go_enter Tryz.func68,Tryz.ntmps68;go_wp2_with (go_at_call 107;refine(N.o _ K.o).mono ?_;rintro e z ⟨rfl,C⟩;obtain rfl:=C.symm);go_ret;exact⟨z8 g.o.symm,Below.refl _ w⟩
   |true=>
    have g:Hid (res= decide (s.size<=200)):=I (X.o.trans (Bool.true_and _));clear X d1 d4 d5;by_cases G:s.size<=200
    ·have t2:(s.size:Int)<=200:=by omega
     have Y:=I (g.o.trans (decide_eq_true G));go_enter Tryz.func68,Tryz.ntmps68;go_wp2_with (go_at_call 107;refine(N.o _ K.o).mono ?_;rintro e z ⟨rfl,C⟩;obtain rfl:=C.symm);go_ret;exact⟨z8 Y.o.symm,Below.refl _ w⟩
    ·have t2:decide ((s.size:Int)<=200)= false:=decide_eq_false (by omega)
     have f8:(200:Int) <(s.size:Int):=by omega
     have Y:=I (g.o.trans (decide_eq_false G));go_enter Tryz.func68,Tryz.ntmps68;go_wp2_with (go_at_call 107;refine(N.o _ K.o).mono ?_;rintro e z ⟨rfl,C⟩;obtain rfl:=C.symm);go_ret;exact⟨z8 Y.o.symm,Below.refl _ w⟩
  have a4:=I (b4.o.trans (if_neg k4));clear b4;by_cases k5:k= 5
  ·subst k5
   have X:=I (a4.o.trans ((if_neg (by decide)).trans (if_pos rfl)));clear a4;have N:=I (fun w' (h:w'.rangeAt p o [(.int .i64 5),.int .i64 n,.float .f64 f,.string s,.slice NA ns.length nc,.slice A its.length c])=>zbS p o 5 n f s NA A ns.length its.length nc c w' HF.o h);generalize bareB false false false true n f s ns.length its.length= bb at*;cases bb with
   |false=>
    have g:Hid (res= false):=I (X.o.trans (Bool.false_and _));clear X d1 d3;go_enter Tryz.func68,Tryz.ntmps68;go_wp2_with (go_at_call 107;refine(N.o _ K.o).mono ?_;rintro e z ⟨rfl,C⟩;obtain rfl:=C.symm);go_ret;exact⟨z8 g.o.symm,Below.refl _ w⟩
   |true=>
    have g:=I (X.o.trans (Bool.true_and _));clear X d1 d3;by_cases hnz:ns.length= 0
    ·have b9:Hid (res= zK its (d+1)):=I (g.o.trans (by rw[hnz];exact Bool.true_and _))
     rw[hnz] at K N d4;clear g hnz HN;go_enter Tryz.func68,Tryz.ntmps68;go_wp2_with (go_at_call 107;refine(N.o _ K.o).mono ?_;rintro e z ⟨rfl,C⟩;obtain rfl:=C.symm);go_loopg [90] its.length (fun q x u=>∃ j:Nat,j+q= its.length/\x= .int .i64 j/\Below w.heap.size w u/\zK (its.drop j) (d+1)= res);case atStart=>exact⟨0,by omega,rfl,Below.refl _ _,b9.o.symm⟩
     case round=>
      obtain⟨j,hj,rfl,hb,a0⟩:=hrel;have HR:=I a0;have O:=I hb;clear a0 hb;cases gk with
      |zero=>
       obtain rfl:j= its.length:=by omega
       have e2: ¬ ((its.length:Int) <(its.length:Int)):=by omega
       have c4:=I (HR.o.symm.trans z2J);go_wp2;go_ret;exact⟨z8 c4.o.symm,O.o⟩
      |succ q=>
       have e3:(j:Int) <(its.length:Int):=by omega
       obtain⟨x,hx⟩:∃ x,its[j]?= some x:=⟨_,List.getElem?_eq_getElem (by omega)⟩;obtain⟨b,o',rfl,a7,hc⟩:=HA.o (by omega);obtain⟨ks,a9,b0⟩:=hc j x hx;have a2:=I (HR.o.symm.trans (z2h hx));have e1:=(O.o.cell (p:=⟨p,o+5,none⟩) HP.o).trans (K.o 5 _ rfl);have HC:=I (IH.o x (List.mem_of_getElem? hx) (d+1) ks b (o'+j*6) wr (by omega) (Nat.lt_of_lt_of_le a7 O.o.size) (zb a9 O.o a7) (b0.next O.o));have a8:((d+1:Nat):Int)=(d:Int)+1:=by omega
       rw[a8] at HC;clear hc a9 b0 hx a8;generalize zr x (d+1)= rx at*;cases rx with
       |true=>
        have g:=I (a2.o.trans (Bool.true_and _));clear a2;go_wp2_with (go_at_call 68;refine zg HC.o ?_;intro z a3);go_roundg q;case measure=>omega
        case rel=>exact⟨j+1,by omega,by go_num,(beT O.o a3.o),g.o.symm⟩
       |false=>
        have g:Hid (res= false):=I (a2.o.trans (Bool.false_and _));clear a2;go_wp2_with (go_at_call 68;refine zg HC.o ?_;intro z a3);go_ret;exact⟨z8 g.o.symm,(beT O.o a3.o)⟩
    ·have Y:Hid (res= false):=I (g.o.trans (by rw[beq_eq_false_iff_ne.2 hnz];exact Bool.false_and _))
     have t2:(0:Int) <(ns.length:Int):=by omega
     clear g hnz;go_enter Tryz.func68,Tryz.ntmps68;go_wp2_with (go_at_call 107;refine(N.o _ K.o).mono ?_;rintro e z ⟨rfl,C⟩;obtain rfl:=C.symm);go_ret;exact⟨z8 Y.o.symm,Below.refl _ w⟩
  by_cases k6:k= 6
  ·subst k6
   have X:=I (a4.o.trans (if_pos rfl));clear a4;have N:=I (fun w' (h:w'.rangeAt p o [(.int .i64 6),.int .i64 n,.float .f64 f,.string s,.slice NA ns.length nc,.slice A its.length c])=>zbS p o 6 n f s NA A ns.length its.length nc c w' HF.o h);have c8:=I (fun z (hz:Below w.heap.size w z)=>z6k (.slice NA ns.length nc) ns z ((HN.o.below hz fun _ _ _ h=>h).more hz.size));by_cases hlen:ns.length= its.length
   ·have g:=I (X.o.trans (by rw[show(ns.length ==its.length)= true from by rw[hlen];exact beq_self_eq_true _,Bool.true_and]))
    have t2:((ns.length:Int) !=(its.length:Int))= false:=by rw[hlen];exact bne_self_eq_false _
    clear X hlen;generalize riseB none ns= rb at*;cases rb with
    |false=>
     have Y:Hid (res= false):=I (g.o.trans (Bool.false_and _));clear g d1 d3;go_enter Tryz.func68,Tryz.ntmps68;go_upto_region 14 with (fail);clear d0 d4 d5;refine zo [(0,true),(1,true),(2,true),(3,true),(4,true),(5,true),(6,true),(7,true),(8,true),(9,true),(10,true),(11,true),(12,true),(13,true),(14,true),(15,true),(16,false),(17,true),(18,true)] (fun z=>Below w.heap.size w z) (by kernel_rfl) (by intro c a d v w h;cases d<;>exact h) ?_;have G:Below w.heap.size w w.drew:=(Below.refl _ w).drew;refine zf 48 (.pointer (some ⟨p,o,none⟩)) rfl rfl rfl rfl G rfl ?_;go_frame;refine z7 49 (.pointer (some ⟨p,o,none⟩)) rfl rfl rfl G (fun z hz=>by go_simp) ?_;go_frame;refine z7 50 (.pointer (some ⟨p,o+4,none⟩)) rfl rfl rfl G (fun z hz=>by go_simp) ?_;go_frame;refine z7 51 (.slice NA ns.length nc) rfl rfl rfl G (fun z hz=>by have dd:=(hz.cell (p:=⟨p,o+4,none⟩) HP.o).trans (K.o 4 _ rfl);go_simp) ?_;go_frame;refine z7 52 (.int .i64 ns.length) rfl rfl rfl G (fun z hz=>by go_simp) ?_;go_frame;refine zf 53 (.pointer (some ⟨p,o,none⟩)) rfl rfl rfl rfl G rfl ?_;go_frame;refine z7 54 (.pointer (some ⟨p,o,none⟩)) rfl rfl rfl G (fun z hz=>by go_simp) ?_;go_frame;refine z7 55 (.pointer (some ⟨p,o+5,none⟩)) rfl rfl rfl G (fun z hz=>by go_simp) ?_;go_frame;refine z7 56 (.slice A its.length c) rfl rfl rfl G (fun z hz=>by have dd:=(hz.cell (p:=⟨p,o+5,none⟩) HP.o).trans (K.o 5 _ rfl);go_simp) ?_;go_frame;refine z7 57 (.int .i64 its.length) rfl rfl rfl G (fun z hz=>by go_simp) ?_;go_frame;refine z7 58 (.bool false) rfl rfl rfl G (fun z hz=>by go_simp) ?_;go_frame;refine zf 59 (.bool false) rfl rfl rfl rfl G rfl ?_;go_frame;refine zf 60 (.pointer (some ⟨p,o,none⟩)) rfl rfl rfl rfl G rfl ?_;go_frame;refine z7 61 (.pointer (some ⟨p,o,none⟩)) rfl rfl rfl G (fun z hz=>by go_simp) ?_;go_frame;refine z7 62 (.pointer (some ⟨p,o+4,none⟩)) rfl rfl rfl G (fun z hz=>by go_simp) ?_;go_frame;refine z7 63 (.slice NA ns.length nc) rfl rfl rfl G (fun z hz=>by have dd:=(hz.cell (p:=⟨p,o+4,none⟩) HP.o).trans (K.o 4 _ rfl);go_simp) ?_;go_frame;refine zA 64 108 Tryz.func108 (by kernel_rfl) [.slice NA ns.length nc] rfl rfl rfl rfl rfl ?_;refine(c8.o _ G).mono ?_;rintro e z1 ⟨rfl,a6⟩;have a1:Below w.heap.size w z1:=(beT G a6);refine⟨.bool false,rfl,a1,?_⟩;clear a6;go_frame;refine z7 65 (.bool true) rfl rfl rfl a1 (fun z hz=>by go_simp) ?_;go_frame;refine zE (some 66) (.bool true) _ _ _ _ false rfl rfl rfl rfl (by exact wA rfl) a1 rfl ?_;go_frame;refine zD ?_;have a5:=I a1;clear G a1;go_wp2;go_ret;exact⟨z8 Y.o.symm,a5.o⟩
    |true=>
     have Y:=I (g.o.trans (Bool.true_and _));clear g d1 d3;generalize bareB false false false true n f s ns.length its.length= bb at*;go_enter Tryz.func68,Tryz.ntmps68;go_upto_region 14 with (fail);clear d0 d4 d5;refine zo [(0,true),(1,true),(2,true),(3,true),(4,true),(5,true),(6,true),(7,true),(8,true),(9,true),(10,true),(11,true),(12,true),(13,true),(14,true),(15,true),(16,false),(17,true),(18,true)] (fun z=>Below w.heap.size w z) (by kernel_rfl) (by intro c a d v w h;cases d<;>exact h) ?_;have G:Below w.heap.size w w.drew:=(Below.refl _ w).drew;refine zf 48 (.pointer (some ⟨p,o,none⟩)) rfl rfl rfl rfl G rfl ?_;go_frame;refine z7 49 (.pointer (some ⟨p,o,none⟩)) rfl rfl rfl G (fun z hz=>by go_simp) ?_;go_frame;refine z7 50 (.pointer (some ⟨p,o+4,none⟩)) rfl rfl rfl G (fun z hz=>by go_simp) ?_;go_frame;refine z7 51 (.slice NA ns.length nc) rfl rfl rfl G (fun z hz=>by have dd:=(hz.cell (p:=⟨p,o+4,none⟩) HP.o).trans (K.o 4 _ rfl);go_simp) ?_;go_frame;refine z7 52 (.int .i64 ns.length) rfl rfl rfl G (fun z hz=>by go_simp) ?_;go_frame;refine zf 53 (.pointer (some ⟨p,o,none⟩)) rfl rfl rfl rfl G rfl ?_;go_frame;refine z7 54 (.pointer (some ⟨p,o,none⟩)) rfl rfl rfl G (fun z hz=>by go_simp) ?_;go_frame;refine z7 55 (.pointer (some ⟨p,o+5,none⟩)) rfl rfl rfl G (fun z hz=>by go_simp) ?_;go_frame;refine z7 56 (.slice A its.length c) rfl rfl rfl G (fun z hz=>by have dd:=(hz.cell (p:=⟨p,o+5,none⟩) HP.o).trans (K.o 5 _ rfl);go_simp) ?_;go_frame;refine z7 57 (.int .i64 its.length) rfl rfl rfl G (fun z hz=>by go_simp) ?_;go_frame;refine z7 58 (.bool false) rfl rfl rfl G (fun z hz=>by go_simp) ?_;go_frame;refine zf 59 (.bool false) rfl rfl rfl rfl G rfl ?_;go_frame;refine zf 60 (.pointer (some ⟨p,o,none⟩)) rfl rfl rfl rfl G rfl ?_;go_frame;refine z7 61 (.pointer (some ⟨p,o,none⟩)) rfl rfl rfl G (fun z hz=>by go_simp) ?_;go_frame;refine z7 62 (.pointer (some ⟨p,o+4,none⟩)) rfl rfl rfl G (fun z hz=>by go_simp) ?_;go_frame;refine z7 63 (.slice NA ns.length nc) rfl rfl rfl G (fun z hz=>by have dd:=(hz.cell (p:=⟨p,o+4,none⟩) HP.o).trans (K.o 4 _ rfl);go_simp) ?_;go_frame;refine zA 64 108 Tryz.func108 (by kernel_rfl) [.slice NA ns.length nc] rfl rfl rfl rfl rfl ?_;refine(c8.o _ G).mono ?_;rintro e z1 ⟨rfl,a6⟩;have a1:Below w.heap.size w z1:=(beT G a6);refine⟨.bool true,rfl,a1,?_⟩;clear a6;go_frame;refine z7 65 (.bool false) rfl rfl rfl a1 (fun z hz=>by go_simp) ?_;go_frame;refine zE (some 66) (.bool false) _ _ _ _ false rfl rfl rfl rfl (by exact wA rfl) a1 rfl ?_;go_frame;refine zD ?_;have a5:=I a1;clear G a1;have b6:=I (zb K.o a5.o HP.o);have e0:z1.cell? ⟨p,o,none⟩= some (.int .i64 6):=b6.o 0 _ rfl;have e5:=b6.o 5 _ rfl;cases bb with
     |false=>
      have d9:Hid (res= false):=I (Y.o.trans (Bool.false_and _));go_wp2_with (go_at_call 107;refine(N.o _ b6.o).mono ?_;rintro e z ⟨rfl,C⟩;obtain rfl:=C.symm);go_ret;exact⟨z8 d9.o.symm,a5.o⟩
     |true=>
      have b9:Hid (res= zK its (d+1)):=I (Y.o.trans (Bool.true_and _));clear Y;go_wp2_with (go_at_call 107;refine(N.o _ b6.o).mono ?_;rintro e z ⟨rfl,C⟩;obtain rfl:=C.symm);clear e0 e5;go_loopg [90] its.length (fun q x u=>∃ j:Nat,j+q= its.length/\x= .int .i64 j/\Below w.heap.size w u/\zK (its.drop j) (d+1)= res);case atStart=>exact⟨0,by omega,rfl,a5.o,b9.o.symm⟩
      case round=>
       obtain⟨j,hj,rfl,hb,a0⟩:=hrel;have HR:=I a0;have O:=I hb;clear a0 hb;cases gk with
       |zero=>
        obtain rfl:j= its.length:=by omega
        have e2: ¬ ((its.length:Int) <(its.length:Int)):=by omega
        have c4:=I (HR.o.symm.trans z2J);go_wp2;go_ret;exact⟨z8 c4.o.symm,O.o⟩
       |succ q=>
        have e3:(j:Int) <(its.length:Int):=by omega
        obtain⟨x,hx⟩:∃ x,its[j]?= some x:=⟨_,List.getElem?_eq_getElem (by omega)⟩;obtain⟨b,o',rfl,a7,hc⟩:=HA.o (by omega);obtain⟨ks,a9,b0⟩:=hc j x hx;have a2:=I (HR.o.symm.trans (z2h hx));have e1:=(O.o.cell (p:=⟨p,o+5,none⟩) HP.o).trans (K.o 5 _ rfl);have HC:=I (IH.o x (List.mem_of_getElem? hx) (d+1) ks b (o'+j*6) wr (by omega) (Nat.lt_of_lt_of_le a7 O.o.size) (zb a9 O.o a7) (b0.next O.o));have a8:((d+1:Nat):Int)=(d:Int)+1:=by omega
        rw[a8] at HC;clear hc a9 b0 hx a8;generalize zr x (d+1)= rx at*;cases rx with
        |true=>
         have g:=I (a2.o.trans (Bool.true_and _));clear a2;go_wp2_with (go_at_call 68;refine zg HC.o ?_;intro z a3);go_roundg q;case measure=>omega
         case rel=>exact⟨j+1,by omega,by go_num,(beT O.o a3.o),g.o.symm⟩
        |false=>
         have g:Hid (res= false):=I (a2.o.trans (Bool.false_and _));clear a2;go_wp2_with (go_at_call 68;refine zg HC.o ?_;intro z a3);go_ret;exact⟨z8 g.o.symm,(beT O.o a3.o)⟩
   ·have g:Hid (res= false):=I (X.o.trans (by rw[beq_eq_false_iff_ne.2 hlen];exact Bool.false_and _))
    have t2:((ns.length:Int) !=(its.length:Int))= true:=by rw[bne_iff_ne];omega
    clear X hlen d1 d3;go_enter Tryz.func68,Tryz.ntmps68;go_wp2;go_quiet (fail);go_wp2;go_ret;exact⟨z8 g.o.symm,zj (Below.refl _ w) _⟩
  have X:=I (a4.o.trans ((if_neg k6).trans (if_neg k5)));have s1:(k ==1)= false:=by simpa using k1
  have s2:(k ==2)= false:=by simpa using k2
  have s3:(k ==3)= false:=by simpa using k3
  have s4:(k ==4)= false:=by simpa using k4
  have s5:(k ==5)= false:=by simpa using k5
  have s6:(k ==6)= false:=by simpa using k6
  clear a4 d1 d3 d4 d5 k1 k2 k3 k4 k5 k6;go_enter Tryz.func68,Tryz.ntmps68;go_wp2;go_ret;exact⟨z8 X.o.symm,Below.refl _ w⟩
theorem z1T (t:VT) (cs:List Value) (w:World) (hv:ValAt w w.heap.size cs t):Calls Tryz.prog 35 #[.agg ⟨cs⟩] w fun e w'=>e= .returned (.bool (decide (cntV t 0<=200) && zr t 1))/\Below w.heap.size w w':=by
 have A:=I (zc w (.cells ⟨cs⟩ 39));have G:=I (zy w (.cells ⟨cs⟩ 39));have C:=I (zv w cs 39);have O:=I (zm hv);have Y:=I (hv.next A.o);have X:=I (zcP t cs (w.alloc (.cells ⟨cs⟩ 39)) Y.o);clear hv;go_enter Tryz.func35,Tryz.ntmps35;go_upto_region 1 with (fail);generalize w.alloc (.cells ⟨cs⟩ 39)= W at*;by_cases hc:cntV t 0<=200
 ·have t1:((cntV t 0:Nat):Int)<=200:=by omega
  have N:Hid ((decide (cntV t 0<=200) && zr t 1)= zr t 1):=I (by rw[decide_eq_true hc];exact Bool.true_and _);go_wp2_with (first|((with_reducible refine za tyK39 _ rfl ?_ C.o rfl O.o.1 ?_);exact wA rfl)|(go_at_call 67;refine zg X.o ?_;intro z g)|(go_at_call 68;refine zg (zd1 t 1 cs w.heap.size 0 _ (by decide) (Nat.lt_of_lt_of_le G.o g.o.size) (zb C.o g.o G.o) (Y.o.next g.o)) ?_;intro z2 K));go_ret;exact⟨z8 N.o.symm,A.o.trans ((beT g.o K.o).mono A.o.size)⟩
 ·have t1: ¬ (((cntV t 0:Nat):Int)<=200):=by omega
  have N:Hid ((decide (cntV t 0<=200) && zr t 1)= false):=I (by rw[decide_eq_false hc];exact Bool.false_and _);go_wp2_with (first|((with_reducible refine za tyK39 _ rfl ?_ C.o rfl O.o.1 ?_);exact wA rfl)|(go_at_call 67;refine zg X.o ?_;intro z g));go_ret;first|exact⟨z8 N.o.symm,(beT A.o g.o)⟩|exact⟨rfl,(beT A.o g.o)⟩
end
section
open Go
def zu (f:Nat):Nat:=if nanB f= true then 9221120237041090560 else f
theorem zaD {f:Nat} (h:nanB f= true):cmpF (zu f) f= 0:=by
 have h1:nanB 9221120237041090560= true:=by decide +kernel
 unfold zu;rw[if_pos h];unfold cmpF;rw[h1,h];rfl
theorem z9s (f:Nat):cmpF (zu f) f= 0:=by
 by_cases h:nanB f= true
 ·exact zaD h
 ·unfold zu
  rw[if_neg h];exact cmpF_good.refl f
theorem z9t (f:Nat):(cmpF (zu f) 0 ==0)=(cmpF f 0 ==0):=by
 have h1:=z9s f;have h2:=cmpF_good.anti (zu f) f;have t1:=cmpF_good.trans (zu f) f 0;have t2:=cmpF_good.trans f (zu f) 0;have t3:=cmpF_good.trans 0 (zu f) f;have t4:=cmpF_good.trans 0 f (zu f);have a1:=cmpF_good.anti (zu f) 0;have a2:=cmpF_good.anti f 0;rw[Bool.eq_iff_iff,beq_iff_eq,beq_iff_eq];constructor<;>intro h<;>omega
mutual
def z01:VT->VT
 | .mk k n f s ns its=> .mk k n (zu f) s ns (z0F its)
def z0F:List VT->List VT
 |[]=>[]
 |a::l=>z01 a::z0F l
end
theorem z1o:∀ l:List VT,z0F l= l.map z01
 |[]=>by rw[z0F];rfl
 |a::l=>by rw[z0F,z1o l];rfl
theorem z3C (l:List VT):(z0F l).length= l.length:=by rw[z1o,List.length_map]
theorem z9o (a b c d:Bool) (n:Int) (f:Nat) (s:ByteArray) (x y:Nat):bareB a b c d n (zu f) s x y= bareB a b c d n f s x y:=by
 unfold bareB;rw[z9t]
theorem z4G:∀ (l:List VT) (d:Nat),(∀ x∈l,∀ d,zr (z01 x) d= zr x d)->zK (z0F l) d= zK l d
 |[],d,_=>by rw[z0F]
 |a::l,d,h=>by
  rw[z0F,zK,zK,h a (List.mem_cons_self ..),z4G l d fun x hx=>h x (List.mem_cons_of_mem _ hx)]
theorem z9v (t:VT):∀ d,zr (z01 t) d= zr t d:=by
 induction t using VT.ind with
 |h k n f s ns its ih=>
  intro d;rw[z01,zr,zr];simp only[z9o,z3C,z4G its _ ih]
theorem z5M:∀ (l:List VT) (m:Nat),(∀ x∈l,∀ m,cntV (z01 x) m= cntV x m)->cntL (z0F l) m= cntL l m
 |[],m,_=>by rw[z0F]
 |a::l,m,h=>by
  rw[z0F,cntL,cntL,h a (List.mem_cons_self ..)]
  split
  ·rfl
  ·exact z5M l _ fun x hx=>h x (List.mem_cons_of_mem _ hx)
theorem z9u (t:VT):∀ m,cntV (z01 t) m= cntV t m:=by
 induction t using VT.ind with
 |h k n f s ns its ih=>
  intro m;rw[z01,cntV,cntV];exact z5M its _ ih
end
section
open Go Go.RowKit
theorem z7V (f:Nat):cmpF f 0= 0↔f= 0:=by
 constructor
 ·intro h
  have h0:nanB 0= false:=by decide +kernel
  unfold cmpF at h;rw[h0] at h;by_cases hn:nanB f= true
  ·rw[hn] at h;simp at h
  ·have g:nanB f= false:=by simpa using hn
   rw[g] at h;simp only[ne_eq,not_true_eq_false,if_false,Bool.false_eq_true] at h;by_cases hf:f= 0
   ·exact hf
   ·exfalso
    have A:rankZ 0= 0:=by unfold rankZ;simp
    rw[A] at h;rcases hord:fOrd f 0 with _|o
    ·unfold nanB at g
     rw[z3s] at hord g;have G:nanD (dat f)= 0:=by
      rw[z1c] at*;by_cases hd:nanD (dat f)= 0
      ·exact hd
      ·rw[z2q _ _ (.inl hd)] at g;simp at g
     have K:nanD (dat 0)= 0:=by have:=z1c 0;rw[h0] at this;simpa using this.symm
     obtain⟨h1,h2,h3⟩:=z2p (dat f) (dat 0) (z1k f) (z1k 0) G K;have h4:=z89 (dat f) (dat 0);rw[hord] at h1 h2 h3;simp at h1 h2 h3;omega
    ·have C:rankZ f= if(fOrd f 0 ==some .eq)= true then -1 else 0:=by unfold rankZ;simp[hf]
     rw[hord] at h C;cases o
     ·simp at h
     ·simp at C;rw[C] at h;simp at h
     ·simp at h
 ·rintro rfl
  exact cmpF_good.refl 0
def nanR (f:Nat):Bool:=decide (18437736874454810624 < IntKind.u64.wrap ((f:Int) *2))
theorem zfh (f:Nat) (hf:f < 2 ^ 64) (w:World):Calls Tryz.prog 207 #[.float .f64 f] w fun e w'=>e= .returned (.bool (nanR f))/\w'= w:=by
 have e1:∀ W:World,(callFunc 181 #[.float .f64 f]).run Tryz.prog W= .ok (.value (.int .u64 f)) W:=fun W=>by
  rw[run_callFunc_extern Tryz.func181 (by kernel_rfl) (by kernel_rfl) (by kernel_rfl) (e:=Extern.MathFloatBits.float64bits) (by kernel_rfl)];rfl
 go_enter Tryz.func207,Tryz.ntmps207;go_wp2;go_ret;exact⟨rfl,rfl⟩
def canR (f:Nat):Nat:=if nanR f= true then 9221120237041090560 else f
theorem z5h (f:Nat) (hf:f < 2 ^ 64) (w:World):Calls Tryz.prog 182 #[.float .f64 f] w fun e w'=>e= .returned (.float .f64 (canR f))/\w'= w:=by
 have e1:∀ W:World,(callFunc 129 #[.int .u64 9221120237041090560]).run Tryz.prog W= .ok (.value (.float .f64 9221120237041090560)) W:=fun W=>by
  rw[run_callFunc_extern Tryz.func129 (by kernel_rfl) (by kernel_rfl) (by kernel_rfl) (e:=Extern.MathFloatBits.float64frombits) (by kernel_rfl)];rfl
 have g:=I (fun w=>zfh f hf w);clear hf;cases hn:nanR f with
 |true=>
  have A:Hid (canR f= 9221120237041090560):=I (if_pos hn);rw[hn] at g;clear hn;go_enter Tryz.func182,Tryz.ntmps182;go_wp2_with (go_at_call 207;refine(g.o _).mono ?_;rintro e z ⟨rfl,rfl⟩);go_ret;exact⟨congrArg (fun x=>Ending.returned (.float .f64 x)) A.o.symm,rfl⟩
 |false=>
  have A:Hid (canR f= f):=I (if_neg (by rw[hn];decide));rw[hn] at g;clear hn;go_enter Tryz.func182,Tryz.ntmps182;go_wp2_with (go_at_call 207;refine(g.o _).mono ?_;rintro e z ⟨rfl,rfl⟩);go_ret;exact⟨congrArg (fun x=>Ending.returned (.float .f64 x)) A.o.symm,rfl⟩
theorem z87 {f:Nat}:canR f= 0↔f= 0:=by
 unfold canR;split
 ·next h=>
  constructor
  ·intro h2;omega
  ·rintro rfl;revert h;decide +kernel
 ·exact Iff.rfl
theorem zbd (f:Nat) (hf:f < 2 ^ 64) (w:World):Calls Tryz.prog 142 #[.float .f64 f,.float .f64 0] w fun e w'=>e= .returned (.bool (cmpF f 0 ==0))/\w'= w:=by
 have G:=I (fun w=>z5h f hf w);have A:=I (fun w=>z5h 0 (by decide) w);have C:canR 0= 0:=z87.2 rfl;rw[C] at A;have K:Hid ((cmpF f 0 ==0)=((canR f:Int) ==0)):=I (by
  have h1:=z7V f;have h2:=z87 (f:=f);by_cases h:f= 0
  ·rw[h1.2 h,h2.2 h];rfl
  ·rw[beq_eq_false_iff_ne.2 fun h3=>h (h1.1 h3),beq_eq_false_iff_ne.2]
   intro h3;exact h (h2.1 (by omega)))
 clear C hf;generalize canR f= g at*;have e1:∀ W:World,(callFunc 181 #[.float .f64 g]).run Tryz.prog W= .ok (.value (.int .u64 g)) W:=fun W=>by
  rw[run_callFunc_extern Tryz.func181 (by kernel_rfl) (by kernel_rfl) (by kernel_rfl) (e:=Extern.MathFloatBits.float64bits) (by kernel_rfl)];rfl
 have e2:∀ W:World,(callFunc 181 #[.float .f64 0]).run Tryz.prog W= .ok (.value (.int .u64 0)) W:=fun W=>by
  rw[run_callFunc_extern Tryz.func181 (by kernel_rfl) (by kernel_rfl) (by kernel_rfl) (e:=Extern.MathFloatBits.float64bits) (by kernel_rfl)];rfl
 go_enter Tryz.func142,Tryz.ntmps142;go_wp2_with (first|(go_at_call 182;refine(G.o _).mono ?_;rintro e z ⟨rfl,rfl⟩)|(go_at_call 182;refine(A.o _).mono ?_;rintro e z ⟨rfl,rfl⟩));go_ret;exact⟨z8 K.o.symm,rfl⟩
theorem zd7 (k n:Int) (f:Nat) (s:ByteArray) (vn vi:Value) (hf:f < 2 ^ 64) (w:World):Calls Tryz.prog 102 #[.agg ⟨[.int .i64 k,.int .i64 n,.float .f64 f,.string s,vn,vi]⟩] w fun e w'=>e= .returned (.bool (cmpF f 0 ==0))/\Below w.heap.size w w':=by
 have A:=I (fun w=>zbd f hf w);have g:=I (zc w (.cells ⟨[.int .i64 k,.int .i64 n,.float .f64 f,.string s,vn,vi]⟩ 39));clear hf;go_enter Tryz.func102,Tryz.ntmps102;go_wp2_with (go_at_call 142;refine(A.o _).mono ?_;rintro e z ⟨rfl,rfl⟩);go_ret;exact⟨rfl,g.o⟩
end
section
open Go Go.RowKit
theorem zfO {s:ByteArray} {k:Nat} {c:UInt8} (h:s.data.toList[k]?= some c) (hk:k < s.size):s[k]'hk= c:=by
 have h2:s.data[k]?= some c:=by simpa using h
 obtain⟨h3,h4⟩:=Array.getElem?_eq_some_iff.1 h2;exact h4
theorem zd3 (s:ByteArray) (w:World):Calls Tryz.prog 143 #[.string s] w fun e w'=>e= .returned (.bool (nameB s))/\w'= w:=by
 have Y:Hid (nameB s=(decide (0 < s.size) && decide (s.size<=30) && z00 s.data.toList 0)):=I rfl;have HL:Hid (s.data.toList.length= s.size):=I (by cases s;rfl);by_cases h0:s.size= 0
 ·have t1:(s.size:Int) < 1:=by omega
  have N:Hid (nameB s= false):=I (by rw[Y.o,h0];rfl);clear h0;go_enter Tryz.func143,Tryz.ntmps143;go_wp2;go_ret;exact⟨z8 N.o.symm,rfl⟩
 have t1: ¬ ((s.size:Int) < 1):=by omega
 by_cases h1:s.size<=30
 ·have t2: ¬ ((30:Int) <(s.size:Int)):=by omega
  have N:Hid (nameB s= z00 s.data.toList 0):=I (by rw[Y.o,decide_eq_true (by omega),decide_eq_true h1];rfl);have O:=I (fun k c=>z5g (l:=s.data.toList) (k:=k) (c:=c));have HE:Hid (∀ k,z00 (s.data.toList.drop s.size) k= true):=I fun k=>by rw[List.drop_eq_nil_of_le (by rw[HL.o];exact Nat.le_refl _)];rfl
  have H0:Hid (z00 (s.data.toList.drop 0) 0= z00 s.data.toList 0):=I rfl;generalize z00 s.data.toList 0= res at*;go_enter Tryz.func143,Tryz.ntmps143;go_wp2;go_loopg [3] s.size (fun q x u=>∃ k:Nat,k+q= s.size/\x= .int .i64 k/\u= w/\z00 (s.data.toList.drop k) k= res);case atStart=>exact⟨0,by omega,rfl,rfl,H0.o⟩
  case round=>
   obtain⟨k,hk,rfl,rfl,X⟩:=hrel;have C:=I X;clear X;cases gk with
   |zero=>
    obtain rfl:k= s.size:=by omega
    have a6: ¬ ((s.size:Int) <(s.size:Int)):=by omega
    have K:=I (C.o.symm.trans (HE.o s.size));go_wp2;go_ret;exact⟨z8 (N.o.trans K.o).symm,rfl⟩
   |succ q=>
    have a7:(k:Int) <(s.size:Int):=by omega
    obtain⟨c,hc⟩:∃ c,s.data.toList[k]?= some c:=⟨_,List.getElem?_eq_getElem (by rw[HL.o];omega)⟩;have dk:=fun h=>zfO (k:=k) (c:=c) hc h;have G:=I hc;clear hc;by_cases h97:97<=c.toNat
    ·have d97:decide (97<=c.toNat)= true:=decide_eq_true (by omega)
     have f97:97<=(c.toNat:Int):=by omega
     by_cases h122:c.toNat<=122
     ·have d122:decide (c.toNat<=122)= true:=decide_eq_true (by omega)
      have f122:(c.toNat:Int)<=122:=by omega
      have g:okC k c= true:=by unfold okC;simp only[d97,d122,Bool.true_and,Bool.and_true,Bool.or_true,Bool.true_or,Bool.false_or,Bool.or_false,Bool.and_false,Bool.false_and]
      have K:Hid (res= z00 (s.data.toList.drop (k+1)) (k+1)):=I (C.o.symm.trans ((O.o k c G.o).trans (by rw[g];exact Bool.true_and _)));clear g;go_wp2;go_roundg q;case measure=>omega
      case rel=>exact⟨k+1,by omega,by go_num,rfl,K.o.symm⟩
     ·have d122:decide (c.toNat<=122)= false:=decide_eq_false (by omega)
      have f122: ¬ ((c.toNat:Int)<=122):=by omega
      by_cases hk0:k= 0
      ·subst hk0
       have A:decide ((0:Nat) < 0)= false:=rfl;have g:okC 0 c= false:=by unfold okC;simp only[d97,d122,A,Bool.true_and,Bool.and_true,Bool.or_true,Bool.true_or,Bool.false_or,Bool.or_false,Bool.and_false,Bool.false_and]
       have K:Hid (res= false):=I (C.o.symm.trans ((O.o 0 c G.o).trans (by rw[g];exact Bool.false_and _)));clear g;go_wp2;go_ret;exact⟨z8 (N.o.trans K.o).symm,rfl⟩
      ·have A:decide (0 < k)= true:=decide_eq_true (by omega)
       have a1:((k:Int) ==0)= false:=by rw[beq_eq_false_iff_ne];omega
       have a2: ¬ ((k:Int)= 0):=by omega
       by_cases h48:48<=c.toNat
       ·have d48:decide (48<=c.toNat)= true:=decide_eq_true (by omega)
        have f48:48<=(c.toNat:Int):=by omega
        by_cases h57:c.toNat<=57
        ·have d57:decide (c.toNat<=57)= true:=decide_eq_true (by omega)
         have f57:(c.toNat:Int)<=57:=by omega
         have g:okC k c= true:=by unfold okC;simp only[d97,d122,A,d48,d57,Bool.true_and,Bool.and_true,Bool.or_true,Bool.true_or,Bool.false_or,Bool.or_false,Bool.and_false,Bool.false_and]
         have K:Hid (res= z00 (s.data.toList.drop (k+1)) (k+1)):=I (C.o.symm.trans ((O.o k c G.o).trans (by rw[g];exact Bool.true_and _)));clear g;go_wp2;go_roundg q;case measure=>omega
         case rel=>exact⟨k+1,by omega,by go_num,rfl,K.o.symm⟩
        ·have d57:decide (c.toNat<=57)= false:=decide_eq_false (by omega)
         have f57: ¬ ((c.toNat:Int)<=57):=by omega
         by_cases h95:c.toNat= 95
         ·have e1:(c.toNat ==95)= true:=by simpa using h95
          have e2:((c.toNat:Int) ==95)= true:=by rw[beq_iff_eq];omega
          have e3:((c.toNat:Int) !=95)= false:=by rw[h95];rfl
          have g:okC k c= true:=by unfold okC;simp only[d97,d122,A,d48,d57,e1,Bool.true_and,Bool.and_true,Bool.or_true,Bool.true_or,Bool.false_or,Bool.or_false,Bool.and_false,Bool.false_and]
          have K:Hid (res= z00 (s.data.toList.drop (k+1)) (k+1)):=I (C.o.symm.trans ((O.o k c G.o).trans (by rw[g];exact Bool.true_and _)));clear g;go_wp2;go_roundg q;case measure=>omega
          case rel=>exact⟨k+1,by omega,by go_num,rfl,K.o.symm⟩
         ·have e1:(c.toNat ==95)= false:=by simpa using h95
          have e2:((c.toNat:Int) ==95)= false:=by rw[beq_eq_false_iff_ne];omega
          have e3:((c.toNat:Int) !=95)= true:=by rw[bne_iff_ne];omega
          have g:okC k c= false:=by unfold okC;simp only[d97,d122,A,d48,d57,e1,Bool.true_and,Bool.and_true,Bool.or_true,Bool.true_or,Bool.false_or,Bool.or_false,Bool.and_false,Bool.false_and]
          have K:Hid (res= false):=I (C.o.symm.trans ((O.o k c G.o).trans (by rw[g];exact Bool.false_and _)));clear g;go_wp2;go_ret;exact⟨z8 (N.o.trans K.o).symm,rfl⟩
       ·have d48:decide (48<=c.toNat)= false:=decide_eq_false (by omega)
        have f48: ¬ (48<=(c.toNat:Int)):=by omega
        have h95:c.toNat≠95:=by omega
        have e1:(c.toNat ==95)= false:=by simpa using h95
        have e2:((c.toNat:Int) ==95)= false:=by rw[beq_eq_false_iff_ne];omega
        have e3:((c.toNat:Int) !=95)= true:=by rw[bne_iff_ne];omega
        have g:okC k c= false:=by unfold okC;simp only[d97,d122,A,d48,e1,Bool.true_and,Bool.and_true,Bool.or_true,Bool.true_or,Bool.false_or,Bool.or_false,Bool.and_false,Bool.false_and]
        have K:Hid (res= false):=I (C.o.symm.trans ((O.o k c G.o).trans (by rw[g];exact Bool.false_and _)));clear g;go_wp2;go_ret;exact⟨z8 (N.o.trans K.o).symm,rfl⟩
    ·have d97:decide (97<=c.toNat)= false:=decide_eq_false (by omega)
     have f97: ¬ (97<=(c.toNat:Int)):=by omega
     by_cases hk0:k= 0
     ·subst hk0
      have A:decide ((0:Nat) < 0)= false:=rfl;have g:okC 0 c= false:=by unfold okC;simp only[d97,A,Bool.true_and,Bool.and_true,Bool.or_true,Bool.true_or,Bool.false_or,Bool.or_false,Bool.and_false,Bool.false_and]
      have K:Hid (res= false):=I (C.o.symm.trans ((O.o 0 c G.o).trans (by rw[g];exact Bool.false_and _)));clear g;go_wp2;go_ret;exact⟨z8 (N.o.trans K.o).symm,rfl⟩
     ·have A:decide (0 < k)= true:=decide_eq_true (by omega)
      have a1:((k:Int) ==0)= false:=by rw[beq_eq_false_iff_ne];omega
      have a2: ¬ ((k:Int)= 0):=by omega
      by_cases h48:48<=c.toNat
      ·have d48:decide (48<=c.toNat)= true:=decide_eq_true (by omega)
       have f48:48<=(c.toNat:Int):=by omega
       by_cases h57:c.toNat<=57
       ·have d57:decide (c.toNat<=57)= true:=decide_eq_true (by omega)
        have f57:(c.toNat:Int)<=57:=by omega
        have g:okC k c= true:=by unfold okC;simp only[d97,A,d48,d57,Bool.true_and,Bool.and_true,Bool.or_true,Bool.true_or,Bool.false_or,Bool.or_false,Bool.and_false,Bool.false_and]
        have K:Hid (res= z00 (s.data.toList.drop (k+1)) (k+1)):=I (C.o.symm.trans ((O.o k c G.o).trans (by rw[g];exact Bool.true_and _)));clear g;go_wp2;go_roundg q;case measure=>omega
        case rel=>exact⟨k+1,by omega,by go_num,rfl,K.o.symm⟩
       ·have d57:decide (c.toNat<=57)= false:=decide_eq_false (by omega)
        have f57: ¬ ((c.toNat:Int)<=57):=by omega
        by_cases h95:c.toNat= 95
        ·have e1:(c.toNat ==95)= true:=by simpa using h95
         have e2:((c.toNat:Int) ==95)= true:=by rw[beq_iff_eq];omega
         have e3:((c.toNat:Int) !=95)= false:=by rw[h95];rfl
         have g:okC k c= true:=by unfold okC;simp only[d97,A,d48,d57,e1,Bool.true_and,Bool.and_true,Bool.or_true,Bool.true_or,Bool.false_or,Bool.or_false,Bool.and_false,Bool.false_and]
         have K:Hid (res= z00 (s.data.toList.drop (k+1)) (k+1)):=I (C.o.symm.trans ((O.o k c G.o).trans (by rw[g];exact Bool.true_and _)));clear g;go_wp2;go_roundg q;case measure=>omega
         case rel=>exact⟨k+1,by omega,by go_num,rfl,K.o.symm⟩
        ·have e1:(c.toNat ==95)= false:=by simpa using h95
         have e2:((c.toNat:Int) ==95)= false:=by rw[beq_eq_false_iff_ne];omega
         have e3:((c.toNat:Int) !=95)= true:=by rw[bne_iff_ne];omega
         have g:okC k c= false:=by unfold okC;simp only[d97,A,d48,d57,e1,Bool.true_and,Bool.and_true,Bool.or_true,Bool.true_or,Bool.false_or,Bool.or_false,Bool.and_false,Bool.false_and]
         have K:Hid (res= false):=I (C.o.symm.trans ((O.o k c G.o).trans (by rw[g];exact Bool.false_and _)));clear g;go_wp2;go_ret;exact⟨z8 (N.o.trans K.o).symm,rfl⟩
      ·have d48:decide (48<=c.toNat)= false:=decide_eq_false (by omega)
       have f48: ¬ (48<=(c.toNat:Int)):=by omega
       have h95:c.toNat≠95:=by omega
       have e1:(c.toNat ==95)= false:=by simpa using h95
       have e2:((c.toNat:Int) ==95)= false:=by rw[beq_eq_false_iff_ne];omega
       have e3:((c.toNat:Int) !=95)= true:=by rw[bne_iff_ne];omega
       have g:okC k c= false:=by unfold okC;simp only[d97,A,d48,e1,Bool.true_and,Bool.and_true,Bool.or_true,Bool.true_or,Bool.false_or,Bool.or_false,Bool.and_false,Bool.false_and]
       have K:Hid (res= false):=I (C.o.symm.trans ((O.o k c G.o).trans (by rw[g];exact Bool.false_and _)));clear g;go_wp2;go_ret;exact⟨z8 (N.o.trans K.o).symm,rfl⟩
 ·have t2:(30:Int) <(s.size:Int):=by omega
  have N:Hid (nameB s= false):=I (by rw[Y.o,decide_eq_false h1,Bool.and_false];rfl);go_enter Tryz.func143,Tryz.ntmps143;go_wp2;go_ret;exact⟨z8 N.o.symm,rfl⟩
theorem z6l (v:Value) (l:List ByteArray) (n:Nat) (w:World) (hv:SlAt w w.heap.size 1 StrR v l):
  Calls Tryz.prog 103 #[v,.int .i64 n] w fun e w'=>e= .returned (.bool (riseB none l && (l.length ==n)))/\Below w.heap.size w w':=by
 obtain⟨_,A,c,rfl,_⟩:=id hv;obtain⟨_,hl,ha⟩:=z1l hv;have HA:=I ha;have H1:=I (fun s=>z6j (l:=l) (s:=s));have H2:=I (fun k p s=>z7G (l:=l) (k:=k) (p:=p) (s:=s));have HE:=I (z91 (l:=l));have H0:Hid (riseB (prevK l 0) (l.drop 0)= riseB none l):=I rfl;have c5:(l.length:Int)<=9223372036854775807:=by omega
 have HT:Hid ((l.length ==n)=((l.length:Int) ==(n:Int))):=I (by
  by_cases h:l.length= n
  ·subst h;simp
  ·rw[beq_eq_false_iff_ne.2 h,beq_eq_false_iff_ne.2];omega)
 clear ha hv;generalize riseB none l= res at*;go_enter Tryz.func103,Tryz.ntmps103;go_wp2;go_loopg [5] l.length (fun q x u=>∃ k:Nat,k+q= l.length/\x= .int .i64 k/\Below w.heap.size w u/\riseB (prevK l k) (l.drop k)= res);case atStart=>exact⟨0,by omega,rfl,Below.refl _ _,H0.o⟩
 case round=>
  obtain⟨k,hk,rfl,hb,N⟩:=hrel;have Y:=I N;have C:=I hb;clear N hb;cases gk with
  |zero=>
   obtain rfl:k= l.length:=by omega
   have b9: ¬ ((l.length:Int) <(l.length:Int)):=by omega
   have K:=I (Y.o.symm.trans HE.o);have g:Hid ((res && (l.length ==n))=((l.length:Int) ==(n:Int))):=I (by rw[K.o,HT.o];exact Bool.true_and _);clear Y;go_wp2;go_ret;exact⟨z8 g.o.symm,C.o⟩
  |succ q=>
   have c6:(k:Int) <(l.length:Int):=by omega
   obtain⟨s,hs⟩:∃ s,l[k]?= some s:=⟨_,List.getElem?_eq_getElem (by omega)⟩;obtain⟨b,o,rfl,X,hc⟩:=HA.o (by omega);have a3:=I (fun i x hx=>(hc i x hx).1);have a2:=I X;have ds:=(C.o.cell (p:=⟨b,o+k,none⟩) X).trans (hc k s hs).1;have G:=I (zd3 s);have a0:=I hs;clear hc X hs;rcases Nat.eq_zero_or_pos k with a1|a1
   ·subst a1
    have b8:wr.cell? ⟨b,o,none⟩= some (.string s):=ds;have a9:(0:Int) <(l.length:Int):=by omega
    have K:=I (Y.o.symm.trans (H1.o s a0.o));clear Y;generalize nameB s= nb at*;cases nb with
    |false=>
     have g:Hid ((res && (l.length ==n))= false):=I (by rw[K.o,Bool.false_and,Bool.false_and]);clear K;go_wp2;go_quiet ((go_at_call 143;exact Calls.quiet_of_same ((G.o _).mono fun e w' h=>⟨h.1,h.2⟩)));go_wp2;go_ret;exact⟨z8 g.o.symm,zj C.o _⟩
    |true=>
     have g:=I (K.o.trans (Bool.true_and _));clear K;go_wp2;go_quiet ((go_at_call 143;exact Calls.quiet_of_same ((G.o _).mono fun e w' h=>⟨h.1,h.2⟩)));go_wp2;go_roundg q;case measure=>omega
     case rel=>exact⟨1,by omega,by go_num,zj C.o _,g.o.symm⟩
   ·obtain⟨j,rfl⟩:∃ j,k= j+1:=⟨k - 1,by omega⟩
    obtain⟨p,hp⟩:∃ p,l[j]?= some p:=⟨_,List.getElem?_eq_getElem (by omega)⟩;have K:=I (Y.o.symm.trans (H2.o j p s hp a0.o));have dp:=(C.o.cell (p:=⟨b,o+j,none⟩) a2.o).trans (a3.o j p hp);have b0:(0:Int) <((j+1:Nat):Int):=by omega
    have c4:(j:Int) <(l.length:Int):=by omega
    clear Y hp;generalize nameB s= nb at*;cases nb with
    |false=>
     have g:Hid ((res && (l.length ==n))= false):=I (by rw[K.o,Bool.false_and,Bool.false_and]);clear K;go_wp2;go_quiet ((go_at_call 143;exact Calls.quiet_of_same ((G.o _).mono fun e w' h=>⟨h.1,h.2⟩)));go_wp2;go_ret;exact⟨z8 g.o.symm,zj C.o _⟩
    |true=>
     have g:=I (K.o.trans (Bool.true_and _));clear K;cases hlt3:Op.bytesLess p.toList s.toList with
     |false=>
      have O:Hid ((res && (l.length ==n))= false):=I (by rw[g.o,hlt3,Bool.false_and,Bool.false_and]);go_wp2;go_quiet ((go_at_call 143;exact Calls.quiet_of_same ((G.o _).mono fun e w' h=>⟨h.1,h.2⟩)));go_wp2;go_ret;exact⟨z8 O.o.symm,zj C.o _⟩
     |true=>
      have O:=I (g.o.trans (by rw[hlt3,Bool.true_and]));go_wp2;go_quiet ((go_at_call 143;exact Calls.quiet_of_same ((G.o _).mono fun e w' h=>⟨h.1,h.2⟩)));go_wp2;go_roundg q;case measure=>omega
      case rel=>exact⟨j+2,by omega,by go_num,zj C.o _,O.o.symm⟩
end
section
open Go Go.RowKit
def z0V (k:Int):Int:=
 if k= 1\/k= 2 then 0 else if k= 3\/k= 4\/k= 18\/(20<=k/\k<=23) then 1 else if(5<=k/\k<=14)\/k= 19 then 2 else if k= 15 then 3 else if k= 16\/k= 17 then -1 else -2
theorem zeY (k:Int) (w:World):Calls Tryz.prog 110 #[.int .i64 k] w fun e w'=>e= .returned (.int .i64 (z0V k))/\w'= w:=by
 by_cases h:k= 1\/k= 2\/k= 3\/k= 4\/k= 5\/k= 6\/k= 7\/k= 8\/k= 9\/k= 10\/k= 11\/k= 12\/k= 13\/k= 14\/k= 15\/k= 16\/k= 17\/k= 18\/k= 19\/k= 20\/k= 21\/k= 22\/k= 23
 ·rcases h with rfl|rfl|rfl|rfl|rfl|rfl|rfl|rfl|rfl|rfl|rfl|rfl|rfl|rfl|rfl|rfl|rfl|rfl|rfl|rfl|rfl|rfl|rfl
  all_goals
   go_enter Tryz.func110,Tryz.ntmps110;go_wp2;go_ret;exact⟨rfl,rfl⟩
 ·have g:Hid (z0V k= -2):=I (by unfold z0V;rw[if_neg (by omega),if_neg (by omega),if_neg (by omega),if_neg (by omega),if_neg (by omega)])
  by_cases h1:k < 1
  ·have e1:(k ==1)= false:=by rw[beq_eq_false_iff_ne];omega
   have e2:(k ==2)= false:=by rw[beq_eq_false_iff_ne];omega
   have e3:(k ==3)= false:=by rw[beq_eq_false_iff_ne];omega
   have e4:(k ==4)= false:=by rw[beq_eq_false_iff_ne];omega
   have e18:(k ==18)= false:=by rw[beq_eq_false_iff_ne];omega
   have e15:(k ==15)= false:=by rw[beq_eq_false_iff_ne];omega
   have e16:(k ==16)= false:=by rw[beq_eq_false_iff_ne];omega
   have e17:(k ==17)= false:=by rw[beq_eq_false_iff_ne];omega
   have e19:(k ==19)= false:=by rw[beq_eq_false_iff_ne];omega
   have l20: ¬ (20<=k):=by omega
   have l5: ¬ (5<=k):=by omega
   clear h h1;go_enter Tryz.func110,Tryz.ntmps110;go_wp2;go_ret;exact⟨by rw[g.o];rfl,rfl⟩
  ·have e1:(k ==1)= false:=by rw[beq_eq_false_iff_ne];omega
   have e2:(k ==2)= false:=by rw[beq_eq_false_iff_ne];omega
   have e3:(k ==3)= false:=by rw[beq_eq_false_iff_ne];omega
   have e4:(k ==4)= false:=by rw[beq_eq_false_iff_ne];omega
   have e18:(k ==18)= false:=by rw[beq_eq_false_iff_ne];omega
   have e15:(k ==15)= false:=by rw[beq_eq_false_iff_ne];omega
   have e16:(k ==16)= false:=by rw[beq_eq_false_iff_ne];omega
   have e17:(k ==17)= false:=by rw[beq_eq_false_iff_ne];omega
   have e19:(k ==19)= false:=by rw[beq_eq_false_iff_ne];omega
   have l20:20<=k:=by omega
   have l23: ¬ (k<=23):=by omega
   have l5:5<=k:=by omega
   have l14: ¬ (k<=14):=by omega
   clear h h1;go_enter Tryz.func110,Tryz.ntmps110;go_wp2;go_ret;exact⟨by rw[g.o];rfl,rfl⟩
def wordB (s:ByteArray):Bool:=((s.toList ==[116,114,117,101]) ||((s.toList ==[102,97,108,115,101]) ||((s.toList ==[110,97,110]) ||((s.toList ==[105,110,102]) ||((s.toList ==[108,101,110]) ||((s.toList ==[102,108,111,97,116]) ||((s.toList ==[105,110,116]) ||(s.toList ==[115,116,114]))))))))
theorem z7R (s:ByteArray) (w:World):Calls Tryz.prog 91 #[.string s] w fun e w'=>e= .returned (.bool (wordB s))/\w'= w:=by
 cases h0:(s.toList ==[116,114,117,101]) with
 |true=>
  have g:Hid (wordB s= true):=I (by unfold wordB;rw[h0];rfl);go_enter Tryz.func91,Tryz.ntmps91;go_wp2;go_ret;exact⟨by rw[g.o];rfl,rfl⟩
 |false=>
  cases h1:(s.toList ==[102,97,108,115,101]) with
  |true=>
   have g:Hid (wordB s= true):=I (by unfold wordB;rw[h0,h1];rfl);go_enter Tryz.func91,Tryz.ntmps91;go_wp2;go_ret;exact⟨by rw[g.o];rfl,rfl⟩
  |false=>
   cases h2:(s.toList ==[110,97,110]) with
   |true=>
    have g:Hid (wordB s= true):=I (by unfold wordB;rw[h0,h1,h2];rfl);go_enter Tryz.func91,Tryz.ntmps91;go_wp2;go_ret;exact⟨by rw[g.o];rfl,rfl⟩
   |false=>
    cases h3:(s.toList ==[105,110,102]) with
    |true=>
     have g:Hid (wordB s= true):=I (by unfold wordB;rw[h0,h1,h2,h3];rfl);go_enter Tryz.func91,Tryz.ntmps91;go_wp2;go_ret;exact⟨by rw[g.o];rfl,rfl⟩
    |false=>
     cases h4:(s.toList ==[108,101,110]) with
     |true=>
      have g:Hid (wordB s= true):=I (by unfold wordB;rw[h0,h1,h2,h3,h4];rfl);go_enter Tryz.func91,Tryz.ntmps91;go_wp2;go_ret;exact⟨by rw[g.o];rfl,rfl⟩
     |false=>
      cases h5:(s.toList ==[102,108,111,97,116]) with
      |true=>
       have g:Hid (wordB s= true):=I (by unfold wordB;rw[h0,h1,h2,h3,h4,h5];rfl);go_enter Tryz.func91,Tryz.ntmps91;go_wp2;go_ret;exact⟨by rw[g.o];rfl,rfl⟩
      |false=>
       cases h6:(s.toList ==[105,110,116]) with
       |true=>
        have g:Hid (wordB s= true):=I (by unfold wordB;rw[h0,h1,h2,h3,h4,h5,h6];rfl);go_enter Tryz.func91,Tryz.ntmps91;go_wp2;go_ret;exact⟨by rw[g.o];rfl,rfl⟩
       |false=>
        cases h7:(s.toList ==[115,116,114]) with
        |true=>
         have g:Hid (wordB s= true):=I (by unfold wordB;rw[h0,h1,h2,h3,h4,h5,h6,h7];rfl);go_enter Tryz.func91,Tryz.ntmps91;go_wp2;go_ret;exact⟨by rw[g.o];rfl,rfl⟩
        |false=>
         have g:Hid (wordB s= false):=I (by unfold wordB;rw[h0,h1,h2,h3,h4,h5,h6,h7];rfl);go_enter Tryz.func91,Tryz.ntmps91;go_wp2;go_ret;exact⟨by rw[g.o];rfl,rfl⟩
def z0g (s:ByteArray):Bool:=nameB s && (!(s.toList ==[110,97,110]) && !(s.toList ==[105,110,102]))
theorem z48 (s:ByteArray) (w:World):Calls Tryz.prog 145 #[.string s] w fun e w'=>e= .returned (.bool (z0g s))/\Below w.heap.size w w':=by
 have g:=I (z5z s w);cases h0:nameB s with
 |false=>
  have C:Hid (z0g s= false):=I (by unfold z0g;rw[h0];rfl);rw[h0] at g;clear h0;go_enter Tryz.func145,Tryz.ntmps145;go_wp2_with (go_at_call 90;refine zg g.o ?_;intro z A);go_ret;exact⟨by rw[C.o];rfl,A.o⟩
 |true=>
  cases h1:(s.toList ==[110,97,110]) with
  |true=>
   have C:Hid (z0g s= false):=I (by unfold z0g;rw[h0,h1];rfl);rw[h0] at g;clear h0;go_enter Tryz.func145,Tryz.ntmps145;go_wp2_with (go_at_call 90;refine zg g.o ?_;intro z A);go_ret;exact⟨by rw[C.o];rfl,A.o⟩
  |false=>
   cases h2:(s.toList ==[105,110,102]) with
   |true=>
    have C:Hid (z0g s= false):=I (by unfold z0g;rw[h0,h1,h2];rfl);rw[h0] at g;clear h0;go_enter Tryz.func145,Tryz.ntmps145;go_wp2_with (go_at_call 90;refine zg g.o ?_;intro z A);go_ret;exact⟨by rw[C.o];rfl,A.o⟩
   |false=>
    have C:Hid (z0g s= true):=I (by unfold z0g;rw[h0,h1,h2];rfl);rw[h0] at g;clear h0;go_enter Tryz.func145,Tryz.ntmps145;go_wp2_with (go_at_call 90;refine zg g.o ?_;intro z A);go_ret;exact⟨by rw[C.o];rfl,A.o⟩
def noneB (k n:Int) (f:Nat) (s:ByteArray) (ns its:Nat):Bool:=(k ==0) && ((n ==0) && ((cmpF f 0 ==0) && (s.toList.isEmpty && (((ns:Int) ==0) && ((its:Int) ==0)))))
theorem z5f (p o:Nat) (k n:Int) (f:Nat) (s:ByteArray) (A D:Option Addr) (ns its ca cd:Nat) (w:World) (hf:f < 2 ^ 64) (h:w.rangeAt p o [.int .i64 k,.int .i64 n,.float .f64 f,.string s,.slice A ns ca,.slice D its cd]):
  Calls Tryz.prog 113 #[.pointer (some ⟨p,o,none⟩)] w fun e w'=>e= .returned (.bool (noneB k n f s ns its))/\w'= w:=by
 have d0:w.cell? ⟨p,o,none⟩= some (.int .i64 k):=h 0 _ rfl;have d1:=h 1 _ rfl;have d2:=h 2 _ rfl;have d3:=h 3 _ rfl;have d4:=h 4 _ rfl;have d5:=h 5 _ rfl;have g:=I (fun w=>z16 f 0 hf (by decide) w);clear h hf;cases h0:(k ==0) with
 |false=>
  have C:Hid (noneB k n f s ns its= false):=I (by unfold noneB;rw[h0];rfl);generalize cmpF f 0= cf at*;go_enter Tryz.func113,Tryz.ntmps113;go_wp2_with (go_at_call 144;refine(g.o _).mono ?_;rintro e z ⟨rfl,rfl⟩);go_ret;exact⟨z8 C.o.symm,rfl⟩
 |true=>
  cases h1:(n ==0) with
  |false=>
   have C:Hid (noneB k n f s ns its= false):=I (by unfold noneB;rw[h0,h1];rfl);generalize cmpF f 0= cf at*;go_enter Tryz.func113,Tryz.ntmps113;go_wp2_with (go_at_call 144;refine(g.o _).mono ?_;rintro e z ⟨rfl,rfl⟩);go_ret;exact⟨z8 C.o.symm,rfl⟩
  |true=>
   cases h2:(cmpF f 0 ==0) with
   |false=>
    have C:Hid (noneB k n f s ns its= false):=I (by unfold noneB;rw[h0,h1,h2];rfl);generalize cmpF f 0= cf at*;go_enter Tryz.func113,Tryz.ntmps113;go_wp2_with (go_at_call 144;refine(g.o _).mono ?_;rintro e z ⟨rfl,rfl⟩);go_ret;exact⟨z8 C.o.symm,rfl⟩
   |true=>
    cases h3:s.toList.isEmpty with
    |false=>
     have C:Hid (noneB k n f s ns its= false):=I (by unfold noneB;rw[h0,h1,h2,h3];rfl);generalize cmpF f 0= cf at*;go_enter Tryz.func113,Tryz.ntmps113;go_wp2_with (go_at_call 144;refine(g.o _).mono ?_;rintro e z ⟨rfl,rfl⟩);go_ret;exact⟨z8 C.o.symm,rfl⟩
    |true=>
     cases h4:((ns:Int) ==0) with
     |false=>
      have C:Hid (noneB k n f s ns its= false):=I (by unfold noneB;rw[h0,h1,h2,h3,h4];rfl);generalize cmpF f 0= cf at*;go_enter Tryz.func113,Tryz.ntmps113;go_wp2_with (go_at_call 144;refine(g.o _).mono ?_;rintro e z ⟨rfl,rfl⟩);go_ret;exact⟨z8 C.o.symm,rfl⟩
     |true=>
      cases h5:((its:Int) ==0) with
      |false=>
       have C:Hid (noneB k n f s ns its= false):=I (by unfold noneB;rw[h0,h1,h2,h3,h4,h5];rfl);generalize cmpF f 0= cf at*;go_enter Tryz.func113,Tryz.ntmps113;go_wp2_with (go_at_call 144;refine(g.o _).mono ?_;rintro e z ⟨rfl,rfl⟩);go_ret;exact⟨z8 C.o.symm,rfl⟩
      |true=>
       have C:Hid (noneB k n f s ns its= true):=I (by unfold noneB;rw[h0,h1,h2,h3,h4,h5];rfl);generalize cmpF f 0= cf at*;go_enter Tryz.func113,Tryz.ntmps113;go_wp2_with (go_at_call 144;refine(g.o _).mono ?_;rintro e z ⟨rfl,rfl⟩);go_ret;exact⟨z8 C.o.symm,rfl⟩
end
section
open Go Go.RowKit
def riseF:Option ByteArray->List ByteArray->Bool
 |_,[]=>true
 |none,s::l=>z0g s && riseF (some s) l
 |some p,s::l=>z0g s && (Op.bytesLess p.toList s.toList && riseF (some s) l)
theorem z9Q {l:List ByteArray} {s:ByteArray} (h:l[0]?= some s):riseF (prevK l 0) (l.drop 0)=(z0g s && riseF (prevK l 1) (l.drop 1)):=by
 rw[z0d h];show(z0g s && riseF (some s) (l.drop 1))= _;unfold prevK;simp[h]
theorem zb9 {l:List ByteArray} {k:Nat} {p s:ByteArray} (hp:l[k]?= some p) (h:l[k+1]?= some s):riseF (prevK l (k+1)) (l.drop (k+1))=(z0g s && (Op.bytesLess p.toList s.toList && riseF (prevK l (k+2)) (l.drop (k+2)))):=by
 rw[z0d h];have h1:prevK l (k+1)= some p:=by unfold prevK;simp[hp]
 have h2:prevK l (k+2)= some s:=by unfold prevK;simp[h]
 rw[h1,h2];rfl
theorem zd2 {l:List ByteArray}:riseF (prevK l l.length) (l.drop l.length)= true:=by
 rw[List.drop_eq_nil_of_le (Nat.le_refl _)];rw[riseF]
def zR (k:Int) (s:ByteArray) (ns:List ByteArray) (nk:Nat):Bool:=
 if k= 2 then !wordB s && (z0g s && ((ns.length:Int) ==0))
 else if k= 18 then z0g s && ((ns.length:Int) ==0)
 else if k= 17 then riseF none ns && (s.toList.isEmpty && ((ns.length:Int) ==(nk:Int)))
 else s.toList.isEmpty && ((ns.length:Int) ==0)
theorem zge (p o:Nat) (sx:ByteArray) (v0 v1 v2 v3 v4 v5:Value) (A K:Option Addr) (c nk kc:Nat) (l:List ByteArray) (w:World) (hr:w.rangeAt p o [.int .i64 18,.string sx,v0,v1,v2,v3,v4,v5,.slice A l.length c,.slice K nk kc]) (hv:SlAt w w.heap.size 1 StrR (.slice A l.length c) l):
  Calls Tryz.prog 111 #[.pointer (some ⟨p,o,none⟩)] w fun e w'=>e= .returned (.bool (zR (18) sx l nk))/\Below w.heap.size w w':=by
 have d0:w.cell? ⟨p,o,none⟩= some (.int .i64 18):=hr 0 _ rfl;have d1:w.cell? ⟨p,o+1,none⟩= some (.string sx):=hr 1 _ rfl;have d8:w.cell? ⟨p,o+8,none⟩= some (.slice A l.length c):=hr 8 _ rfl;have d9:w.cell? ⟨p,o+9,none⟩= some (.slice K nk kc):=hr 9 _ rfl;have G:Hid (p < w.heap.size):=I (z2L d0);have X:=I d8;clear hr hv d8;have d8:=X.o;have g:=I (fun w=>z48 sx w);cases hf:z0g sx with
 |false=>
  have O:Hid (zR 18 sx l nk= false):=I (by unfold zR;rw[if_neg (by decide),if_pos rfl];rw[hf];rfl);rw[hf] at g
  skip
  clear hf;go_enter Tryz.func111,Tryz.ntmps111;go_wp2_with (go_at_call 145;refine(g.o _).mono ?_;rintro e z ⟨rfl,C⟩;have N:=I C;have e8:=(C.cell (p:=⟨p,o+8,none⟩) G.o).trans X.o;clear C);go_ret;exact⟨z8 O.o.symm,N.o⟩
 |true=>
  cases hl:((l.length:Int) ==0) with
  |true=>
   have O:Hid (zR 18 sx l nk= true):=I (by unfold zR;rw[if_neg (by decide),if_pos rfl];rw[hf,hl];rfl);rw[hf] at g
   skip
   clear hf;go_enter Tryz.func111,Tryz.ntmps111;go_wp2_with (go_at_call 145;refine(g.o _).mono ?_;rintro e z ⟨rfl,C⟩;have N:=I C;have e8:=(C.cell (p:=⟨p,o+8,none⟩) G.o).trans X.o;clear C);go_ret;exact⟨z8 O.o.symm,N.o⟩
  |false=>
   have O:Hid (zR 18 sx l nk= false):=I (by unfold zR;rw[if_neg (by decide),if_pos rfl];rw[hf,hl];rfl);rw[hf] at g
   skip
   clear hf;go_enter Tryz.func111,Tryz.ntmps111;go_wp2_with (go_at_call 145;refine(g.o _).mono ?_;rintro e z ⟨rfl,C⟩;have N:=I C;have e8:=(C.cell (p:=⟨p,o+8,none⟩) G.o).trans X.o;clear C);go_ret;exact⟨z8 O.o.symm,N.o⟩
theorem zh4 (p o:Nat) (sx:ByteArray) (v0 v1 v2 v3 v4 v5:Value) (A K:Option Addr) (c nk kc:Nat) (l:List ByteArray) (w:World) (hr:w.rangeAt p o [.int .i64 2,.string sx,v0,v1,v2,v3,v4,v5,.slice A l.length c,.slice K nk kc]) (hv:SlAt w w.heap.size 1 StrR (.slice A l.length c) l):
  Calls Tryz.prog 111 #[.pointer (some ⟨p,o,none⟩)] w fun e w'=>e= .returned (.bool (zR (2) sx l nk))/\Below w.heap.size w w':=by
 have d0:w.cell? ⟨p,o,none⟩= some (.int .i64 2):=hr 0 _ rfl;have d1:w.cell? ⟨p,o+1,none⟩= some (.string sx):=hr 1 _ rfl;have d8:w.cell? ⟨p,o+8,none⟩= some (.slice A l.length c):=hr 8 _ rfl;have d9:w.cell? ⟨p,o+9,none⟩= some (.slice K nk kc):=hr 9 _ rfl;have N:Hid (p < w.heap.size):=I (z2L d0);have Y:=I d8;clear hr hv d8;have d8:=Y.o;have g:=I (fun w=>z7R sx w);cases hw:wordB sx with
 |true=>
  have O:Hid (zR 2 sx l nk= false):=I (by unfold zR;rw[if_pos rfl,hw];rfl);rw[hw] at g;clear hw;go_enter Tryz.func111,Tryz.ntmps111;go_wp2_with (go_at_call 91;refine(g.o _).mono ?_;rintro e z ⟨rfl,rfl⟩);go_ret;exact⟨z8 O.o.symm,Below.refl _ _⟩
 |false=>
  have C:=I (fun w=>z48 sx w);cases hf:z0g sx with
  |false=>
   have O:Hid (zR 2 sx l nk= false):=I (by unfold zR;rw[if_pos rfl];rw[hw,hf];rfl);rw[hf] at C;rw[hw] at g;clear hf hw;go_enter Tryz.func111,Tryz.ntmps111;go_wp2_with (first|(go_at_call 145;refine(C.o _).mono ?_;rintro e z ⟨rfl,G⟩;have X:=I G;have e8:=(G.cell (p:=⟨p,o+8,none⟩) N.o).trans Y.o;clear G)|(go_at_call 91;refine(g.o _).mono ?_;rintro e z ⟨rfl,rfl⟩));go_ret;exact⟨z8 O.o.symm,X.o⟩
  |true=>
   cases hl:((l.length:Int) ==0) with
   |true=>
    have O:Hid (zR 2 sx l nk= true):=I (by unfold zR;rw[if_pos rfl];rw[hw,hf,hl];rfl);rw[hf] at C;rw[hw] at g;clear hf hw;go_enter Tryz.func111,Tryz.ntmps111;go_wp2_with (first|(go_at_call 145;refine(C.o _).mono ?_;rintro e z ⟨rfl,G⟩;have X:=I G;have e8:=(G.cell (p:=⟨p,o+8,none⟩) N.o).trans Y.o;clear G)|(go_at_call 91;refine(g.o _).mono ?_;rintro e z ⟨rfl,rfl⟩));go_ret;exact⟨z8 O.o.symm,X.o⟩
   |false=>
    have O:Hid (zR 2 sx l nk= false):=I (by unfold zR;rw[if_pos rfl];rw[hw,hf,hl];rfl);rw[hf] at C;rw[hw] at g;clear hf hw;go_enter Tryz.func111,Tryz.ntmps111;go_wp2_with (first|(go_at_call 145;refine(C.o _).mono ?_;rintro e z ⟨rfl,G⟩;have X:=I G;have e8:=(G.cell (p:=⟨p,o+8,none⟩) N.o).trans Y.o;clear G)|(go_at_call 91;refine(g.o _).mono ?_;rintro e z ⟨rfl,rfl⟩));go_ret;exact⟨z8 O.o.symm,X.o⟩
theorem zh3 (k:Int) (h2:k≠2) (h17:k≠17) (h18:k≠18) (p o:Nat) (sx:ByteArray) (v0 v1 v2 v3 v4 v5:Value) (A K:Option Addr) (c nk kc:Nat) (l:List ByteArray) (w:World) (hr:w.rangeAt p o [.int .i64 k,.string sx,v0,v1,v2,v3,v4,v5,.slice A l.length c,.slice K nk kc]) (hv:SlAt w w.heap.size 1 StrR (.slice A l.length c) l):
  Calls Tryz.prog 111 #[.pointer (some ⟨p,o,none⟩)] w fun e w'=>e= .returned (.bool (zR k sx l nk))/\Below w.heap.size w w':=by
 have d0:w.cell? ⟨p,o,none⟩= some (.int .i64 k):=hr 0 _ rfl;have d1:w.cell? ⟨p,o+1,none⟩= some (.string sx):=hr 1 _ rfl;have d8:w.cell? ⟨p,o+8,none⟩= some (.slice A l.length c):=hr 8 _ rfl;have d9:w.cell? ⟨p,o+9,none⟩= some (.slice K nk kc):=hr 9 _ rfl;have G:Hid (p < w.heap.size):=I (z2L d0);have N:=I d8;have e2:(k ==2)= false:=by rw[beq_eq_false_iff_ne];exact h2
 have e17:(k ==17)= false:=by rw[beq_eq_false_iff_ne];exact h17
 have e18:(k ==18)= false:=by rw[beq_eq_false_iff_ne];exact h18
 have C:Hid (zR k sx l nk=(sx.toList.isEmpty && ((l.length:Int) ==0))):=I (by unfold zR;rw[if_neg h2,if_neg h18,if_neg h17]);clear hr hv h2 h17 h18;cases hs:sx.toList.isEmpty with
 |false=>
  have g:=I (C.o.trans (by rw[hs];rfl:_= false));go_enter Tryz.func111,Tryz.ntmps111;go_wp2;go_ret;exact⟨z8 g.o.symm,Below.refl _ _⟩
 |true=>
  cases hl:((l.length:Int) ==0) with
  |false=>
   have g:=I (C.o.trans (by rw[hs,hl];rfl:_= false));go_enter Tryz.func111,Tryz.ntmps111;go_wp2;go_ret;exact⟨z8 g.o.symm,Below.refl _ _⟩
  |true=>
   have g:=I (C.o.trans (by rw[hs,hl];rfl:_= true));go_enter Tryz.func111,Tryz.ntmps111;go_wp2;go_ret;exact⟨z8 g.o.symm,Below.refl _ _⟩
theorem zgd (p o:Nat) (sx:ByteArray) (v0 v1 v2 v3 v4 v5:Value) (A K:Option Addr) (c nk kc:Nat) (l:List ByteArray) (w:World) (hr:w.rangeAt p o [.int .i64 17,.string sx,v0,v1,v2,v3,v4,v5,.slice A l.length c,.slice K nk kc]) (hv:SlAt w w.heap.size 1 StrR (.slice A l.length c) l):
  Calls Tryz.prog 111 #[.pointer (some ⟨p,o,none⟩)] w fun e w'=>e= .returned (.bool (zR (17) sx l nk))/\Below w.heap.size w w':=by
 have d0:w.cell? ⟨p,o,none⟩= some (.int .i64 17):=hr 0 _ rfl;have d1:w.cell? ⟨p,o+1,none⟩= some (.string sx):=hr 1 _ rfl;have d8:w.cell? ⟨p,o+8,none⟩= some (.slice A l.length c):=hr 8 _ rfl;have d9:w.cell? ⟨p,o+9,none⟩= some (.slice K nk kc):=hr 9 _ rfl;have a2:Hid (p < w.heap.size):=I (z2L d0);have D8:=I d8;obtain⟨_,hl,ha⟩:=z1l hv;have HA:=I ha;have H1:=I (fun s=>z9Q (l:=l) (s:=s));have H2:=I (fun k p s=>zb9 (l:=l) (k:=k) (p:=p) (s:=s));have HE:=I (zd2 (l:=l));have HU:Hid (zR 17 sx l nk=(riseF none l && (sx.toList.isEmpty && ((l.length:Int) ==(nk:Int))))):=I (by unfold zR;rw[if_neg (by decide),if_neg (by decide),if_pos rfl]);have H0:Hid (riseF (prevK l 0) (l.drop 0)= riseF none l):=I rfl;have e5:(l.length:Int)<=9223372036854775807:=by omega
 have D1:=I d1;have D9:=I d9;clear ha hv hr;obtain⟨a0,X⟩:∃ a0,riseF none l= a0:=⟨_,rfl⟩;have C:=I X;rw[X] at H0;clear X;go_enter Tryz.func111,Tryz.ntmps111;go_upto_region 9 with (fail);go_loopg [38] l.length (fun q x u=>∃ k:Nat,k+q= l.length/\x= .int .i64 k/\Below w.heap.size w u/\riseF (prevK l k) (l.drop k)= a0);case atStart=>exact⟨0,by omega,rfl,Below.refl _ _,H0.o⟩
 case round=>
  obtain⟨k,hk,rfl,hb,a4⟩:=hrel;have HR:=I a4;have g:=I hb;clear a4 hb;cases gk with
  |zero=>
   obtain rfl:k= l.length:=by omega
   have e3: ¬ ((l.length:Int) <(l.length:Int)):=by omega
   have Y:=I (HR.o.symm.trans HE.o);have x1:=(g.o.cell (p:=⟨p,o+1,none⟩) a2.o).trans D1.o;have x8:=(g.o.cell (p:=⟨p,o+8,none⟩) a2.o).trans D8.o;have x9:=(g.o.cell (p:=⟨p,o+9,none⟩) a2.o).trans D9.o;clear HR;cases hs:sx.toList.isEmpty with
   |false=>
    have a3:Hid (zR 17 sx l nk= false):=I (by rw[HU.o,C.o,Y.o,hs];rfl);go_upto_region 14 with (fail);go_quiet (fail);go_wp2;go_ret;exact⟨z8 a3.o.symm,g.o.trans ⟨rfl,rfl,rfl,Nat.le_refl _,fun _ _=>rfl⟩⟩
   |true=>
    cases hl:((l.length:Int) ==(nk:Int)) with
    |false=>
     have a3:Hid (zR 17 sx l nk= false):=I (by rw[HU.o,C.o,Y.o,hs,hl];rfl);go_upto_region 14 with (fail);go_quiet (fail);go_wp2;go_ret;exact⟨z8 a3.o.symm,g.o.trans ⟨rfl,rfl,rfl,Nat.le_refl _,fun _ _=>rfl⟩⟩
    |true=>
     have a3:Hid (zR 17 sx l nk= true):=I (by rw[HU.o,C.o,Y.o,hs,hl];rfl);go_upto_region 14 with (fail);go_quiet (fail);go_wp2;go_ret;exact⟨z8 a3.o.symm,g.o.trans ⟨rfl,rfl,rfl,Nat.le_refl _,fun _ _=>rfl⟩⟩
  |succ q=>
   have e6:(k:Int) <(l.length:Int):=by omega
   obtain⟨s,hs⟩:∃ s,l[k]?= some s:=⟨_,List.getElem?_eq_getElem (by omega)⟩;obtain⟨b,oo,rfl,a6,hc⟩:=HA.o (by omega);have b7:=I (fun i x hx=>(hc i x hx).1);have b0:=I a6;have ds:=(g.o.cell (p:=⟨b,oo+k,none⟩) a6).trans (hc k s hs).1;have a1:=I (z48 s wr);have b2:=I hs;clear hc a6 hs;rcases Nat.eq_zero_or_pos k with b3|b3
   ·subst b3
    have e2:wr.cell? ⟨b,oo,none⟩= some (.string s):=ds;have c8:(0:Int) <(l.length:Int):=by omega
    have Y:=I (HR.o.symm.trans (H1.o s b2.o));clear HR;generalize z0g s= nb at*;cases nb with
    |false=>
     have O:Hid (a0= false):=I (Y.o.trans (Bool.false_and _));clear Y;go_wp2_with (go_at_call 145;refine zg a1.o ?_;intro z G);go_ret;exact⟨z8 (by rw[HU.o,C.o,O.o];rfl),(beT g.o G.o)⟩
    |true=>
     have O:=I (Y.o.trans (Bool.true_and _));clear Y;go_wp2_with (go_at_call 145;refine zg a1.o ?_;intro z G);go_roundg q;case measure=>omega
     case rel=>exact⟨1,by omega,by go_num,(beT g.o G.o),O.o.symm⟩
   ·obtain⟨j,rfl⟩:∃ j,k= j+1:=⟨k - 1,by omega⟩
    obtain⟨pn,hp⟩:∃ pn,l[j]?= some pn:=⟨_,List.getElem?_eq_getElem (by omega)⟩;have Y:=I (HR.o.symm.trans (H2.o j pn s hp b2.o));have b1:=I (b7.o j pn hp);have c9:(0:Int) <((j+1:Nat):Int):=by omega
    have e4:(j:Int) <(l.length:Int):=by omega
    clear HR hp;generalize z0g s= nb at*;cases nb with
    |false=>
     have O:Hid (a0= false):=I (Y.o.trans (Bool.false_and _));clear Y;go_wp2_with (go_at_call 145;refine zg a1.o ?_;intro z G);go_ret;exact⟨z8 (by rw[HU.o,C.o,O.o];rfl),(beT g.o G.o)⟩
    |true=>
     have O:=I (Y.o.trans (Bool.true_and _));clear Y;cases hlt3:Op.bytesLess pn.toList s.toList with
     |false=>
      have a5:Hid (a0= false):=I (O.o.trans (by rw[hlt3];exact Bool.false_and _));go_wp2_with (go_at_call 145;refine a1.o.mono ?_;rintro e z ⟨rfl,N⟩;have G:=I N;have x8:=((beT g.o N).cell (p:=⟨p,o+8,none⟩) a2.o).trans D8.o;have dp:=(((beT g.o N).cell (p:=⟨b,oo+j,none⟩) b0.o)).trans b1.o;clear N);go_ret;exact⟨z8 (by rw[HU.o,C.o,a5.o];rfl),(beT g.o G.o)⟩
     |true=>
      have a5:=I (O.o.trans (by rw[hlt3,Bool.true_and]));go_wp2_with (go_at_call 145;refine a1.o.mono ?_;rintro e z ⟨rfl,N⟩;have G:=I N;have x8:=((beT g.o N).cell (p:=⟨p,o+8,none⟩) a2.o).trans D8.o;have dp:=(((beT g.o N).cell (p:=⟨b,oo+j,none⟩) b0.o)).trans b1.o;clear N);go_roundg q;case measure=>omega
      case rel=>exact⟨j+2,by omega,by go_num,(beT g.o G.o),a5.o.symm⟩
theorem zcG (k:Int) (p o:Nat) (sx:ByteArray) (v0 v1 v2 v3 v4 v5:Value) (A K:Option Addr) (c nk kc:Nat) (l:List ByteArray) (w:World) (hr:w.rangeAt p o [.int .i64 k,.string sx,v0,v1,v2,v3,v4,v5,.slice A l.length c,.slice K nk kc]) (hv:SlAt w w.heap.size 1 StrR (.slice A l.length c) l):
  Calls Tryz.prog 111 #[.pointer (some ⟨p,o,none⟩)] w fun e w'=>e= .returned (.bool (zR k sx l nk))/\Below w.heap.size w w':=by
 rcases Classical.em (k= 2) with rfl|h2
 ·exact zh4 p o sx v0 v1 v2 v3 v4 v5 A K c nk kc l w hr hv
 rcases Classical.em (k= 17) with rfl|h17
 ·exact zgd p o sx v0 v1 v2 v3 v4 v5 A K c nk kc l w hr hv
 rcases Classical.em (k= 18) with rfl|h18
 ·exact zge p o sx v0 v1 v2 v3 v4 v5 A K c nk kc l w hr hv
 exact zh3 k h2 h17 h18 p o sx v0 v1 v2 v3 v4 v5 A K c nk kc l w hr hv
end
section
open Go Go.RowKit
def Kept (p:Nat->Prop) (w:World) (cs:List Value) (t:VT):Prop:=ValAt (only w p) w.heap.size cs t
theorem Kept.val {p:Nat->Prop} {w:World} {cs:List Value} {t:VT} (h:Kept p w cs t):ValAt w w.heap.size cs t:=ValAt.cells h fun a v hv=>(zx.1 hv).2
theorem Kept.to {p q:Nat->Prop} {w w':World} {cs:List Value} {t:VT} (h:Kept p w cs t) (hb:∀ b,p b->b < w.heap.size->q b/\w'.heap[b]?= w.heap[b]?) (hs:w.heap.size<=w'.heap.size):Kept q w' cs t:=
 (ValAt.cells h (z4V hb)).more hs
abbrev zT:= {ks:List Value // ks.length= 6}
def enc6 (k:zT):List Value:=k.1
theorem z0D (k:zT):(enc6 k).length= 6:=k.2
structure CanInv (TV:TypeId) (W u:World) (v:Value) (l:List VT) (i:Nat) (KL:List zT):Prop where
 own:OwnSl TV 6 enc6 u W.heap.size v KL
 len:KL.length= i
 bel:Below W.heap.size W u
 els:∀ (j:Nat) k x,KL[j]?= some k->l[j]?= some x->Kept (fun b=>W.heap.size<=b/\some b≠v.ownBlock) u k.1 (z01 x)
theorem CanInv.start (TV:TypeId) (W:World) (l:List VT):CanInv TV W W (.slice none 0 0) l 0 []:=⟨OwnSl.nil _ _,rfl,Below.refl _ _,fun j k x hk _=>by cases hk⟩
theorem CanInv.next {TV:TypeId} {W u u5 u6 u7 u8:World} {v v':Value} {l:List VT} {i:Nat} {KL:List zT} (h:CanInv TV W u v l i KL) (h5:Below u.heap.size u u5) (h6:Below u5.heap.size u5 u6) (h7:Below u6.heap.size u6 u7) {k:zT} {x:VT} (hx:l[i]?= some x)
  (hk:Kept (fun b=>u5.heap.size<=b) u6 k.1 (z01 x)) (hown:OwnSl TV 6 enc6 u8 W.heap.size v' (KL ++ [k])) (hg:u7.grownBy u8 v.ownBlock) (hb:v'.ownBlock= v.ownBlock\/v'.ownBlock= some u7.heap.size):
  CanInv TV W u8 v' l (i+1) (KL ++ [k]):=by
 have h57:=h5.trans ((beT h6 h7).mono h5.size);have A:∀ b,b < u.heap.size->some b≠v.ownBlock->some b≠v'.ownBlock/\u8.heap[b]?= u.heap[b]?:=fun b hlt g=>by
  have e1:=h57.block b hlt;have e2:=hg.block b (Nat.lt_of_lt_of_le hlt h57.size) g;refine⟨?_,e2.trans e1⟩;rcases hb with hb|hb
  ·rw[hb];exact g
  ·rw[hb]
   intro e;injection e with e;have:=h57.size;omega
 have C:∀ b,u5.heap.size<=b->b < u6.heap.size->some b≠v'.ownBlock/\u8.heap[b]?= u6.heap[b]?:=fun b hge hlt=>by
  have g:some b≠v.ownBlock:=fun e=>by
   have:=z0y h.own e.symm;have:=h5.size;omega
  have e1:=h7.block b hlt;have e2:=hg.block b (Nat.lt_of_lt_of_le hlt h7.size) g;refine⟨?_,e2.trans e1⟩;rcases hb with hb|hb
  ·rw[hb];exact g
  ·rw[hb]
   intro e;injection e with e;have:=h7.size;omega
 have K:=h.bel.size;refine⟨hown,by rw[List.length_append,h.len];rfl,?_,fun j k' y hk' hy=> ?_⟩
 ·refine⟨hg.os.trans (h57.os.trans h.bel.os),hg.tape.trans (h57.tape.trans h.bel.tape),hg.output.trans (h57.output.trans h.bel.output),?_,fun b hlt=> ?_⟩
  ·have:=hg.size
   have:=h57.size;omega
  ·have g:some b≠v.ownBlock:=fun e=>by
    have:=h.own.block e.symm;omega
   exact(A b (by omega) g).2.trans (h.bel.block b hlt)
 ·rcases Nat.lt_or_ge j KL.length with N|N
  ·rw[List.getElem?_append_left N] at hk'
   refine(h.els j k' y hk' hy).to (fun b hp hlt=>⟨⟨hp.1,(A b hlt hp.2).1⟩,(A b hlt hp.2).2⟩) ?_;have:=hg.size;have:=h57.size;omega
  ·rw[List.getElem?_append_right N] at hk'
   have G:j= KL.length:=by
    have:=(List.getElem?_eq_some_iff.1 hk').1;simp only[List.length_singleton] at this;omega
   rw[G,Nat.sub_self] at hk';injection hk' with hk';subst hk';have e:y= x:=by
    rw[G,h.len,hx] at hy;injection hy with hy;exact hy.symm
   subst e;refine hk.to (fun b hp hlt=>⟨⟨?_,(C b hp hlt).1⟩,(C b hp hlt).2⟩) ?_
   ·have:=h5.size
    omega
   ·have:=hg.size
    have:=h7.size;omega
theorem CanInv.row {TV:TypeId} {W u u':World} {v:Value} {l:List VT} {KL:List zT} {B:Nat} (h:CanInv TV W u v l l.length KL) (hl:l.length<=maxLen) (hB:B<=W.heap.size) (hk:∀ b,W.heap.size<=b->b < u.heap.size->u'.heap[b]?= u.heap[b]?) (hs:u.heap.size<=u'.heap.size):
  SlAt (only u' (fun b=>B<=b)) u'.heap.size 6 (ValAt (only u' (fun b=>B<=b)) u'.heap.size) v (z0F l):=by
 have A:(z0F l).length= l.length:=z3C l;refine⟨by rw[A];exact Nat.le_trans hl z10,?_⟩;rcases h.own.2 with ⟨rfl,h0⟩|⟨g,K,a0,X,hg,_,_⟩
 ·rw[h.len] at h0
  exact⟨none,0,by rw[A,h0],fun h1=>by omega⟩
 ·refine⟨some ⟨g,0,none⟩,K,by rw[X,A,h.len],fun _=> ?_⟩
  have C:v.ownBlock= some g:=by rw[X];rfl
  have N:=z0y h.own C;refine⟨g,0,rfl,by omega,fun i x hx=> ?_⟩;rw[z1o,List.getElem?_map,Option.map_eq_some_iff] at hx;obtain⟨y,Y,rfl⟩:=hx;have O:=(List.getElem?_eq_some_iff.1 Y).1;have G:KL[i]?= some (KL[i]'(by rw[h.len];exact O)):=List.getElem?_eq_getElem _;refine⟨_,(KL[i]'(by rw[h.len];exact O)).2,fun j c hc=> ?_,?_⟩
  ·refine zx.2 ⟨?_,?_⟩
   ·show B<=g
    omega
   ·refine(World.cell?_of_block (a:=⟨g,_,none⟩) (hk g hg N)).trans ?_
    have:=World.ownsRow.cells h.own C (i*6+j) c (z0Z z0D KL i _ G j c hc);rw[Addr.add_mid] at this;rw[show 0+i*6+j= 0+ (i*6+j) by omega];exact this
  ·exact(h.els i _ y G Y).to (fun b hp hb=>⟨Nat.le_trans hB hp.1,hk b hp.1 hb⟩) hs
end
section
open Go Go.RowKit
structure RowInv (TV:TypeId) (W u:World) (v:Value) (vs:List VT) (KL:List zT):Prop where
 own:OwnSl TV 6 enc6 u W.heap.size v KL
 len:KL.length= vs.length
 bel:Below W.heap.size W u
 els:∀ (j:Nat) k x,KL[j]?= some k->vs[j]?= some x->Kept (fun b=>W.heap.size<=b/\some b≠v.ownBlock) u k.1 x
theorem RowInv.start (TV:TypeId) (W:World):RowInv TV W W (.slice none 0 0) [] []:=⟨OwnSl.nil _ _,rfl,Below.refl _ _,fun j k x hk _=>by cases hk⟩
theorem RowInv.next {TV:TypeId} {W u u5 u6 u7 u8:World} {v v':Value} {vs:List VT} {KL:List zT} (h:RowInv TV W u v vs KL) (h5:Below u.heap.size u u5) (h6:Below u5.heap.size u5 u6) (h7:Below u6.heap.size u6 u7) {k:zT} {x:VT}
  (hk:Kept (fun b=>u5.heap.size<=b) u6 k.1 x) (hown:OwnSl TV 6 enc6 u8 W.heap.size v' (KL ++ [k])) (hg:u7.grownBy u8 v.ownBlock) (hb:v'.ownBlock= v.ownBlock\/v'.ownBlock= some u7.heap.size):
  RowInv TV W u8 v' (vs ++ [x]) (KL ++ [k]):=by
 have h57:=h5.trans ((beT h6 h7).mono h5.size);have A:∀ b,b < u.heap.size->some b≠v.ownBlock->some b≠v'.ownBlock/\u8.heap[b]?= u.heap[b]?:=fun b hlt g=>by
  have e1:=h57.block b hlt;have e2:=hg.block b (Nat.lt_of_lt_of_le hlt h57.size) g;refine⟨?_,e2.trans e1⟩;rcases hb with hb|hb
  ·rw[hb];exact g
  ·rw[hb]
   intro e;injection e with e;have:=h57.size;omega
 have C:∀ b,u5.heap.size<=b->b < u6.heap.size->some b≠v'.ownBlock/\u8.heap[b]?= u6.heap[b]?:=fun b hge hlt=>by
  have g:some b≠v.ownBlock:=fun e=>by
   have:=z0y h.own e.symm;have:=h5.size;omega
  have e1:=h7.block b hlt;have e2:=hg.block b (Nat.lt_of_lt_of_le hlt h7.size) g;refine⟨?_,e2.trans e1⟩;rcases hb with hb|hb
  ·rw[hb];exact g
  ·rw[hb]
   intro e;injection e with e;have:=h7.size;omega
 have N:=h.bel.size;refine⟨hown,by rw[List.length_append,List.length_append,h.len];rfl,?_,fun j k' y hk' hy=> ?_⟩
 ·refine⟨hg.os.trans (h57.os.trans h.bel.os),hg.tape.trans (h57.tape.trans h.bel.tape),hg.output.trans (h57.output.trans h.bel.output),?_,fun b hlt=> ?_⟩
  ·have:=hg.size
   have:=h57.size;omega
  ·have g:some b≠v.ownBlock:=fun e=>by
    have:=h.own.block e.symm;omega
   exact(A b (by omega) g).2.trans (h.bel.block b hlt)
 ·rcases Nat.lt_or_ge j KL.length with K|K
  ·rw[List.getElem?_append_left K] at hk'
   rw[List.getElem?_append_left (by rw[← h.len];exact K)] at hy;refine(h.els j k' y hk' hy).to (fun b hp hlt=>⟨⟨hp.1,(A b hlt hp.2).1⟩,(A b hlt hp.2).2⟩) ?_;have:=hg.size;have:=h57.size;omega
  ·rw[List.getElem?_append_right K] at hk'
   have G:j= KL.length:=by
    have:=(List.getElem?_eq_some_iff.1 hk').1;simp only[List.length_singleton] at this;omega
   rw[G,Nat.sub_self] at hk';injection hk' with hk';subst hk';have e:y= x:=by
    rw[G,h.len,List.getElem?_append_right (Nat.le_refl _),Nat.sub_self] at hy;injection hy with hy;exact hy.symm
   subst e;refine hk.to (fun b hp hlt=>⟨⟨?_,(C b hp hlt).1⟩,(C b hp hlt).2⟩) ?_
   ·have:=h5.size
    omega
   ·have:=hg.size
    have:=h7.size;omega
theorem RowInv.row {TV:TypeId} {W u u':World} {v:Value} {vs:List VT} {KL:List zT} {B:Nat} (h:RowInv TV W u v vs KL) (hl:vs.length<=maxLen) (hB:B<=W.heap.size) (hk:∀ b,W.heap.size<=b->b < u.heap.size->u'.heap[b]?= u.heap[b]?) (hs:u.heap.size<=u'.heap.size):
  SlAt (only u' (fun b=>B<=b)) u'.heap.size 6 (ValAt (only u' (fun b=>B<=b)) u'.heap.size) v vs:=by
 refine⟨Nat.le_trans hl z10,?_⟩;rcases h.own.2 with ⟨rfl,h0⟩|⟨g,G,X,O,Y,_,_⟩
 ·rw[h.len] at h0
  exact⟨none,0,by rw[← h0],fun h1=>by omega⟩
 ·refine⟨some ⟨g,0,none⟩,G,by rw[O,h.len],fun _=> ?_⟩
  have A:v.ownBlock= some g:=by rw[O];rfl
  have K:=z0y h.own A;refine⟨g,0,rfl,by omega,fun i x hx=> ?_⟩;have N:=(List.getElem?_eq_some_iff.1 hx).1;have C:KL[i]?= some (KL[i]'(by rw[h.len];exact N)):=List.getElem?_eq_getElem _;refine⟨_,(KL[i]'(by rw[h.len];exact N)).2,fun j c hc=> ?_,?_⟩
  ·refine zx.2 ⟨?_,?_⟩
   ·show B<=g
    omega
   ·refine(World.cell?_of_block (a:=⟨g,_,none⟩) (hk g Y K)).trans ?_
    have:=World.ownsRow.cells h.own A (i*6+j) c (z0Z z0D KL i _ C j c hc);rw[Addr.add_mid] at this;rw[show 0+i*6+j= 0+ (i*6+j) by omega];exact this
  ·exact(h.els i _ x C hx).to (fun b hp hb=>⟨Nat.le_trans hB hp.1,hk b hp.1 hb⟩) hs
end
section
open Go Go.RowKit
structure RowC (TV:TypeId) (B:Nat) (u:World) (v:Value) (vs:List VT) (KL:List zT):Prop where
 own:OwnSl TV 6 enc6 u B v KL
 len:KL.length= vs.length
 sz:B<=u.heap.size
 els:∀ (j:Nat) k x,KL[j]?= some k->vs[j]?= some x->Kept (fun b=>B<=b/\some b≠v.ownBlock) u k.1 x
theorem RowC.start (TV:TypeId) {B:Nat} {u:World} (h:B<=u.heap.size):RowC TV B u (.slice none 0 0) [] []:=⟨OwnSl.nil _ _,rfl,h,fun j k x hk _=>by cases hk⟩
theorem RowC.next {TV:TypeId} {B:Nat} {u u6 u7 u8:World} {v v':Value} {vs:List VT} {KL:List zT} (h:RowC TV B u v vs KL) (h6:Below u.heap.size u u6) (h7:Below u6.heap.size u6 u7) {k:zT} {x:VT}
  (hk:Kept (fun b=>u.heap.size<=b) u6 k.1 x) (hown:OwnSl TV 6 enc6 u8 B v' (KL ++ [k])) (hg:u7.grownBy u8 v.ownBlock) (hb:v'.ownBlock= v.ownBlock\/v'.ownBlock= some u7.heap.size):
  RowC TV B u8 v' (vs ++ [x]) (KL ++ [k]):=by
 have h57:=(beT h6 h7);have N:=h.sz;have A:∀ b,b < u.heap.size->some b≠v.ownBlock->some b≠v'.ownBlock/\u8.heap[b]?= u.heap[b]?:=fun b hlt g=>by
  have e1:=h57.block b hlt;have e2:=hg.block b (Nat.lt_of_lt_of_le hlt h57.size) g;refine⟨?_,e2.trans e1⟩;rcases hb with hb|hb
  ·rw[hb];exact g
  ·rw[hb]
   intro e;injection e with e;have:=h57.size;omega
 have C:∀ b,u.heap.size<=b->b < u6.heap.size->some b≠v'.ownBlock/\u8.heap[b]?= u6.heap[b]?:=fun b hge hlt=>by
  have g:some b≠v.ownBlock:=fun e=>by
   have:=z0y h.own e.symm;omega
  have e1:=h7.block b hlt;have e2:=hg.block b (Nat.lt_of_lt_of_le hlt h7.size) g;refine⟨?_,e2.trans e1⟩;rcases hb with hb|hb
  ·rw[hb];exact g
  ·rw[hb]
   intro e;injection e with e;have:=h7.size;omega
 refine⟨hown,by rw[List.length_append,List.length_append,h.len];rfl,?_,fun j k' y hk' hy=> ?_⟩
 ·have:=hg.size
  have:=h57.size;omega
 ·rcases Nat.lt_or_ge j KL.length with K|K
  ·rw[List.getElem?_append_left K] at hk'
   rw[List.getElem?_append_left (by rw[← h.len];exact K)] at hy;refine(h.els j k' y hk' hy).to (fun b hp hlt=>⟨⟨hp.1,(A b hlt hp.2).1⟩,(A b hlt hp.2).2⟩) ?_;have:=hg.size;have:=h57.size;omega
  ·rw[List.getElem?_append_right K] at hk'
   have G:j= KL.length:=by
    have:=(List.getElem?_eq_some_iff.1 hk').1;simp only[List.length_singleton] at this;omega
   rw[G,Nat.sub_self] at hk';injection hk' with hk';subst hk';have e:y= x:=by
    rw[G,h.len,List.getElem?_append_right (Nat.le_refl _),Nat.sub_self] at hy;injection hy with hy;exact hy.symm
   subst e;refine hk.to (fun b hp hlt=>⟨⟨by omega,(C b hp hlt).1⟩,(C b hp hlt).2⟩) ?_;have:=hg.size;have:=h7.size;omega
theorem RowC.store {TV:TypeId} {B p:Nat} {u u':World} {v:Value} {vs:List VT} {KL:List zT} (h:RowC TV B u v vs KL) (hb:But u u' p p) (hp:p < B):RowC TV B u' v vs KL:=by
 refine⟨World.ownsRow.kept h.own (row:=some p) ⟨hb.os,hb.tape,hb.output,hb.size,fun i hi hne=>hb.block i hi (fun e=>hne (by rw[e])) (fun e=>hne (by rw[e]))⟩ ?_,h.len,Nat.le_trans h.sz hb.size,fun j k x hk hx=> ?_⟩
 ·exact .inr fun e=>by have:=h.own.block e;omega
 ·exact(h.els j k x hk hx).to (fun b hq _=>⟨hq,hb.block b ‹_› (by omega) (by omega)⟩) hb.size
theorem RowC.row {TV:TypeId} {B C:Nat} {u u':World} {v:Value} {vs:List VT} {KL:List zT} (h:RowC TV B u v vs KL) (hl:vs.length<=maxLen) (hB:C<=B) (hk:∀ b,B<=b->b < u.heap.size->u'.heap[b]?= u.heap[b]?) (hs:u.heap.size<=u'.heap.size):
  SlAt (only u' (fun b=>C<=b)) u'.heap.size 6 (ValAt (only u' (fun b=>C<=b)) u'.heap.size) v vs:=by
 refine⟨Nat.le_trans hl z10,?_⟩;rcases h.own.2 with ⟨rfl,h0⟩|⟨g,K,Y,X,hg,_,_⟩
 ·rw[h.len] at h0
  exact⟨none,0,by rw[← h0],fun h1=>by omega⟩
 ·refine⟨some ⟨g,0,none⟩,K,by rw[X,h.len],fun _=> ?_⟩
  have A:v.ownBlock= some g:=by rw[X];rfl
  have N:=z0y h.own A;refine⟨g,0,rfl,by omega,fun i x hx=> ?_⟩;have O:=(List.getElem?_eq_some_iff.1 hx).1;have G:KL[i]?= some (KL[i]'(by rw[h.len];exact O)):=List.getElem?_eq_getElem _;refine⟨_,(KL[i]'(by rw[h.len];exact O)).2,fun j c hc=> ?_,?_⟩
  ·refine zx.2 ⟨?_,?_⟩
   ·show C<=g
    omega
   ·refine(World.cell?_of_block (a:=⟨g,_,none⟩) (hk g hg N)).trans ?_
    have:=World.ownsRow.cells h.own A (i*6+j) c (z0Z z0D KL i _ G j c hc);rw[Addr.add_mid] at this;rw[show 0+i*6+j= 0+ (i*6+j) by omega];exact this
  ·exact(h.els i _ x G hx).to (fun b hp hb=>⟨Nat.le_trans hB hp.1,hk b hp.1 hb⟩) hs
theorem Whole.putM {T:TypeId} {w:World} {b:Nat} {pre post:List Value} {v0 v:Value} (h:Whole T w b (pre ++ v0::post)):Whole T (w.setCell ⟨b,pre.length,none⟩ v) b (pre ++ v::post):=by
 show(w.heap.modify b _)[b]?= _;rw[Array.getElem?_modify,if_pos rfl,(show w.heap[b]?= _ from h)];simp
theorem Whole.frozV {T:TypeId} {w:World} {b j:Nat} {cs:List Value} (h:Whole T w b cs) (hj:j < cs.length):w.frozen? ⟨b,j,none⟩= false:=by
 have:=(h.there j hj).2;rwa [Nat.zero_add] at this
section
variable {P:Program} {ops:Array Oper} {S:World->Prop} {Q:Exit->Act->World->Prop} {i:Nat} {r:List (Nat × Bool)} {a:Act} {w:World} {o:Oper}
theorem z8q (t:TypeId) (x:Operand) (ho:o.op= .buildSlice t 1 #[(0,x)]) (e:TypeId) (i:TypeInfo) (z:Value) (ks:List Value) (hx:a.eval x= .agg ks.toArray)
  (ht:P.underlying t= some (.slice e)) (hi:P.info? e= some i) (hz:i.zero= some z) (hsz:i.size= ks.length) (h0:0 < ks.length) (hmax:ks.length<=1000):
  (execOp a.eval o).run P w= .ok (.value (.slice (some ⟨w.heap.size,0,none⟩) 1 1)) (w.alloc (.cells ⟨ks⟩ e)):=by
 unfold execOp;have hr:=z6n (P:=P) w t e i z ks ht hi hz hsz h0 hmax;simp only[ho,List.map_toArray,List.map_cons,List.map_nil,hx,Sem.run_bind,Sem.run_pure,Result.andThen_ok,hr]
theorem zcN {α:Type} (d:Option Tmp) (o:Oper) (s x:Operand) (t:TypeId) (hi0:ops[i]?= some o) (ho:o.op= .call { callee:= .builtin .append,args:= #[s,x],argTypes:= #[t,t] }) (hd:o.dst= d) (hw:Region.wanted o (yielded ops a.tmps)= true)
  (base:Nat) (e:TypeId) (i':TypeInfo) (z:Value) (k bytes:Nat) (enc:α->List Value) (ht:P.underlying t= some (.slice e)) (hi:P.info? e= some i') (hz:i'.zero= some z)
  (hsize:i'.size= k) (hby:i'.bytes= bytes) (hzs:z.cells.size= k) (hsz:0 < k) (hk:∀ x,(enc x).length= k)
  (v:Value) (l:List α) (hs:a.eval s= v) (hown:OwnSl e k enc w base v l) (nb c:Nat) (y:α) (h1:∀ u∈enc y,u.oneCell'= true) (hx:a.eval x= .slice (some ⟨nb,0,none⟩) 1 c)
  (hc:∀ j u,(enc y)[j]?= some u->w.cell? ⟨nb,j,none⟩= some u) (h63:l.length+1<=maxLen) (hbytes:(l.length+1) *bytes<=140737488355328) (hbase:base<=w.heap.size)
  (h:∀ v' w',OwnSl e k enc w' base v' (l ++ [y])->w.grownBy w' v.ownBlock->(v'.ownBlock= v.ownBlock\/v'.ownBlock= some w.heap.size)->S w'/\wpOrd P ops S Q r (a.put d v') w'):wpOrd P ops S Q ((i,false)::r) a w:=by
 obtain⟨v',w',g,k2,k3,_,k5⟩:=run_append_own_at (P:=P) w base t o.type e i' z k bytes ht hi hz hsize hby hzs hsz v l.length (flat enc l) hown ⟨nb,0,none⟩ 1 c (enc y) (by rw[hk];omega)
  (fun j u hu=>by rw[Addr.add_mid,Nat.zero_add];exact hc j u hu) h1 h63 hbytes hbase
 have H:=h v' w' (by unfold OwnSl;rw[z4s,List.length_append];exact k2) k3 k5;refine z3t d v' w' o hi0 hd hw ?_ H.1 H.2;unfold execOp;simp only[ho,resolve,invoke,builtin,Sem.run_bind,Sem.run_pure,Result.andThen_ok,List.map_toArray,List.map_cons,List.map_nil,hs,hx,g]
end
end
section
open Go Go.RowKit
theorem zb6:∀ (t:VT) (m:Nat) (cs:List Value) (w:World),m < 500->ValAt w w.heap.size cs t->
  Calls Tryz.prog 63 #[.agg ⟨cs⟩,.int .i64 m] w fun e w'=>e= .returned (.int .i64 (cntV t m:Nat))/\Below w.heap.size w w':=by
 intro t
 induction t using VT.ind with
 |h k n f s ns its ih=>
  intro m cs w hm hv;have IH:=I ih;obtain⟨vn,vi,rfl,_,_,_,_,_,_,hi⟩:=hv.inv;obtain⟨A,c,rfl,d7,hA⟩:=z1e hi;have HA:=I hA;have HS:=I (fun k m x=>z7b (l:=its) (k:=k) (m:=m) (x:=x));have HE:=I (fun m=>z8d (l:=its) (m:=m));have a6:=I (fun x m hm=>zab x m hm);have a4:Hid (∀ k m,500<=m->cntL (its.drop k) m= m):=I (fun k m h=>by
   cases its.drop k with
   |nil=>rw[cntL]
   |cons a l=>rw[cntL,if_pos h])
  have H0:Hid (cntL (its.drop 0) (m+1)= cntV (.mk k n f s ns its) m):=I (by rw[cntV];rfl);clear ih hi hA hv;generalize cntV (.mk k n f s ns its) m= res at*;go_enter Tryz.func63,Tryz.ntmps63;go_upto_region 1 with (fail);have X:=zc w (.cells ⟨[.int .i64 k,.int .i64 n,.float .f64 f,.string s,vn,.slice A its.length c]⟩ 39);have Y:=zy w (.cells ⟨[.int .i64 k,.int .i64 n,.float .f64 f,.string s,vn,.slice A its.length c]⟩ 39);have c5:=zI w ⟨[.int .i64 k,.int .i64 n,.float .f64 f,.string s,vn,.slice A its.length c]⟩ 39 5;generalize w.alloc (.cells ⟨[.int .i64 k,.int .i64 n,.float .f64 f,.string s,vn,.slice A its.length c]⟩ 39)= W at*;have HB:=I X;have C5:=I c5;have a9:=I Y;clear X c5 Y;have d9:(m:Int) < 500:=by omega
  go_wp2;go_loopg [1,5] its.length (fun g u i wr=>∃ (j m:Nat),j+g= its.length/\i= .int .i64 j/\u= .int .i64 m/\m<=500/\Below W.heap.size W wr/\cntL (its.drop j) m= res);case atStart=>exact⟨0,m+1,by omega,rfl,by go_num,by omega,Below.refl _ _,H0.o⟩
  case round=>
   obtain⟨j,m,hj,rfl,rfl,e0,hb,G⟩:=hrel;have C:=I hb;have HR:=I G;have d5:=(hb.cell (p:=⟨w.heap.size,5,none⟩) a9.o).trans C5.o;clear hb G;simp only[List.getElem?_toArray,List.getElem?_cons_succ,List.getElem?_cons_zero] at d5;have c4:(m:Int)<=500:=by omega
   cases gk with
   |zero=>
    obtain rfl:j= its.length:=by omega
    have d6: ¬ ((its.length:Int) <(its.length:Int)):=by omega
    have O:=I (HR.o.symm.trans (HE.o m));go_wp2;go_ret;exact⟨by rw[O.o];go_num,(beT HB.o C.o)⟩
   |succ g=>
    have d8:(j:Int) <(its.length:Int):=by omega
    by_cases h0:m < 500
    ·have e1:w.heap.size<=wr.heap.size:=Nat.le_trans HB.o.size C.o.size
     obtain⟨y,hy⟩:∃ y,its[j]?= some y:=⟨_,List.getElem?_eq_getElem (by omega)⟩;obtain⟨b,o,rfl,b4,hc⟩:=HA.o (by omega);obtain⟨cs,hr,hR⟩:=hc j y hy;have K:=(beT HB.o C.o);have O:=I (HR.o.symm.trans (HS.o j m y hy));have b0:=I (O.o.trans (if_neg (by omega)));have a8:=I (zb hr K b4);have HC:=I (IH.o y (List.mem_of_getElem? hy) m cs wr h0 (hR.next K));have a5:=I (zm hR);have b5:=a6.o y m h0;have b1:(m:Int) < 500:=by omega
     clear hc hr hR K hy O h0;go_wp2_with (first|((with_reducible refine za tyK39 _ rfl ?_ a8.o rfl a5.o.1 ?_);exact wA rfl)|(go_at_call 63;refine zg HC.o ?_;intro w' a3));go_roundg g;case measure=>omega
     case rel=>exact⟨j+1,_,by omega,by go_num,rfl,b5,(beT C.o a3.o),b0.o.symm⟩
    ·have O:=I (HR.o.symm.trans (a4.o j m (by omega)))
     have b1: ¬ ((m:Int) < 500):=by omega
     have N:m= 500:=by omega
     go_wp2;all_goals
      go_ret;exact⟨by rw[O.o,N];rfl,(beT HB.o C.o)⟩
theorem zba (t:VT) (cs:List Value) (w:World) (hv:ValAt w w.heap.size cs t):Calls Tryz.prog 29 #[.agg ⟨cs⟩] w fun e w'=>e= .returned (.int .i64 (cntV t 0:Nat))/\Below w.heap.size w w':=by
 have A:=I (vlen hv);have N:=I hv;clear hv;go_enter Tryz.func29,Tryz.ntmps29;go_upto_region 1 with (fail);have C:=I (zc w (.cells ⟨cs⟩ 39));have K:=I (zv w cs 39);generalize w.alloc (.cells ⟨cs⟩ 39)= W at*;have G:=I (zb6 t 0 cs W (by omega) (N.o.next C.o));go_wp2_with (first|((with_reducible refine za tyK39 _ rfl ?_ K.o rfl A.o ?_);exact wA rfl)|(go_at_call 63;refine zg G.o ?_;intro w' g));go_ret;exact⟨rfl,(beT C.o g.o)⟩
theorem lenB (l:Nat):(((l:Nat):Int) ==0)=(l ==0):=by
 by_cases h:l= 0
 ·subst h;rfl
 ·rw[beq_eq_false_iff_ne.2 h,beq_eq_false_iff_ne];omega
theorem sc2 (a b:Bool):a= false\/(a= true/\b= false)\/(a= true/\b= true):=by cases a<;>cases b<;>simp
theorem sc3 (a b c:Bool):a= false\/(a= true/\b= false)\/(a= true/\b= true/\c= false)\/(a= true/\b= true/\c= true):=by cases a<;>cases b<;>cases c<;>simp
theorem sc4 (a b c d:Bool):a= false\/(a= true/\b= false)\/(a= true/\b= true/\c= false)\/(a= true/\b= true/\c= true/\d= false)\/(a= true/\b= true/\c= true/\d= true):=by cases a<;>cases b<;>cases c<;>cases d<;>simp
theorem sc1 (a b c d e f:Bool):a= false\/(a= true/\b= false)\/(a= true/\b= true/\c= false)\/(a= true/\b= true/\c= true/\d= false)\/(a= true/\b= true/\c= true/\d= true/\e= true)\/(a= true/\b= true/\c= true/\d= true/\e= false/\f= true)\/(a= true/\b= true/\c= true/\d= true/\e= false/\f= false):=by cases a<;>cases b<;>cases c<;>cases d<;>cases e<;>cases f<;>simp
theorem sc5 (a b c d e:Bool):a= false\/(a= true/\b= false)\/(a= true/\b= true/\c= false)\/(a= true/\b= true/\c= true/\d= false)\/(a= true/\b= true/\c= true/\d= true/\e= false)\/(a= true/\b= true/\c= true/\d= true/\e= true):=by cases a<;>cases b<;>cases c<;>cases d<;>cases e<;>simp
theorem zbb:∀ (t:VT) (far d:Nat) (cs:List Value) (w:World),far+d= 13->ValAt w w.heap.size cs t->
  Calls Tryz.prog 64 #[.agg ⟨cs⟩,.int .i64 far] w fun e w'=>e= .returned (.bool (zr t d))/\Below w.heap.size w w':=by
 intro t
 induction t using VT.ind with
 |h k n f s ns its ih=>
  intro far d cs w g8 hv;have IH:=I ih;obtain⟨vn,vi,rfl,_,_,hf,_,hn,_,hi⟩:=hv.inv;obtain⟨_,NA,nc,rfl,_⟩:=id hn;obtain⟨A,c,rfl,g9,hA⟩:=z1e hi;have h3:=hn.1;have HF:=I (wf64 hf);have HN:=I hn;have HA:=I hA;have g0:far<=13:=by omega
  have g1:d= 13 - far:=by omega
  have HO:Hid (zr (.mk k n f s ns its) d= if 12 < d then false
   else if k= 1 then bareB true false false false n f s ns.length its.length && (n / 2 ==0)
   else if k= 2 then bareB true false false false n f s ns.length its.length
   else if k= 3 then bareB false true false false n f s ns.length its.length
   else if k= 4 then bareB false false true false n f s ns.length its.length && decide (s.size<=200)
   else if k= 6 then(ns.length ==its.length) && (riseB none ns && (bareB false false false true n f s ns.length its.length && zK its (d+1)))
   else if k= 5 then bareB false false false true n f s ns.length its.length && ((ns.length ==0) && zK its (d+1))
   else false):=I (by rw[zr])
  generalize N:zr (.mk k n f s ns its) d= res at*;have HW:=I (zc w (.cells ⟨[.int .i64 k,.int .i64 n,.float .f64 f,.string s,.slice NA ns.length nc,.slice A its.length c]⟩ 39));have g:=I (zy w (.cells ⟨[.int .i64 k,.int .i64 n,.float .f64 f,.string s,.slice NA ns.length nc,.slice A its.length c]⟩ 39));have K:=I (zv w [.int .i64 k,.int .i64 n,.float .f64 f,.string s,.slice NA ns.length nc,.slice A its.length c] 39);clear ih hv hi hA hf N hn;go_enter Tryz.func64,Tryz.ntmps64;go_upto_region 1 with (fail);generalize w.alloc (.cells ⟨[.int .i64 k,.int .i64 n,.float .f64 f,.string s,.slice NA ns.length nc,.slice A its.length c]⟩ 39)= W at*;have d0:W.cell? ⟨w.heap.size,0,none⟩= some (.int .i64 k):=by have:=K.o 0 _ rfl;simpa using this
  have d1:W.cell? ⟨w.heap.size,1,none⟩= some (.int .i64 n):=by have:=K.o 1 _ rfl;simpa using this
  have d3:W.cell? ⟨w.heap.size,3,none⟩= some (.string s):=by have:=K.o 3 _ rfl;simpa using this
  have d4:W.cell? ⟨w.heap.size,4,none⟩= some (.slice NA ns.length nc):=by have:=K.o 4 _ rfl;simpa using this
  have d5:W.cell? ⟨w.heap.size,5,none⟩= some (.slice A its.length c):=by have:=K.o 5 _ rfl;simpa using this
  have D5:=I d5;have G:=I (Below.refl W.heap.size W);have a0:Hid (∀ a b c d e f:Value,[a,b,c,d,e,f].length= 6):=I fun _ _ _ _ _ _=>rfl;have HZ:=I (fun k n s vn vi z=>zd7 k n f s vn vi HF.o z);have e2:=I (fun z (hz:Below w.heap.size w z)=>z6l (.slice NA ns.length nc) ns its.length z ((HN.o.below hz fun _ _ _ h=>h).more hz.size));obtain⟨bi,c6⟩:∃ b,(its.length ==0)= b:=⟨_,rfl⟩;obtain⟨bm,a2⟩:∃ b,(ns.length ==0)= b:=⟨_,rfl⟩;obtain⟨bz,b3⟩:∃ b,(cmpF f 0 ==0)= b:=⟨_,rfl⟩;obtain⟨bs,b6⟩:∃ b,s.toList.isEmpty= b:=⟨_,rfl⟩;obtain⟨b0,a1⟩:∃ b,(n ==0)= b:=⟨_,rfl⟩;obtain⟨b1,e9⟩:∃ b,(n ==1)= b:=⟨_,rfl⟩;obtain⟨bl,Y⟩:∃ b,decide (s.size<=200)= b:=⟨_,rfl⟩;obtain⟨bn,e4⟩:∃ b,(riseB none ns && (ns.length ==its.length))= b:=⟨_,rfl⟩;have i1:((its.length:Int) ==0)= bi:=(lenB _).trans c6;have m1:((ns.length:Int) ==0)= bm:=(lenB _).trans a2;have m2:decide ((0:Int) <(ns.length:Int))=!bm:=by
   rw[← a2];by_cases h:ns.length= 0
   ·rw[h];rfl
   ·rw[decide_eq_true (by omega),beq_eq_false_iff_ne.2 h];rfl
  have t2:(n !=0)=!b0:=by rw[← a1];rfl
  have l1:decide ((s.size:Int)<=200)= bl:=by
   rw[← Y];by_cases h:s.size<=200
   ·rw[decide_eq_true h,decide_eq_true (by omega)]
   ·rw[decide_eq_false h,decide_eq_false (by omega)]
  have t6:(n / 2 ==0)=(b0 || b1):=by
   rw[← a1,← e9];by_cases h0:n= 0
   ·subst h0;rfl
   ·by_cases h1:n= 1
    ·subst h1;rfl
    ·rw[beq_eq_false_iff_ne.2 h0,beq_eq_false_iff_ne.2 h1,Bool.or_false,beq_eq_false_iff_ne];omega
  rw[b3] at HZ;rw[e4] at e2;by_cases hdeep:far= 0
  ·subst hdeep
   have t1:((0:Nat):Int) < 1:=by omega
   have c8:12 < d:=by omega
   rcases sc2 bi bm with rfl|⟨rfl,rfl⟩|⟨rfl,rfl⟩;all_goals (go_wp2;go_ret;exact⟨z8 (by rw[HO.o,if_pos c8]),HW.o⟩)
  have t1: ¬ ((far:Int) < 1):=by omega
  have c8: ¬ 12 < d:=by omega
  have HO:=I (HO.o.trans (if_neg c8));by_cases k1:k= 1
  ·subst k1
   rcases sc1 bi bm bz bs b0 b1 with rfl|⟨rfl,rfl⟩|⟨rfl,rfl,rfl⟩|⟨rfl,rfl,rfl,rfl⟩|⟨rfl,rfl,rfl,rfl,rfl⟩|⟨rfl,rfl,rfl,rfl,rfl,rfl⟩|⟨rfl,rfl,rfl,rfl,rfl,rfl⟩;all_goals (go_wp2_with (first|((with_reducible refine za tyK39 _ rfl ?_ K.o rfl (by rw[a0.o]) ?_);exact wA rfl)|(go_at_call 102;refine(HZ.o _ _ _ _ _ _).mono ?_;rintro e z ⟨rfl,C⟩;have G:=I (beT G.o C);have a7:=(C.cell (p:=⟨w.heap.size,0,none⟩) g.o).trans d0;have a8:=(C.cell (p:=⟨w.heap.size,1,none⟩) g.o).trans d1;have a9:=(C.cell (p:=⟨w.heap.size,3,none⟩) g.o).trans d3;have b2:=(C.cell (p:=⟨w.heap.size,4,none⟩) g.o).trans d4;have X:=(C.cell (p:=⟨w.heap.size,5,none⟩) g.o).trans d5;clear C));go_ret;exact⟨z8 (by rw[HO.o];simp[bareB,c6,a2,b3,b6,a1,Y,t6]),(beT HW.o G.o)⟩)
  by_cases k2:k= 2
  ·subst k2
   rcases sc4 bi bm bz bs with rfl|⟨rfl,rfl⟩|⟨rfl,rfl,rfl⟩|⟨rfl,rfl,rfl,rfl⟩|⟨rfl,rfl,rfl,rfl⟩;all_goals (go_wp2_with (first|((with_reducible refine za tyK39 _ rfl ?_ K.o rfl (by rw[a0.o]) ?_);exact wA rfl)|(go_at_call 102;refine(HZ.o _ _ _ _ _ _).mono ?_;rintro e z ⟨rfl,C⟩;have G:=I (beT G.o C);have a7:=(C.cell (p:=⟨w.heap.size,0,none⟩) g.o).trans d0;have a8:=(C.cell (p:=⟨w.heap.size,1,none⟩) g.o).trans d1;have a9:=(C.cell (p:=⟨w.heap.size,3,none⟩) g.o).trans d3;have b2:=(C.cell (p:=⟨w.heap.size,4,none⟩) g.o).trans d4;have X:=(C.cell (p:=⟨w.heap.size,5,none⟩) g.o).trans d5;clear C));go_ret;exact⟨z8 (by rw[HO.o];simp[bareB,c6,a2,b3,b6,a1,Y,t6]),(beT HW.o G.o)⟩)
  by_cases k3:k= 3
  ·subst k3
   rcases sc4 bi bm b0 bs with rfl|⟨rfl,rfl⟩|⟨rfl,rfl,rfl⟩|⟨rfl,rfl,rfl,rfl⟩|⟨rfl,rfl,rfl,rfl⟩;all_goals (go_wp2_with (first|((with_reducible refine za tyK39 _ rfl ?_ K.o rfl (by rw[a0.o]) ?_);exact wA rfl)|(go_at_call 102;refine(HZ.o _ _ _ _ _ _).mono ?_;rintro e z ⟨rfl,C⟩;have G:=I (beT G.o C);have a7:=(C.cell (p:=⟨w.heap.size,0,none⟩) g.o).trans d0;have a8:=(C.cell (p:=⟨w.heap.size,1,none⟩) g.o).trans d1;have a9:=(C.cell (p:=⟨w.heap.size,3,none⟩) g.o).trans d3;have b2:=(C.cell (p:=⟨w.heap.size,4,none⟩) g.o).trans d4;have X:=(C.cell (p:=⟨w.heap.size,5,none⟩) g.o).trans d5;clear C));go_ret;exact⟨z8 (by rw[HO.o];simp[bareB,c6,a2,b3,b6,a1,Y,t6]),(beT HW.o G.o)⟩)
  by_cases k4:k= 4
  ·subst k4
   rcases sc5 bi bm bz b0 bl with rfl|⟨rfl,rfl⟩|⟨rfl,rfl,rfl⟩|⟨rfl,rfl,rfl,rfl⟩|⟨rfl,rfl,rfl,rfl,rfl⟩|⟨rfl,rfl,rfl,rfl,rfl⟩;all_goals (go_wp2_with (first|((with_reducible refine za tyK39 _ rfl ?_ K.o rfl (by rw[a0.o]) ?_);exact wA rfl)|(go_at_call 102;refine(HZ.o _ _ _ _ _ _).mono ?_;rintro e z ⟨rfl,C⟩;have G:=I (beT G.o C);have a7:=(C.cell (p:=⟨w.heap.size,0,none⟩) g.o).trans d0;have a8:=(C.cell (p:=⟨w.heap.size,1,none⟩) g.o).trans d1;have a9:=(C.cell (p:=⟨w.heap.size,3,none⟩) g.o).trans d3;have b2:=(C.cell (p:=⟨w.heap.size,4,none⟩) g.o).trans d4;have X:=(C.cell (p:=⟨w.heap.size,5,none⟩) g.o).trans d5;clear C));go_ret;exact⟨z8 (by rw[HO.o];simp[bareB,c6,a2,b3,b6,a1,Y,t6]),(beT HW.o G.o)⟩)
  by_cases k6:k= 6
  ·subst k6
   have c4:Hid (res=(bz && (b0 && (bs && (bn && zK its (d+1)))))):=I (by
    rw[HO.o,if_neg (by decide),if_neg (by decide),if_neg (by decide),if_neg (by decide),if_pos rfl,← e4];unfold bareB;rw[b3,b6,a1];generalize zK its (d+1)= z;generalize riseB none ns= x;generalize (ns.length ==its.length)= y;cases x<;>cases y<;>cases z<;>cases b0<;>cases bz<;>cases bs<;>rfl)
   rcases sc2 bi bm with rfl|⟨rfl,rfl⟩|⟨rfl,rfl⟩<;>rcases sc4 bz b0 bs bn with rfl|⟨rfl,rfl⟩|⟨rfl,rfl,rfl⟩|⟨rfl,rfl,rfl,rfl⟩|⟨rfl,rfl,rfl,rfl⟩;all_goals try simp only[Bool.not_true,Bool.not_false] at m2
   all_goals try simp only[Bool.not_true,Bool.not_false] at t2
   all_goals first
    |(go_wp2_with (first|((with_reducible refine za tyK39 _ rfl ?_ K.o rfl (by rw[a0.o]) ?_);exact wA rfl)|(go_at_call 102;refine(HZ.o _ _ _ _ _ _).mono ?_;rintro e z ⟨rfl,C⟩;have G:=I (beT G.o C);have a7:=(C.cell (p:=⟨w.heap.size,0,none⟩) g.o).trans d0;have a8:=(C.cell (p:=⟨w.heap.size,1,none⟩) g.o).trans d1;have a9:=(C.cell (p:=⟨w.heap.size,3,none⟩) g.o).trans d3;have b2:=(C.cell (p:=⟨w.heap.size,4,none⟩) g.o).trans d4;have X:=(C.cell (p:=⟨w.heap.size,5,none⟩) g.o).trans d5;clear C)|(go_at_call 103;refine(e2.o _ (beT HW.o G.o)).mono ?_;rintro e z2 ⟨rfl,C⟩;have G:=I (beT G.o C);clear C));go_ret;exact⟨z8 (by rw[c4.o];rfl),(beT HW.o G.o)⟩)
    |skip
   all_goals
    have HR:Hid (res= zK its (d+1)):=I (by rw[c4.o];rfl);go_wp2_with (first|((with_reducible refine za tyK39 _ rfl ?_ K.o rfl (by rw[a0.o]) ?_);exact wA rfl)|(go_at_call 102;refine(HZ.o _ _ _ _ _ _).mono ?_;rintro e z ⟨rfl,C⟩;have G:=I (beT G.o C);have a7:=(C.cell (p:=⟨w.heap.size,0,none⟩) g.o).trans d0;have a8:=(C.cell (p:=⟨w.heap.size,1,none⟩) g.o).trans d1;have a9:=(C.cell (p:=⟨w.heap.size,3,none⟩) g.o).trans d3;have b2:=(C.cell (p:=⟨w.heap.size,4,none⟩) g.o).trans d4;have X:=(C.cell (p:=⟨w.heap.size,5,none⟩) g.o).trans d5;clear C)|(go_at_call 103;refine(e2.o _ (beT HW.o G.o)).mono ?_;rintro e z2 ⟨rfl,C⟩;have G:=I (beT G.o C);clear C));go_loopg [6] its.length (fun q x u=>∃ j:Nat,j+q= its.length/\x= .int .i64 j/\Below W.heap.size W u/\zK (its.drop j) (d+1)= res);case atStart=>exact⟨0,by omega,rfl,G.o,HR.o.symm⟩
    case round=>
     obtain⟨j,hj,rfl,C,N⟩:=hrel;have c5:=I N;have a4:=I C;have X:=(C.cell (p:=⟨w.heap.size,5,none⟩) g.o).trans D5.o;clear N C;cases gk with
     |zero=>
      obtain rfl:j= its.length:=by omega
      have f0: ¬ ((its.length:Int) <(its.length:Int)):=by omega
      have e3:=I (c5.o.symm.trans z2J);go_wp2;go_ret;exact⟨z8 e3.o.symm,(beT HW.o a4.o)⟩
     |succ q=>
      have f1:(j:Int) <(its.length:Int):=by omega
      obtain⟨x,hx⟩:∃ x,its[j]?= some x:=⟨_,List.getElem?_eq_getElem (by omega)⟩;obtain⟨b,o',rfl,Y,hc⟩:=HA.o (by omega);obtain⟨ks,c9,b4⟩:=hc j x hx;have O:=I (c5.o.symm.trans (z2h hx));have a5:=I (beT HW.o a4.o);have b9:=I (zb c9 a5.o Y);have b8:=I (zm b4);have HC:=I (IH.o x (List.mem_of_getElem? hx) (far - 1) (d+1) ks wr (by omega) (b4.next a5.o));have c7:((far - 1:Nat):Int)=(far:Int) - 1:=by omega
      rw[c7] at HC;clear hc c9 b4 hx c7;generalize zr x (d+1)= rx at*;cases rx with
      |true=>
       have a6:=I (O.o.trans (Bool.true_and _));clear O;go_wp2_with (first|((with_reducible refine za tyK39 _ rfl ?_ b9.o rfl b8.o.1 ?_);exact wA rfl)|(go_at_call 64;refine zg HC.o ?_;intro z a3));go_roundg q;case measure=>omega
       case rel=>exact⟨j+1,by omega,by go_num,(beT a4.o a3.o),a6.o.symm⟩
      |false=>
       have a6:Hid (res= false):=I (O.o.trans (Bool.false_and _));clear O;go_wp2_with (first|((with_reducible refine za tyK39 _ rfl ?_ b9.o rfl b8.o.1 ?_);exact wA rfl)|(go_at_call 64;refine zg HC.o ?_;intro z a3));go_ret;exact⟨z8 a6.o.symm,(beT a5.o a3.o)⟩
  by_cases k5:k= 5
  ·subst k5
   have c4:Hid (res=(bz && (b0 && (bs && (bm && zK its (d+1)))))):=I (by
    rw[HO.o,if_neg (by decide),if_neg (by decide),if_neg (by decide),if_neg (by decide),if_neg (by decide),if_pos rfl,a2];unfold bareB;rw[b3,b6,a1];generalize zK its (d+1)= z;cases bm<;>cases z<;>cases b0<;>cases bz<;>cases bs<;>rfl)
   cases bi<;>cases bm<;>rcases sc3 bz b0 bs with rfl|⟨rfl,rfl⟩|⟨rfl,rfl,rfl⟩|⟨rfl,rfl,rfl⟩
   all_goals try simp only[Bool.not_true,Bool.not_false] at m2
   all_goals try simp only[Bool.not_true,Bool.not_false] at t2
   all_goals try have m3:(0:Int) <(ns.length:Int):=of_decide_eq_true m2
   all_goals try have m4:0 < ns.length:=by omega
   all_goals first
    |(go_wp2_with (first|((with_reducible refine za tyK39 _ rfl ?_ K.o rfl (by rw[a0.o]) ?_);exact wA rfl)|(go_at_call 102;refine(HZ.o _ _ _ _ _ _).mono ?_;rintro e z ⟨rfl,C⟩;have G:=I (beT G.o C);have a7:=(C.cell (p:=⟨w.heap.size,0,none⟩) g.o).trans d0;have a8:=(C.cell (p:=⟨w.heap.size,1,none⟩) g.o).trans d1;have a9:=(C.cell (p:=⟨w.heap.size,3,none⟩) g.o).trans d3;have b2:=(C.cell (p:=⟨w.heap.size,4,none⟩) g.o).trans d4;have X:=(C.cell (p:=⟨w.heap.size,5,none⟩) g.o).trans d5;clear C));go_ret;exact⟨z8 (by rw[c4.o];rfl),(beT HW.o G.o)⟩)
    |skip
   all_goals
    have e6:ns.length= 0:=eq_of_beq a2;rw[e6] at d4;clear e6;have HR:Hid (res= zK its (d+1)):=I (by rw[c4.o];rfl);go_wp2_with (first|((with_reducible refine za tyK39 _ rfl ?_ K.o rfl (by rw[a0.o]) ?_);exact wA rfl)|(go_at_call 102;refine(HZ.o _ _ _ _ _ _).mono ?_;rintro e z ⟨rfl,C⟩;have G:=I (beT G.o C);have a7:=(C.cell (p:=⟨w.heap.size,0,none⟩) g.o).trans d0;have a8:=(C.cell (p:=⟨w.heap.size,1,none⟩) g.o).trans d1;have a9:=(C.cell (p:=⟨w.heap.size,3,none⟩) g.o).trans d3;have b2:=(C.cell (p:=⟨w.heap.size,4,none⟩) g.o).trans d4;have X:=(C.cell (p:=⟨w.heap.size,5,none⟩) g.o).trans d5;clear C));go_loopg [6] its.length (fun q x u=>∃ j:Nat,j+q= its.length/\x= .int .i64 j/\Below W.heap.size W u/\zK (its.drop j) (d+1)= res);case atStart=>exact⟨0,by omega,rfl,G.o,HR.o.symm⟩
    case round=>
     obtain⟨j,hj,rfl,C,N⟩:=hrel;have c5:=I N;have a4:=I C;have X:=(C.cell (p:=⟨w.heap.size,5,none⟩) g.o).trans D5.o;clear N C;cases gk with
     |zero=>
      obtain rfl:j= its.length:=by omega
      have f0: ¬ ((its.length:Int) <(its.length:Int)):=by omega
      have e3:=I (c5.o.symm.trans z2J);go_wp2;go_ret;exact⟨z8 e3.o.symm,(beT HW.o a4.o)⟩
     |succ q=>
      have f1:(j:Int) <(its.length:Int):=by omega
      obtain⟨x,hx⟩:∃ x,its[j]?= some x:=⟨_,List.getElem?_eq_getElem (by omega)⟩;obtain⟨b,o',rfl,Y,hc⟩:=HA.o (by omega);obtain⟨ks,c9,b4⟩:=hc j x hx;have O:=I (c5.o.symm.trans (z2h hx));have a5:=I (beT HW.o a4.o);have b9:=I (zb c9 a5.o Y);have b8:=I (zm b4);have HC:=I (IH.o x (List.mem_of_getElem? hx) (far - 1) (d+1) ks wr (by omega) (b4.next a5.o));have c7:((far - 1:Nat):Int)=(far:Int) - 1:=by omega
      rw[c7] at HC;clear hc c9 b4 hx c7;generalize zr x (d+1)= rx at*;cases rx with
      |true=>
       have a6:=I (O.o.trans (Bool.true_and _));clear O;go_wp2_with (first|((with_reducible refine za tyK39 _ rfl ?_ b9.o rfl b8.o.1 ?_);exact wA rfl)|(go_at_call 64;refine zg HC.o ?_;intro z a3));go_roundg q;case measure=>omega
       case rel=>exact⟨j+1,by omega,by go_num,(beT a4.o a3.o),a6.o.symm⟩
      |false=>
       have a6:Hid (res= false):=I (O.o.trans (Bool.false_and _));clear O;go_wp2_with (first|((with_reducible refine za tyK39 _ rfl ?_ b9.o rfl b8.o.1 ?_);exact wA rfl)|(go_at_call 64;refine zg HC.o ?_;intro z a3));go_ret;exact⟨z8 a6.o.symm,(beT a5.o a3.o)⟩
  have s1:(k ==1)= false:=by rw[beq_eq_false_iff_ne];exact k1
  have s2:(k ==2)= false:=by rw[beq_eq_false_iff_ne];exact k2
  have s3:(k ==3)= false:=by rw[beq_eq_false_iff_ne];exact k3
  have s4:(k ==4)= false:=by rw[beq_eq_false_iff_ne];exact k4
  have s5:(k ==5)= false:=by rw[beq_eq_false_iff_ne];exact k5
  have s6:(k ==6)= false:=by rw[beq_eq_false_iff_ne];exact k6
  rcases sc2 bi bm with rfl|⟨rfl,rfl⟩|⟨rfl,rfl⟩;all_goals (go_wp2;go_ret;exact⟨z8 (by rw[HO.o,if_neg k1,if_neg k2,if_neg k3,if_neg k4,if_neg k6,if_neg k5]),HW.o⟩)
theorem zbc (t:VT) (cs:List Value) (w:World) (hv:ValAt w w.heap.size cs t):Calls Tryz.prog 30 #[.agg ⟨cs⟩] w fun e w'=>e= .returned (.bool (decide (cntV t 0<=200) && zr t 1))/\Below w.heap.size w w':=by
 have g:=I (zc w (.cells ⟨cs⟩ 39));have Y:=I (zy w (.cells ⟨cs⟩ 39));have C:=I (zv w cs 39);have O:=I (zm hv);have HV:=I (hv.next g.o);clear hv;go_enter Tryz.func30,Tryz.ntmps30;go_upto_region 1 with (fail);generalize w.alloc (.cells ⟨cs⟩ 39)= W at*;have HP:=I (zba t cs W HV.o);by_cases hc:cntV t 0<=200
 ·have t1:((cntV t 0:Nat):Int)<=200:=by omega
  have N:Hid ((decide (cntV t 0<=200) && zr t 1)= zr t 1):=I (by rw[decide_eq_true hc];exact Bool.true_and _);go_wp2_with (first|((with_reducible refine za tyK39 _ rfl ?_ C.o rfl O.o.1 ?_);exact wA rfl)|(go_at_call 29;refine HP.o.mono ?_;rintro e z ⟨rfl,G⟩;have A:=I G;have X:=I (zb C.o G Y.o);clear G)|((with_reducible refine za tyK39 _ rfl ?_ X.o rfl O.o.1 ?_);exact wA rfl)|(go_at_call 64;refine zg (zbb t 12 1 cs _ (by decide) (HV.o.next A.o)) ?_;intro z2 K));go_ret;exact⟨z8 N.o.symm,g.o.trans ((beT A.o K.o).mono g.o.size)⟩
 ·have t1: ¬ (((cntV t 0:Nat):Int)<=200):=by omega
  have N:Hid ((decide (cntV t 0<=200) && zr t 1)= false):=I (by rw[decide_eq_false hc];exact Bool.false_and _);go_wp2_with (first|((with_reducible refine za tyK39 _ rfl ?_ C.o rfl O.o.1 ?_);exact wA rfl)|(go_at_call 29;refine zg HP.o ?_;intro z A));go_ret;first|exact⟨z8 N.o.symm,(beT g.o A.o)⟩|exact⟨rfl,(beT g.o A.o)⟩
end
end Go.Proofs.YtpmjcbjdcjjplaaGreatDoor
