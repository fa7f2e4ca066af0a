/- Parts of a proof: VCmp, VFlt, VRow, VRow2, VOrd, VRowP, VEq, KeepS, SameE. -/
import Derived.Test.YtpmjcbjdcjjplaaGreatDoorPackS8
import Derived.Test.YtpmjcbjdcjjplaaGreatDoorPackS9
set_option maxHeartbeats 8000000
set_option maxRecDepth 100000
set_option linter.unusedVariables false
set_option linter.unusedSimpArgs false
namespace Go.Proofs.YtpmjcbjdcjjplaaGreatDoor
section
open Go Go.RowKit
theorem cmpi (a b:Int) (w:World):Calls Tryz.prog 196 #[.int .i64 a,.int .i64 b] w fun e w'=>e= .returned (.int .i64 (cmpI a b))/\w'= w:=by
 rcases Int.lt_trichotomy a b with h|h|h
 ·have g:cmpI a b= -1:=by unfold cmpI;rw[if_pos h]
  rw[g];go_enter Tryz.func196,Tryz.ntmps196;go_wp2_with (go_in);go_ret;exact⟨rfl,rfl⟩
 ·subst h
  rw[z34 rfl];go_enter Tryz.func196,Tryz.ntmps196;go_wp2_with (go_in);go_ret;exact⟨rfl,rfl⟩
 ·have g:cmpI a b= 1:=by unfold cmpI;rw[if_neg (by omega),if_pos h]
  have A: ¬ a < b:=by omega
  rw[g];go_enter Tryz.func196,Tryz.ntmps196;go_wp2_with (go_in);go_ret;exact⟨rfl,rfl⟩
theorem cmp64 (a b:Int) (w:World):Calls Tryz.prog 192 #[.int .i64 a,.int .i64 b] w fun e w'=>e= .returned (.int .i64 (cmpI a b))/\w'= w:=by
 rcases Int.lt_trichotomy a b with h|h|h
 ·have g:cmpI a b= -1:=by unfold cmpI;rw[if_pos h]
  rw[g];go_enter Tryz.func192,Tryz.ntmps192;go_wp2_with (go_in);go_ret;exact⟨rfl,rfl⟩
 ·subst h
  rw[z34 rfl];go_enter Tryz.func192,Tryz.ntmps192;go_wp2_with (go_in);go_ret;exact⟨rfl,rfl⟩
 ·have g:cmpI a b= 1:=by unfold cmpI;rw[if_neg (by omega),if_pos h]
  have A: ¬ a < b:=by omega
  rw[g];go_enter Tryz.func192,Tryz.ntmps192;go_wp2_with (go_in);go_ret;exact⟨rfl,rfl⟩
theorem zdn (a b:ByteArray) (w:World):Calls Tryz.prog 193 #[.string a,.string b] w fun e w'=>e= .returned (.int .i64 (cmpS a b))/\w'= w:=Tryz.strings_Compare a b w
theorem toList_eq (a:ByteArray):a.toList= a.data.toList:=ByteArray.toList_eq a
theorem z2R:∀ a b:List UInt8,(Op.bytesLess a b= true↔Lib.compareBytes a b= -1)/\((a ==b)= true↔Lib.compareBytes a b= 0)
 |[],[]=>by decide
 |[],_::_=>by simp[Op.bytesLess,Lib.compareBytes]
 |_::_,[]=>by simp[Op.bytesLess,Lib.compareBytes]
 |a::l,b::r=>by
  obtain⟨h1,h2⟩:=z2R l r
  unfold Op.bytesLess Lib.compareBytes
  rcases zdX a b with h|h|h
  ·have:a≠b:=fun e=>by subst e;exact UInt8.lt_irrefl a h
   simp[h,this]
  ·subst h
   simp[UInt8.lt_irrefl]
   exact⟨h1,by rw[← beq_iff_eq (a:=l)];exact h2⟩
  ·have h3:=UInt8.lt_asymm h
   have:a≠b:=fun e=>by subst e;exact UInt8.lt_irrefl a h
   simp[h,h3,this]
theorem z1H:∀ a b:List UInt8,Lib.compareBytes a b= -1\/Lib.compareBytes a b= 0\/Lib.compareBytes a b= 1
 |[],[]=> .inr (.inl rfl)
 |[],_::_=> .inl rfl
 |_::_,[]=> .inr (.inr rfl)
 |a::l,b::r=>by
  unfold Lib.compareBytes
  split
  ·exact .inl rfl
  ·split
   ·exact .inr (.inr rfl)
   ·exact z1H l r
theorem cmps (a b:ByteArray) (w:World):Calls Tryz.prog 220 #[.string a,.string b] w fun e w'=>e= .returned (.int .i64 (cmpS a b))/\w'= w:=by
 obtain⟨h1,h2⟩:=z2R a.data.toList b.data.toList;have h3:=z1H a.data.toList b.data.toList;rw[← toList_eq,← toList_eq] at h1 h2 h3;have g:cmpS a b= Lib.compareBytes a.toList b.toList:=by unfold cmpS;rw[toList_eq,toList_eq]
 rw[g];rcases h3 with h|h|h
 ·rw[h]
  have t1:Op.bytesLess a.toList b.toList= true:=h1.2 h;clear h1 h2 g h;go_enter Tryz.func220,Tryz.ntmps220;go_wp2_with (go_in);go_ret;exact⟨rfl,rfl⟩
 ·rw[h]
  have t1:Op.bytesLess a.toList b.toList= false:=by rw[Bool.eq_false_iff];intro e;have:=h1.1 e;omega
  have t2:(a.toList ==b.toList)= true:=h2.2 h;clear h1 h2 g h;go_enter Tryz.func220,Tryz.ntmps220;go_wp2_with (go_in);go_ret;exact⟨rfl,rfl⟩
 ·rw[h]
  have t1:Op.bytesLess a.toList b.toList= false:=by rw[Bool.eq_false_iff];intro e;have:=h1.1 e;omega
  have t2:(a.toList ==b.toList)= false:=by rw[Bool.eq_false_iff];intro e;have:=h2.1 e;omega
  clear h1 h2 g h;go_enter Tryz.func220,Tryz.ntmps220;go_wp2_with (go_in);go_ret;exact⟨rfl,rfl⟩
end
section
open Go Go.RowKit
theorem wf64 {a:Nat} (h:(Lit.float .f64 a).wf= true):a < 2 ^ 64:=by
 simpa [Lit.wf] using h
open Ieee in
theorem z9n {a:Nat} (h:a < 2 ^ 64) (he:(fOrd a 0 ==some .eq)= true):a= 0\/a= 2 ^ 63:=by
 rw[beq_iff_eq,z3s] at he;have h0:dat 0= .number false 0 (-1074):=by decide +kernel
 have K:FloatKind.f64.format.signWeight= 2 ^ 63:=by decide +kernel
 have C:FloatKind.f64.format.binade= 2 ^ 52:=by decide +kernel
 rw[h0] at he;unfold dat Format.read at he;dsimp only at he;rw[K,C] at he;have g:∀ (s:Bool) (m:Nat) (i:Int), -1074<=i->Datum.order (.number s m i) (.number false 0 (-1074))= some .eq->m= 0:=by
  intro s m i G h;have:=(z2p (.number s m i) (.number false 0 (-1074)) G (by show(-1074:Int)<= -1074;omega) rfl rfl).2.1.1 h;unfold cmpD at this;rw[if_neg (by simp[clsD,cmpI])] at this;have h2:=z23 (valD (.number s m i)) (valD (.number false 0 (-1074)));have h3:valD (.number s m i)= 0:=by
   have:valD (.number false 0 (-1074))= 0:=by decide +kernel
   omega
  have h4:(m <<<(i+1074).toNat:Nat)= 0:=by
   have h5:signed s m (i+1074).toNat= 0:=h3;unfold signed at h5;cases s<;>simp at h5<;>simpa using h5
  rw[Nat.shiftLeft_eq] at h4;rcases Nat.mul_eq_zero.1 h4 with h|h
  ·exact h
  ·have:0 < 2 ^ (i+1074).toNat:=Nat.two_pow_pos _
   omega
 have A:FloatKind.f64.format.leastPlace= -1074:=by decide +kernel
 split at he
 ·have:=g _ _ _ (by rw[A];omega) he
  omega
 ·split at he
  ·have:=g _ _ _ (by rw[A];omega) he
   omega
  ·split at he
   ·exfalso
    revert he
    cases (a / 2 ^ 63 % 2 ==1)<;>simp[Datum.order]
   ·simp[Datum.order] at he
def nanI (a:Nat):Int:=if nanB a= true then 1 else 0
theorem z8Y (a:Nat) (ha:a < 2 ^ 64) (w:World):Calls Tryz.prog 183 #[.float .f64 a] w fun e w'=>e= .returned (.tuple #[.int .i64 (nanI a),.int .i64 (rankZ a)])/\w'= w:=by
 have A:nanB a=(FloatKind.f64.format.order a a !=some .eq):=rfl;cases hn:nanB a with
 |true=>
  have g:rankZ a= 0:=z4F a (by have:=z1c a;rw[hn] at this;simpa using this.symm);have C:nanI a= 1:=by unfold nanI;rw[hn];rfl
  rw[g,C];have t1:(FloatKind.f64.format.order a a !=some .eq)= true:=A.symm.trans hn;clear A hn g C;go_enter Tryz.func183,Tryz.ntmps183;go_wp2;go_ret2;exact⟨rfl,rfl⟩
 |false=>
  have C:nanI a= 0:=by unfold nanI;rw[hn];rfl
  rw[C];have t1:(FloatKind.f64.format.order a a !=some .eq)= false:=A.symm.trans hn;clear A hn C;by_cases h0:(fOrd a 0 ==some .eq)= true
  ·rcases z9n ha h0 with rfl|rfl
   ·have g:rankZ 0= 0:=by unfold rankZ;simp
    rw[g];have t2:(FloatKind.f64.format.order 0 0 ==some .eq)= true:=by decide +kernel
    have G:∀ (t:TypeId) (w:World),(binOp .quo t (.float .f64 4607182418800017408) (.float .f64 0)).run Tryz.prog w= .ok (.float .f64 9218868437227405312) w:=fun t w=>run_float_arith w .quo t .f64 _ _ _ (by decide +kernel);have t3:(FloatKind.f64.format.order 9218868437227405312 0 ==some .lt)= false:=by decide +kernel
    clear h0 g ha;go_enter Tryz.func183,Tryz.ntmps183;go_wp2;go_ret2;exact⟨rfl,rfl⟩
   ·have g:rankZ (2 ^ 63)= -1:=by unfold rankZ;rw[if_pos ⟨h0,by decide⟩]
    rw[g];have e63:(2 ^ 63:Nat)= 9223372036854775808:=by decide
    rw[e63] at t1 h0 ⊢;have t2:(FloatKind.f64.format.order 9223372036854775808 0 ==some .eq)= true:=h0;have G:∀ (t:TypeId) (w:World),(binOp .quo t (.float .f64 4607182418800017408) (.float .f64 9223372036854775808)).run Tryz.prog w= .ok (.float .f64 18442240474082181120) w:=fun t w=>run_float_arith w .quo t .f64 _ _ _ (by decide +kernel);have t3:(FloatKind.f64.format.order 18442240474082181120 0 ==some .lt)= true:=by decide +kernel
    clear h0 g ha;go_enter Tryz.func183,Tryz.ntmps183;go_wp2;go_ret2;exact⟨rfl,rfl⟩
  ·have g:rankZ a= 0:=by unfold rankZ;rw[if_neg (fun h=>h0 h.1)]
   have t2:(FloatKind.f64.format.order a 0 ==some .eq)= false:=by rw[Bool.eq_false_iff];exact h0
   rw[g];clear h0 g;go_enter Tryz.func183,Tryz.ntmps183;go_wp2;go_ret2;exact⟨rfl,rfl⟩
theorem z2O {a:Nat} {b:Bool} (h:nanB a= b):nanI a= if b= true then 1 else 0:=by unfold nanI;rw[h]
theorem z16 (a b:Nat) (ha:a < 2 ^ 64) (hb:b < 2 ^ 64) (w:World):Calls Tryz.prog 144 #[.float .f64 a,.float .f64 b] w fun e w'=>e= .returned (.int .i64 (cmpF a b))/\w'= w:=by
 have G:=I (fun w=>z8Y a ha w);have C:=I (fun w=>z8Y b hb w);clear ha hb;cases hn:nanB a with
 |true=>
  rw[z2O hn] at G;cases hm:nanB b with
  |true=>
   rw[z2O hm] at C;have A:cmpF a b= 0:=by unfold cmpF;rw[hn,hm];rfl
   rw[A];clear hn hm A;simp only[if_true] at G C;go_enter Tryz.func144,Tryz.ntmps144;go_wp2_with (first|(go_at_call 183;with_reducible refine(G.o _).mono ?_;rintro e z ⟨rfl,rfl⟩)|(go_at_call 183;with_reducible refine(C.o _).mono ?_;rintro e z ⟨rfl,rfl⟩));go_ret;exact⟨rfl,rfl⟩
  |false=>
   rw[z2O hm] at C;have A:cmpF a b= 1:=by unfold cmpF;rw[hn,hm];rfl
   rw[A];clear hn hm A;simp only[if_true,Bool.false_eq_true,if_false] at G C;go_enter Tryz.func144,Tryz.ntmps144;go_wp2_with (first|(go_at_call 183;with_reducible refine(G.o _).mono ?_;rintro e z ⟨rfl,rfl⟩)|(go_at_call 183;with_reducible refine(C.o _).mono ?_;rintro e z ⟨rfl,rfl⟩));go_ret;exact⟨rfl,rfl⟩
 |false=>
  rw[z2O hn] at G;cases hm:nanB b with
  |true=>
   rw[z2O hm] at C;have A:cmpF a b= -1:=by unfold cmpF;rw[hn,hm];rfl
   rw[A];clear hn hm A;simp only[if_true,Bool.false_eq_true,if_false] at G C;go_enter Tryz.func144,Tryz.ntmps144;go_wp2_with (first|(go_at_call 183;with_reducible refine(G.o _).mono ?_;rintro e z ⟨rfl,rfl⟩)|(go_at_call 183;with_reducible refine(C.o _).mono ?_;rintro e z ⟨rfl,rfl⟩));go_ret;exact⟨rfl,rfl⟩
  |false=>
   rw[z2O hm] at C;simp only[Bool.false_eq_true,if_false] at G C;have A:cmpF a b= if(fOrd a b ==some .lt)= true\/(fOrd a b ==some .eq)= true/\rankZ a < rankZ b then -1
     else if(fOrd a b ==some .gt)= true\/(fOrd a b ==some .eq)= true/\rankZ b < rankZ a then 1 else 0:=by unfold cmpF;rw[hn,hm];rfl
   clear hn hm;rcases ho:fOrd a b with _|⟨_|_|_⟩
   ·have g:cmpF a b= 0:=by rw[A,ho];rfl
    rw[g];clear A g;have t1:(FloatKind.f64.format.order a b ==some .lt)= false:=by rw[show FloatKind.f64.format.order a b= _ from ho];rfl
    have t2:(FloatKind.f64.format.order a b ==some .eq)= false:=by rw[show FloatKind.f64.format.order a b= _ from ho];rfl
    have t3:(FloatKind.f64.format.order a b ==some .gt)= false:=by rw[show FloatKind.f64.format.order a b= _ from ho];rfl
    clear ho;go_enter Tryz.func144,Tryz.ntmps144;go_wp2_with (first|(go_at_call 183;with_reducible refine(G.o _).mono ?_;rintro e z ⟨rfl,rfl⟩)|(go_at_call 183;with_reducible refine(C.o _).mono ?_;rintro e z ⟨rfl,rfl⟩));go_ret;exact⟨rfl,rfl⟩
   ·have g:cmpF a b=(-1):=by rw[A,ho];rfl
    rw[g];clear A g;have t1:(FloatKind.f64.format.order a b ==some .lt)= true:=by rw[show FloatKind.f64.format.order a b= _ from ho];rfl
    have t2:(FloatKind.f64.format.order a b ==some .eq)= false:=by rw[show FloatKind.f64.format.order a b= _ from ho];rfl
    have t3:(FloatKind.f64.format.order a b ==some .gt)= false:=by rw[show FloatKind.f64.format.order a b= _ from ho];rfl
    clear ho;go_enter Tryz.func144,Tryz.ntmps144;go_wp2_with (first|(go_at_call 183;with_reducible refine(G.o _).mono ?_;rintro e z ⟨rfl,rfl⟩)|(go_at_call 183;with_reducible refine(C.o _).mono ?_;rintro e z ⟨rfl,rfl⟩));go_ret;exact⟨rfl,rfl⟩
   ·rcases Int.lt_trichotomy (rankZ a) (rankZ b) with K|K|K
    ·have g:cmpF a b=(-1):=by rw[A,ho];simp[K]
     rw[g];clear A g;have t1:(FloatKind.f64.format.order a b ==some .lt)= false:=by rw[show FloatKind.f64.format.order a b= _ from ho];rfl
     have t2:(FloatKind.f64.format.order a b ==some .eq)= true:=by rw[show FloatKind.f64.format.order a b= _ from ho];rfl
     have t3:(FloatKind.f64.format.order a b ==some .gt)= false:=by rw[show FloatKind.f64.format.order a b= _ from ho];rfl
     clear ho;have N: ¬ rankZ b < rankZ a:=by omega
     go_enter Tryz.func144,Tryz.ntmps144;go_wp2_with (first|(go_at_call 183;with_reducible refine(G.o _).mono ?_;rintro e z ⟨rfl,rfl⟩)|(go_at_call 183;with_reducible refine(C.o _).mono ?_;rintro e z ⟨rfl,rfl⟩));go_ret;exact⟨rfl,rfl⟩
    ·have g:cmpF a b= 0:=by rw[A,ho];simp[K]
     rw[g];clear A g;have t1:(FloatKind.f64.format.order a b ==some .lt)= false:=by rw[show FloatKind.f64.format.order a b= _ from ho];rfl
     have t2:(FloatKind.f64.format.order a b ==some .eq)= true:=by rw[show FloatKind.f64.format.order a b= _ from ho];rfl
     have t3:(FloatKind.f64.format.order a b ==some .gt)= false:=by rw[show FloatKind.f64.format.order a b= _ from ho];rfl
     clear ho;rw[K] at G;have N: ¬ rankZ b < rankZ b:=Int.lt_irrefl _;go_enter Tryz.func144,Tryz.ntmps144;go_wp2_with (first|(go_at_call 183;with_reducible refine(G.o _).mono ?_;rintro e z ⟨rfl,rfl⟩)|(go_at_call 183;with_reducible refine(C.o _).mono ?_;rintro e z ⟨rfl,rfl⟩));go_ret;exact⟨rfl,rfl⟩
    ·have g:cmpF a b= 1:=by rw[A,ho];simp[show ¬ rankZ a < rankZ b by omega,K]
     rw[g];clear A g;have t1:(FloatKind.f64.format.order a b ==some .lt)= false:=by rw[show FloatKind.f64.format.order a b= _ from ho];rfl
     have t2:(FloatKind.f64.format.order a b ==some .eq)= true:=by rw[show FloatKind.f64.format.order a b= _ from ho];rfl
     have t3:(FloatKind.f64.format.order a b ==some .gt)= false:=by rw[show FloatKind.f64.format.order a b= _ from ho];rfl
     clear ho;have N: ¬ rankZ a < rankZ b:=by omega
     go_enter Tryz.func144,Tryz.ntmps144;go_wp2_with (first|(go_at_call 183;with_reducible refine(G.o _).mono ?_;rintro e z ⟨rfl,rfl⟩)|(go_at_call 183;with_reducible refine(C.o _).mono ?_;rintro e z ⟨rfl,rfl⟩));go_ret;exact⟨rfl,rfl⟩
   ·have g:cmpF a b= 1:=by rw[A,ho];rfl
    rw[g];clear A g;have t1:(FloatKind.f64.format.order a b ==some .lt)= false:=by rw[show FloatKind.f64.format.order a b= _ from ho];rfl
    have t2:(FloatKind.f64.format.order a b ==some .eq)= false:=by rw[show FloatKind.f64.format.order a b= _ from ho];rfl
    have t3:(FloatKind.f64.format.order a b ==some .gt)= true:=by rw[show FloatKind.f64.format.order a b= _ from ho];rfl
    clear ho;go_enter Tryz.func144,Tryz.ntmps144;go_wp2_with (first|(go_at_call 183;with_reducible refine(G.o _).mono ?_;rintro e z ⟨rfl,rfl⟩)|(go_at_call 183;with_reducible refine(C.o _).mono ?_;rintro e z ⟨rfl,rfl⟩));go_ret;exact⟨rfl,rfl⟩
end
section
open Go Go.RowKit
section
variable {α:Type} {f:α->α->Int} {l r:List α} {k:Nat} {x y:α}
theorem z0d (h:l[k]?= some x):l.drop k= x::l.drop (k+1):=by
 obtain⟨h1,h2⟩:=List.getElem?_eq_some_iff.1 h;rw[← h2];exact List.drop_eq_getElem_cons h1
theorem z3M (hx:l[k]?= some x) (hy:r[k]?= some y):listC f (l.drop k) (r.drop k)= if f x y≠0 then f x y else listC f (l.drop (k+1)) (r.drop (k+1)):=by
 rw[z0d hx,z0d hy];rfl
theorem z3L (hx:l[k]?= some x) (hr:r.length<=k):listC f (l.drop k) (r.drop k)= 1:=by
 rw[z0d hx,List.drop_eq_nil_of_le hr];rfl
theorem z4w (hl:l.length<=k) (hr:k < r.length):listC f (l.drop k) (r.drop k)= -1:=by
 rw[List.drop_eq_nil_of_le hl,List.drop_eq_getElem_cons hr];rfl
theorem z3K (hl:l.length<=k) (hr:r.length<=k):listC f (l.drop k) (r.drop k)= 0:=by
 rw[List.drop_eq_nil_of_le hl,List.drop_eq_nil_of_le hr];rfl
end
theorem z1l {w:World} {B:Nat} {A:Option Addr} {n c:Nat} {l:List ByteArray} (h:SlAt w B 1 StrR (.slice A n c) l):n= l.length/\l.length<=9223372036854775807/\(0 < l.length->∃ b o,A= some ⟨b,o,none⟩/\b < B/\∀ (i:Nat) x,l[i]?= some x->w.cell? ⟨b,o+i,none⟩= some (.string x)/\x.size<=maxLen):=by
 obtain⟨h0,C,G,h1,h2⟩:=h;injection h1 with h1 h3 h4;subst h1 h3;refine⟨rfl,h0,fun hp=> ?_⟩;obtain⟨b,o,rfl,g,h5⟩:=h2 hp;refine⟨b,o,rfl,g,fun i x hx=> ?_⟩;obtain⟨cs,h6,h7,h8,h9⟩:=h5 i x hx;subst h8;have:=h7 0 (.string x) rfl;rw[Nat.mul_one,Nat.add_zero] at this;exact⟨this,h9⟩
theorem z7K (u v:Value) (l r:List ByteArray) (B:Nat) (w:World) (hu:SlAt w B 1 StrR u l) (hv:SlAt w B 1 StrR v r):
  Calls Tryz.prog 194 #[u,v] w fun e w'=>e= .returned (.int .i64 (listC cmpS l r))/\w'= w:=by
 obtain⟨_,A,ca,rfl,_⟩:=id hu;obtain⟨_,D,cb,rfl,_⟩:=id hv;obtain⟨_,hl,ha⟩:=z1l hu;obtain⟨_,hr,hb⟩:=z1l hv;have HA:=I ha;have HB:=I hb;have HS:=I (fun k x y=>z3M (f:=cmpS) (l:=l) (r:=r) (k:=k) (x:=x) (y:=y));have HL:=I (fun k x=>z3L (f:=cmpS) (l:=l) (r:=r) (k:=k) (x:=x));have HE:=I (fun k=>z4w (f:=cmpS) (l:=l) (r:=r) (k:=k));have HT:=I (fun k=>z3K (f:=cmpS) (l:=l) (r:=r) (k:=k));have H0:Hid (listC cmpS (l.drop 0) (r.drop 0)= listC cmpS l r):=I rfl;have b0:(l.length:Int)<=9223372036854775807:=by omega
 have b4:(r.length:Int)<=9223372036854775807:=by omega
 clear ha hb hu hv;generalize listC cmpS l r= res at*;go_enter Tryz.func194,Tryz.ntmps194;go_wp2;go_loopg [11] l.length (fun q x u=>∃ k:Nat,k+q= l.length/\x= .int .i64 k/\u= w/\listC cmpS (l.drop k) (r.drop k)= res);case atStart=>exact⟨0,by omega,rfl,rfl,H0.o⟩
 case round=>
  obtain⟨k,hk,rfl,rfl,C⟩:=hrel;have G:=I C;clear C;cases gk with
  |zero=>
   obtain rfl:k= l.length:=by omega
   have O: ¬ ((l.length:Int) <(l.length:Int)):=by omega
   by_cases hlr:l.length < r.length
   ·have g:=I ((G.o).symm.trans (HE.o l.length (Nat.le_refl _) hlr))
    have t1:(l.length:Int) <(r.length:Int):=by omega
    clear G hlr;go_wp2;go_ret;exact⟨zW g.o.symm,rfl⟩
   ·have g:=I ((G.o).symm.trans (HT.o l.length (Nat.le_refl _) (by omega)))
    have t1: ¬ ((l.length:Int) <(r.length:Int)):=by omega
    clear G hlr;go_wp2;go_ret;exact⟨zW g.o.symm,rfl⟩
  |succ q=>
   have b3:(k:Int) <(l.length:Int):=by omega
   obtain⟨x,N⟩:∃ x,l[k]?= some x:=⟨_,List.getElem?_eq_getElem (by omega)⟩;obtain⟨b1,o1,rfl,_,c1⟩:=HA.o (by omega);have d1:=(c1 k x N).1;clear c1;by_cases hkr:k < r.length
   ·obtain⟨y,X⟩:∃ y,r[k]?= some y:=⟨_,List.getElem?_eq_getElem hkr⟩
    obtain⟨b2,o2,rfl,_,c2⟩:=HB.o (by omega);have d2:=(c2 k y X).1;have a2:(k:Int) <(r.length:Int):=by omega
    have g:=I ((G.o).symm.trans (HS.o k x y N X));have Y:=I (fun w=>cmps x y w);clear c2 N X hkr;generalize cmpS x y= cv at*;by_cases hc:cv= 0
    ·subst hc
     have K:=I (g.o.trans (if_neg (fun h=>h rfl)));clear g;go_wp2_with (go_at_call 220;refine(Y.o _).mono ?_;rintro e z ⟨rfl,rfl⟩);go_roundg q;case measure=>omega
     case rel=>exact⟨k+1,by omega,by go_num,rfl,K.o.symm⟩
    ·have K:=I (g.o.trans (if_pos hc))
     have t2:(cv !=0)= true:=by simpa using hc
     clear g hc;go_wp2_with (go_at_call 220;refine(Y.o _).mono ?_;rintro e z ⟨rfl,rfl⟩);go_ret;exact⟨zW K.o.symm,rfl⟩
   ·have g:=I ((G.o).symm.trans (HL.o k x N (by omega)))
    have O:(r.length:Int)<=(k:Int):=by omega
    clear G hkr N;go_wp2;go_ret;exact⟨zW g.o.symm,rfl⟩
def or3 (a b c:Int):Int:=if a≠0 then a else if b≠0 then b else c
theorem zh7 (p:Nat) (a b c:Int) (w:World) (h0:w.cell? ⟨p,0,none⟩= some (.int .i64 a)) (h1:w.cell? ⟨p,1,none⟩= some (.int .i64 b)) (h2:w.cell? ⟨p,2,none⟩= some (.int .i64 c)):
  Calls Tryz.prog 195 #[.slice (some ⟨p,0,none⟩) 3 3] w fun e w'=>e= .returned (.int .i64 (or3 a b c))/\w'= w:=by
 have H:Hid (∀ k:Nat,k < 3->w.cell? ⟨p,k,none⟩= some (.int .i64 (if k= 0 then a else if k= 1 then b else c))):=I fun k C=>by
  match k,C with
  |0,_=>exact h0
  |1,_=>exact h1
  |2,_=>exact h2
 have X:Hid (or3 a b c= or3 a b c):=I rfl;clear h0 h1 h2;go_enter Tryz.func195,Tryz.ntmps195;go_wp2;go_loopg [8] 3 (fun q x u=>∃ k:Nat,k+q= 3/\x= .int .i64 k/\u= w/\∀ j,j < k->(if j= 0 then a else if j= 1 then b else c)= 0);case atStart=>exact⟨0,rfl,rfl,rfl,fun j hj=>absurd hj (Nat.not_lt_zero j)⟩
 case round=>
  obtain⟨k,C,rfl,rfl,G⟩:=hrel;have g:=I G;clear G;cases gk with
  |zero=>
   have N: ¬ ((k:Int) < 3):=by omega
   go_wp2;go_ret;refine⟨zW ?_,rfl⟩;have e0:=g.o 0 (by omega);have e1:=g.o 1 (by omega);have e2:=g.o 2 (by omega);simp at e0 e1 e2;unfold or3;simp[e0,e1,e2]
  |succ q=>
   have O:(k:Int) < 3:=by omega
   have Y:=H.o k (by omega);have K:Hid ((if k= 0 then a else if k= 1 then b else c)≠0->(if k= 0 then a else if k= 1 then b else c)= or3 a b c):=I fun hne=>by
    have e0:=g.o 0;have e1:=g.o 1;unfold or3;have h3:k= 0\/k= 1\/k= 2:=by omega
    rcases h3 with rfl|rfl|rfl
    ·simp at hne ⊢;simp[hne]
    ·have:=e0 (by omega);simp at this hne ⊢;simp[this,hne]
    ·have:=e0 (by omega);have h4:=e1 (by omega);simp at this h4 hne ⊢;simp[this,h4]
   generalize hg:(if k= 0 then a else if k= 1 then b else c)= cv at*;by_cases hc:cv= 0
   ·have t1:(cv !=0)= false:=by simp[hc]
    go_wp2;go_roundg q;case measure=>omega
    case rel=>exact⟨k+1,by omega,by go_num,rfl,fun j hj=>by
     by_cases e:j= k
     ·rw[e,hg];exact hc
     ·exact g.o j (by omega)⟩
   ·have t1:(cv !=0)= true:=by simpa using hc
    have A:=I (K.o hc);clear hc;go_wp2;go_ret;exact⟨zW A.o,rfl⟩
def leafK (k:Int):Bool:=decide (1<=k) && decide (k<=4)
theorem z8F (k:Int) (w:World):Calls Tryz.prog 151 #[.int .i64 k] w fun e w'=>e= .returned (.bool (leafK k))/\w'= w:=by
 unfold leafK;by_cases h1:1<=k
 ·by_cases h2:k<=4
  ·have t1:decide (1<=k)= true:=decide_eq_true h1
   have t2:decide (k<=4)= true:=decide_eq_true h2;rw[t1,t2];go_enter Tryz.func151,Tryz.ntmps151;go_wp2;go_ret;exact⟨rfl,rfl⟩
  ·have t1:decide (1<=k)= true:=decide_eq_true h1
   have t2:decide (k<=4)= false:=decide_eq_false h2;rw[t1,t2];go_enter Tryz.func151,Tryz.ntmps151;go_wp2;go_ret;exact⟨rfl,rfl⟩
 ·have t1:decide (1<=k)= false:=decide_eq_false h1
  rw[t1];go_enter Tryz.func151,Tryz.ntmps151;go_wp2;go_ret;exact⟨rfl,rfl⟩
end
section
open Go Go.RowKit
def rowV (k n n':Int) (f f':Nat) (s s':ByteArray) (ns ns':List ByteArray):Int:=
 if k= 1\/k= 2 then cmpI n n' else if k= 3 then cmpF f f' else if k= 4 then cmpS s s' else if k= 5 then 0 else if k= 6 then listC cmpS ns ns'
 else or3 (cmpI n n') (cmpS s s') (listC cmpS ns ns')
theorem zau (k k' n n':Int) (f f':Nat) (s s':ByteArray) (ns ns':List ByteArray) (vn vn' vi vi':Value) (pa pb:Nat) (w:World)
  (ha:w.rangeAt pa 0 [.int .i64 k,.int .i64 n,.float .f64 f,.string s,vn,vi]) (hb:w.rangeAt pb 0 [.int .i64 k',.int .i64 n',.float .f64 f',.string s',vn',vi']) (hl:pa < w.heap.size/\pb < w.heap.size)
  (hf:f < 2 ^ 64) (hf':f' < 2 ^ 64) (hn:SlAt w w.heap.size 1 StrR vn ns) (hn':SlAt w w.heap.size 1 StrR vn' ns'):
  Calls Tryz.prog 150 #[.pointer (some ⟨pa,0,none⟩),.pointer (some ⟨pb,0,none⟩)] w fun e w'=>e= .returned (.int .i64 (rowV k n n' f f' s s' ns ns'))/\Below w.heap.size w w':=by
 have HL:=I hl;have HA:=I ha;have HB:=I hb;have HN:=I hn;have O:=I hn';have HF:=I (And.intro hf hf');have d0:w.cell? ⟨pa,0,none⟩= some (.int .i64 k):=by have:=ha 0 _ rfl;simpa using this
 have d1:w.cell? ⟨pa,1,none⟩= some (.int .i64 n):=by have:=ha 1 _ rfl;simpa using this
 have e1:w.cell? ⟨pb,1,none⟩= some (.int .i64 n'):=by have:=hb 1 _ rfl;simpa using this
 have d2:w.cell? ⟨pa,2,none⟩= some (.float .f64 f):=by have:=ha 2 _ rfl;simpa using this
 have e2:w.cell? ⟨pb,2,none⟩= some (.float .f64 f'):=by have:=hb 2 _ rfl;simpa using this
 have d3:w.cell? ⟨pa,3,none⟩= some (.string s):=by have:=ha 3 _ rfl;simpa using this
 have e3:w.cell? ⟨pb,3,none⟩= some (.string s'):=by have:=hb 3 _ rfl;simpa using this
 have d4:w.cell? ⟨pa,4,none⟩= some vn:=by have:=ha 4 _ rfl;simpa using this
 have e4:w.cell? ⟨pb,4,none⟩= some vn':=by have:=hb 4 _ rfl;simpa using this
 clear ha hb hl hf hf' hn hn';by_cases k1:k= 1
 ·subst k1
  have A:Hid (rowV 1 n n' f f' s s' ns ns'= cmpI n n'):=I rfl;clear d2 e2 d3 e3 d4 e4;go_enter Tryz.func150,Tryz.ntmps150;go_wp2;go_quiet ((go_at_call 192;exact Calls.quiet_of_same (cmp64 n n' _)));go_wp2;go_ret;exact⟨zW A.o.symm,zj (Below.refl _ w) _⟩
 by_cases k2:k= 2
 ·subst k2
  have A:Hid (rowV 2 n n' f f' s s' ns ns'= cmpI n n'):=I rfl;clear d2 e2 d3 e3 d4 e4;go_enter Tryz.func150,Tryz.ntmps150;go_wp2;go_quiet ((go_at_call 192;exact Calls.quiet_of_same (cmp64 n n' _)));go_wp2;go_ret;exact⟨zW A.o.symm,zj (Below.refl _ w) _⟩
 by_cases k3:k= 3
 ·subst k3
  have A:Hid (rowV 3 n n' f f' s s' ns ns'= cmpF f f'):=I rfl;clear d1 e1 d3 e3 d4 e4;go_enter Tryz.func150,Tryz.ntmps150;go_wp2;go_quiet ((go_at_call 144;exact Calls.quiet_of_same (z16 f f' HF.o.1 HF.o.2 _)));go_wp2;go_ret;exact⟨zW A.o.symm,zj (Below.refl _ w) _⟩
 by_cases k4:k= 4
 ·subst k4
  have A:Hid (rowV 4 n n' f f' s s' ns ns'= cmpS s s'):=I rfl;clear d1 e1 d2 e2 d4 e4;go_enter Tryz.func150,Tryz.ntmps150;go_wp2;go_quiet ((go_at_call 193;exact Calls.quiet_of_same (zdn s s' _)));go_wp2;go_ret;exact⟨zW A.o.symm,zj (Below.refl _ w) _⟩
 by_cases k6:k= 6
 ·subst k6
  have A:Hid (rowV 6 n n' f f' s s' ns ns'= listC cmpS ns ns'):=I rfl;clear d1 e1 d2 e2 d3 e3;go_enter Tryz.func150,Tryz.ntmps150;go_wp2;go_quiet ((go_at_call 194;exact Calls.quiet_of_same (z7K vn vn' ns ns' w.heap.size _ (HN.o.below (zj (Below.refl _ w) _) fun _ _ _ h=>h) (O.o.below (zj (Below.refl _ w) _) fun _ _ _ h=>h))));go_wp2;go_ret;exact⟨zW A.o.symm,zj (Below.refl _ w) _⟩
 by_cases k5:k= 5
 ·subst k5
  have A:Hid (rowV 5 n n' f f' s s' ns ns'= 0):=I rfl;clear d1 e1 d2 e2 d3 e3 d4 e4;go_enter Tryz.func150,Tryz.ntmps150;go_wp2;go_ret;exact⟨zW A.o.symm,Below.refl _ w⟩
 have A:Hid (rowV k n n' f f' s s' ns ns'= or3 (cmpI n n') (cmpS s s') (listC cmpS ns ns')):=I (by unfold rowV;rw[if_neg (by omega),if_neg k3,if_neg k4,if_neg k5,if_neg k6]);have t1:(k ==1)= false:=by simpa using k1
 have t2:(k ==2)= false:=by simpa using k2
 have t3:(k ==3)= false:=by simpa using k3
 have t4:(k ==4)= false:=by simpa using k4
 have t5:(k ==5)= false:=by simpa using k5
 have t6:(k ==6)= false:=by simpa using k6
 clear d1 e1 d2 e2 d3 e3 d4 e4 k1 k2 k3 k4 k5 k6;go_enter Tryz.func150,Tryz.ntmps150;go_upto_region 13 with (fail);clear d0 t1 t2 t3 t4 t5 t6;refine zo [(0,true),(1,true),(2,true),(3,true),(4,true),(5,true),(6,true),(7,true),(9,true),(10,true),(11,true),(12,true),(13,true),(14,true),(15,true),(16,true),(18,true),(19,true),(20,true),(21,true),(22,true),(23,true),(24,true),(25,true),(8,false),(17,false),(26,false),(27,false),(28,false),(29,true)] (fun z=>Below w.heap.size w z) (by kernel_rfl) (by intro c a d v w h;cases d<;>exact h) ?_;have g:Below w.heap.size w w.drew:=(Below.refl _ w).drew;have K:Hid (∀ z,Below w.heap.size w z->∀ (i:Nat) v,([.int .i64 k,.int .i64 n,.float .f64 f,.string s,vn,vi]:List Value)[i]?= some v->z.cell? ⟨pa,i,none⟩= some v):=I fun z hz i v hv=>by have:=HA.o i v hv;rw[Nat.zero_add] at this;exact(hz.cell (p:=⟨pa,i,none⟩) HL.o.1).trans this
 have N:Hid (∀ z,Below w.heap.size w z->∀ (i:Nat) v,([.int .i64 k',.int .i64 n',.float .f64 f',.string s',vn',vi']:List Value)[i]?= some v->z.cell? ⟨pb,i,none⟩= some v):=I fun z hz i v hv=>by have:=HB.o i v hv;rw[Nat.zero_add] at this;exact(hz.cell (p:=⟨pb,i,none⟩) HL.o.2).trans this
 refine zf 57 (.pointer (some ⟨pa,0,none⟩)) rfl rfl rfl rfl g rfl ?_;go_frame;refine z7 58 (.pointer (some ⟨pa,0,none⟩)) rfl rfl rfl g (fun z hz=>by go_simp) ?_;go_frame;refine z7 59 (.pointer (some ⟨pa,1,none⟩)) rfl rfl rfl g (fun z hz=>by go_simp) ?_;go_frame;refine z7 60 (.int .i64 n) rfl rfl rfl g (fun z hz=>by have X:=K.o z hz 1 (.int .i64 n) rfl;go_simp) ?_;go_frame;refine zf 61 (.pointer (some ⟨pb,0,none⟩)) rfl rfl rfl rfl g rfl ?_;go_frame;refine z7 62 (.pointer (some ⟨pb,0,none⟩)) rfl rfl rfl g (fun z hz=>by go_simp) ?_;go_frame;refine z7 63 (.pointer (some ⟨pb,1,none⟩)) rfl rfl rfl g (fun z hz=>by go_simp) ?_;go_frame;refine z7 64 (.int .i64 n') rfl rfl rfl g (fun z hz=>by have X:=N.o z hz 1 (.int .i64 n') rfl;go_simp) ?_;go_frame;refine zf 66 (.pointer (some ⟨pa,0,none⟩)) rfl rfl rfl rfl g rfl ?_;go_frame;refine z7 67 (.pointer (some ⟨pa,0,none⟩)) rfl rfl rfl g (fun z hz=>by go_simp) ?_;go_frame;refine z7 68 (.pointer (some ⟨pa,3,none⟩)) rfl rfl rfl g (fun z hz=>by go_simp) ?_;go_frame;refine z7 69 (.string s) rfl rfl rfl g (fun z hz=>by have X:=K.o z hz 3 (.string s) rfl;go_simp) ?_;go_frame;refine zf 70 (.pointer (some ⟨pb,0,none⟩)) rfl rfl rfl rfl g rfl ?_;go_frame;refine z7 71 (.pointer (some ⟨pb,0,none⟩)) rfl rfl rfl g (fun z hz=>by go_simp) ?_;go_frame;refine z7 72 (.pointer (some ⟨pb,3,none⟩)) rfl rfl rfl g (fun z hz=>by go_simp) ?_;go_frame;refine z7 73 (.string s') rfl rfl rfl g (fun z hz=>by have X:=N.o z hz 3 (.string s') rfl;go_simp) ?_;go_frame;refine zf 75 (.pointer (some ⟨pa,0,none⟩)) rfl rfl rfl rfl g rfl ?_;go_frame;refine z7 76 (.pointer (some ⟨pa,0,none⟩)) rfl rfl rfl g (fun z hz=>by go_simp) ?_;go_frame;refine z7 77 (.pointer (some ⟨pa,4,none⟩)) rfl rfl rfl g (fun z hz=>by go_simp) ?_;go_frame;refine z7 78 vn rfl rfl rfl g (fun z hz=>by have X:=K.o z hz 4 vn rfl;go_simp) ?_;go_frame;refine zf 79 (.pointer (some ⟨pb,0,none⟩)) rfl rfl rfl rfl g rfl ?_;go_frame;refine z7 80 (.pointer (some ⟨pb,0,none⟩)) rfl rfl rfl g (fun z hz=>by go_simp) ?_;go_frame;refine z7 81 (.pointer (some ⟨pb,4,none⟩)) rfl rfl rfl g (fun z hz=>by go_simp) ?_;go_frame;refine z7 82 vn' rfl rfl rfl g (fun z hz=>by have X:=N.o z hz 4 vn' rfl;go_simp) ?_;go_frame;refine zA 65 192 Tryz.func192 (by kernel_rfl) [.int .i64 n,.int .i64 n'] rfl rfl rfl rfl rfl ?_;refine(cmp64 n n' _).mono ?_;rintro e z1 ⟨rfl,rfl⟩;refine⟨.int .i64 (cmpI n n'),rfl,g,?_⟩;go_frame;refine zA 74 193 Tryz.func193 (by kernel_rfl) [.string s,.string s'] rfl rfl rfl rfl rfl ?_;refine(zdn s s' _).mono ?_;rintro e z1 ⟨rfl,rfl⟩;refine⟨.int .i64 (cmpS s s'),rfl,g,?_⟩;go_frame;refine zA 83 194 Tryz.func194 (by kernel_rfl) [vn,vn'] rfl rfl rfl rfl rfl ?_;refine(z7K vn vn' ns ns' w.heap.size _ (HN.o.below g fun _ _ _ h=>h) (O.o.below g fun _ _ _ h=>h)).mono ?_;rintro e z1 ⟨rfl,rfl⟩;refine⟨.int .i64 (listC cmpS ns ns'),rfl,g,?_⟩;go_frame;generalize cmpI n n'= r1 at*;generalize cmpS s s'= r2 at*;generalize listC cmpS ns ns'= r3 at*;have C:Below w.heap.size w (w.drew.alloc (.cells #[.int .i64 r1,.int .i64 r2,.int .i64 r3] 3)):=g.alloc g.size _;have G:=z0r w.drew [.int .i64 r1,.int .i64 r2,.int .i64 r3] 3;refine z3t (some 84) (.slice (some ⟨w.drew.heap.size,0,none⟩) 3 3) (w.drew.alloc (.cells #[.int .i64 r1,.int .i64 r2,.int .i64 r3] 3)) _ rfl rfl (by exact wA rfl) (by go_simp) C ?_;go_frame;refine zA 85 195 Tryz.func195 (by kernel_rfl) [.slice (some ⟨w.drew.heap.size,0,none⟩) 3 3] rfl rfl rfl rfl rfl ?_;refine(zh7 _ r1 r2 r3 _ (G 0 _ rfl) (G 1 _ rfl) (G 2 _ rfl)).mono ?_;rintro e z1 ⟨rfl,rfl⟩;refine⟨.int .i64 (or3 r1 r2 r3),rfl,C,?_⟩;go_frame;refine zS 4 (.int .i64 (or3 r1 r2 r3)) rfl rfl rfl rfl C rfl ?_;go_frame;refine zD ?_;have Y:=I C;clear g C G;go_wp2;go_ret;exact⟨zW A.o.symm,Y.o⟩
end
section
open Go Go.RowKit
mutual
def ordV:VT->VT->Int
 | .mk k n f s ns its,.mk k' n' f' s' ns' its'=>
  if cmpI k k'≠0 then cmpI k k' else if rowV k n n' f f' s s' ns ns'≠0\/leafK k= true then rowV k n n' f f' s s' ns ns' else ordL its its'
def ordL:List VT->List VT->Int
 |[],[]=>0
 |[],_::_=> -1
 |_::_,[]=>1
 |a::l,b::r=>if ordV a b≠0 then ordV a b else ordL l r
end
theorem zaq:∀ l r:List VT,ordL l r= listC ordV l r
 |[],[]=>by simp[ordL,listC]
 |[],_::_=>by simp[ordL,listC]
 |_::_,[]=>by simp[ordL,listC]
 |a::l,b::r=>by
  rw[ordL,listC,zaq l r]
theorem zm {w:World} {B:Nat} {cs:List Value} {t:VT} (h:ValAt w B cs t):cs.length= 6/\∀ u∈cs,u.oneCell'= true:=by
 cases t with
 |mk k n f s ns its=>
  obtain⟨K,G,rfl,_,_,_,_,h1,_,h2⟩:=h.inv;obtain⟨_,A,c,rfl,_⟩:=h1;obtain⟨_,g,C,rfl,_⟩:=h2;refine⟨rfl,fun u hu=> ?_⟩;simp only[List.mem_cons,List.not_mem_nil,or_false] at hu;rcases hu with rfl|rfl|rfl|rfl|rfl|rfl<;>rfl
theorem ValAt.next {w w':World} {cs:List Value} {t:VT} (h:ValAt w w.heap.size cs t) (hb:Below w.heap.size w w'):ValAt w' w'.heap.size cs t:=(h.under hb).more hb.size
theorem z1e {w:World} {v:Value} {l:List VT} (h:SlAt w w.heap.size 6 (ValAt w w.heap.size) v l):∃ A c,v= .slice A l.length c/\l.length<=9223372036854775807/\
  (0 < l.length->∃ b o,A= some ⟨b,o,none⟩/\b < w.heap.size/\∀ (i:Nat) x,l[i]?= some x->∃ cs:List Value,w.rangeAt b (o+i*6) cs/\ValAt w w.heap.size cs x):=by
 obtain⟨h0,A,c,h1,h2⟩:=h;refine⟨A,c,h1,h0,fun hp=> ?_⟩;obtain⟨b,o,h3,h4,h5⟩:=h2 hp;refine⟨b,o,h3,h4,fun i x hx=> ?_⟩;obtain⟨cs,_,h7,h8⟩:=h5 i x hx;exact⟨cs,h7,h8⟩
def z6C (r:Int) (w:World) (e:Ending) (w':World):Prop:=e= .returned (.int .i64 r)/\Below w.heap.size w w'
theorem zek (l r:List VT) (u v:Value) (w:World) (hu:SlAt w w.heap.size 6 (ValAt w w.heap.size) u l) (hv:SlAt w w.heap.size 6 (ValAt w w.heap.size) v r)
  (hF:∀ x∈l,∀ y cs cs' z,ValAt z z.heap.size cs x->ValAt z z.heap.size cs' y->Calls Tryz.prog 154 #[.agg ⟨cs⟩,.agg ⟨cs'⟩] z (z6C (ordV x y) z)):
  Calls Tryz.prog 197 #[u,v,.func (.func 154) #[] #[]] w (z6C (listC ordV l r) w):=by
 obtain⟨A,ca,rfl,hl,ha⟩:=z1e hu;obtain⟨D,cb,rfl,hr,hb⟩:=z1e hv;have HA:=I ha;have HB:=I hb;have HF:=I hF;have HS:=I (fun k x y=>z3M (f:=ordV) (l:=l) (r:=r) (k:=k) (x:=x) (y:=y));have HL:=I (fun k x=>z3L (f:=ordV) (l:=l) (r:=r) (k:=k) (x:=x));have HE:=I (fun k=>z4w (f:=ordV) (l:=l) (r:=r) (k:=k));have HT:=I (fun k=>z3K (f:=ordV) (l:=l) (r:=r) (k:=k));have H0:Hid (listC ordV (l.drop 0) (r.drop 0)= listC ordV l r):=I rfl;have e6:(l.length:Int)<=9223372036854775807:=by omega
 have e8:(r.length:Int)<=9223372036854775807:=by omega
 clear ha hb hu hv hF;generalize listC ordV l r= res at*;go_enter Tryz.func197,Tryz.ntmps197;go_wp2;go_loopg [13] l.length (fun q x u=>∃ k:Nat,k+q= l.length/\x= .int .i64 k/\Below w.heap.size w u/\listC ordV (l.drop k) (r.drop k)= res);case atStart=>exact⟨0,by omega,rfl,Below.refl _ _,H0.o⟩
 case round=>
  obtain⟨k,hk,rfl,hb,a6⟩:=hrel;have HR:=I a6;have C:=I hb;clear a6 hb;cases gk with
  |zero=>
   obtain rfl:k= l.length:=by omega
   have d2: ¬ ((l.length:Int) <(l.length:Int)):=by omega
   by_cases hlr:l.length < r.length
   ·have X:=I ((HR.o).symm.trans (HE.o l.length (Nat.le_refl _) hlr))
    have t1:(l.length:Int) <(r.length:Int):=by omega
    clear HR hlr;go_wp2;go_ret;exact⟨zW X.o.symm,C.o⟩
   ·have X:=I ((HR.o).symm.trans (HT.o l.length (Nat.le_refl _) (by omega)))
    have t1: ¬ ((l.length:Int) <(r.length:Int)):=by omega
    clear HR hlr;go_wp2;go_ret;exact⟨zW X.o.symm,C.o⟩
  |succ q=>
   have e7:(k:Int) <(l.length:Int):=by omega
   obtain⟨x,hx⟩:∃ x,l[k]?= some x:=⟨_,List.getElem?_eq_getElem (by omega)⟩;obtain⟨b1,o1,rfl,d0,c1⟩:=HA.o (by omega);obtain⟨cs,O,b4⟩:=c1 k x hx;have b8:=I (zb O C.o d0);have c4:=I (ValAt.next b4 C.o);have G:=I (zm b4);have c9:=I (List.mem_of_getElem? hx);have b6:=I hx;clear c1 O b4 hx;go_upto_region 4 with (first|((with_reducible refine za tyK39 _ rfl ?_ b8.o rfl G.o.1 ?_);exact wA rfl)|((with_reducible refine zN tyK39 _ _ rfl ?_ wr G.o.1 G.o.2 rfl ?_ ?_ ?_ ?_);exact wA rfl;rfl;rfl;rfl;intro Z HX));have Y:=I (beT C.o HX.o.below);have a9:=I HX.o.range;have a3:=I (ValAt.next c4.o HX.o.below);obtain⟨pa,a0⟩:∃ pa,wr.heap.size= pa:=⟨_,rfl⟩;rw[a0] at a9;have b7:Hid (pa < Z.heap.size):=I (a0▸HX.o.size);rw[a0];clear a0 b8 c4 HX;by_cases hkr:k < r.length
   ·obtain⟨y,hy⟩:∃ y,r[k]?= some y:=⟨_,List.getElem?_eq_getElem hkr⟩
    obtain⟨b2,o2,rfl,d1,c2⟩:=HB.o (by omega);obtain⟨cs',O,b5⟩:=c2 k y hy;have b9:=I (zb O Y.o d1);have c5:=I (ValAt.next b5 Y.o);have K:=I (zm b5);have d7:(k:Int) <(r.length:Int):=by omega
    have X:=I ((HR.o).symm.trans (HS.o k x y b6.o hy));clear c2 O b5 hy hkr;go_upto_region 7 with (first|((with_reducible refine za tyK39 _ rfl ?_ b9.o rfl K.o.1 ?_);exact wA rfl)|((with_reducible refine zN tyK39 _ _ rfl ?_ Z K.o.1 K.o.2 rfl ?_ ?_ ?_ ?_);exact wA rfl;rfl;rfl;rfl;intro Z2 g));have a1:=I (beT Y.o g.o.below);have a2:=I (zb a9.o g.o.below b7.o);have N:=I g.o.range;have a4:=I (ValAt.next a3.o g.o.below);have a5:=I (ValAt.next c5.o g.o.below);obtain⟨pb,b3⟩:∃ pb,Z.heap.size= pb:=⟨_,rfl⟩;rw[b3] at N;rw[b3];have HC:=I (HF.o x c9.o y cs cs' Z2 a4.o a5.o);clear b3 g b9 a3 c5 a9 b7 a4 a5;generalize ordV x y= cv at*;by_cases hc:cv= 0
    ·subst hc
     have b0:=I (X.o.trans (if_neg (fun h=>h rfl)));clear X;go_wp2_with (first|((with_reducible refine za tyK39 _ rfl ?_ a2.o rfl G.o.1 ?_);exact wA rfl)|((with_reducible refine za tyK39 _ rfl ?_ N.o rfl K.o.1 ?_);exact wA rfl)|(go_at_call 154;refine zg HC.o ?_;intro z a7));go_roundg q;case measure=>omega
     case rel=>exact⟨k+1,by omega,by go_num,(beT a1.o a7.o),b0.o.symm⟩
    ·have b0:=I (X.o.trans (if_pos hc))
     have t2:(cv !=0)= true:=by simpa using hc
     clear X hc;go_wp2_with (first|((with_reducible refine za tyK39 _ rfl ?_ a2.o rfl G.o.1 ?_);exact wA rfl)|((with_reducible refine za tyK39 _ rfl ?_ N.o rfl K.o.1 ?_);exact wA rfl)|(go_at_call 154;refine zg HC.o ?_;intro z a7));go_ret;exact⟨zW b0.o.symm,(beT a1.o a7.o)⟩
   ·have X:=I ((HR.o).symm.trans (HL.o k x b6.o (by omega)))
    have d2:(r.length:Int)<=(k:Int):=by omega
    clear HR hkr;go_wp2;go_ret;exact⟨zW X.o.symm,Y.o⟩
theorem ze2:∀ (t t':VT) (cs cs':List Value) (w:World),ValAt w w.heap.size cs t->ValAt w w.heap.size cs' t'->Calls Tryz.prog 154 #[.agg ⟨cs⟩,.agg ⟨cs'⟩] w (z6C (ordV t t') w):=by
 intro t
 induction t using VT.ind with
 |h k n f s ns its ih=>
  intro t' cs cs' w hv a8;cases t' with
  |mk k' n' f' s' ns' its'=>
  have IH:=I ih;have d6:=I hv;have d7:=I a8;obtain⟨vn,vi,rfl,_,_,hf,_,hn,_,hi⟩:=hv.inv;obtain⟨X,K,rfl,_,_,b3,_,b5,_,b4⟩:=a8.inv;have HF:=I (And.intro (wf64 hf) (wf64 b3));have HN:=I hn;have c4:=I b5;have HI:=I hi;have b9:=I b4;have HO:Hid (ordV (.mk k n f s ns its) (.mk k' n' f' s' ns' its')= if cmpI k k'≠0 then cmpI k k' else if rowV k n n' f f' s s' ns ns'≠0\/leafK k= true then rowV k n n' f f' s s' ns ns' else listC ordV its its'):=I (by rw[ordV,zaq]);clear ih hv a8 hf b3 hn b5 hi b4;generalize hres:ordV (.mk k n f s ns its) (.mk k' n' f' s' ns' its')= res at*;clear hres;go_enter Tryz.func154,Tryz.ntmps154;go_upto_region 1 with (fail);have HA:=I (zv w [.int .i64 k,.int .i64 n,.float .f64 f,.string s,vn,vi] 39);have b1:=I (zc w (.cells ⟨[.int .i64 k,.int .i64 n,.float .f64 f,.string s,vn,vi]⟩ 39));have a6:=I (zy w (.cells ⟨[.int .i64 k,.int .i64 n,.float .f64 f,.string s,vn,vi]⟩ 39));have b2:Hid ((w.alloc (.cells ⟨[.int .i64 k,.int .i64 n,.float .f64 f,.string s,vn,vi]⟩ 39)).heap.size= w.heap.size+1):=I (by simp);generalize w.alloc (.cells ⟨[.int .i64 k,.int .i64 n,.float .f64 f,.string s,vn,vi]⟩ 39)= W1 at*;have HB:=I (zv W1 [.int .i64 k',.int .i64 n',.float .f64 f',.string s',X,K] 39);have g:=I (zc W1 (.cells ⟨[.int .i64 k',.int .i64 n',.float .f64 f',.string s',X,K]⟩ 39));have a4:=I (zy W1 (.cells ⟨[.int .i64 k',.int .i64 n',.float .f64 f',.string s',X,K]⟩ 39));generalize W1.alloc (.cells ⟨[.int .i64 k',.int .i64 n',.float .f64 f',.string s',X,K]⟩ 39)= W at*;have Y:=I (zb HA.o g.o a6.o);have C:=I (beT b1.o g.o);have a2:=I (Nat.lt_of_lt_of_le a6.o g.o.size);rw[b2.o] at HB a4;obtain⟨pb,a7⟩:∃ pb,w.heap.size+1= pb:=⟨_,rfl⟩;rw[a7] at HB a4;rw[a7];have d0:W.cell? ⟨w.heap.size,0,none⟩= some (.int .i64 k):=by have:=Y.o 0 _ rfl;simpa using this
  have e0:W.cell? ⟨pb,0,none⟩= some (.int .i64 k'):=by have:=HB.o 0 _ rfl;simpa using this
  have a3:=I (zau k k' n n' f f' s s' ns ns' vn X vi K w.heap.size pb W Y.o HB.o ⟨a2.o,a4.o⟩ HF.o.1 HF.o.2 ((HN.o.below C.o fun _ _ _ h=>h).more C.o.size) ((c4.o.below C.o fun _ _ _ h=>h).more C.o.size));have a0:=I (fun w=>cmpi k k' w);have a1:=I (fun w=>z8F k w);clear HA b1 a6 b2 g a7;generalize cmpI k k'= ck at*;by_cases hck:ck= 0
  ·subst hck
   have G:=I (HO.o.trans (if_neg (fun h=>h rfl)));clear HO;generalize rowV k n n' f f' s s' ns ns'= rv at*;by_cases hrv:rv= 0
   ·subst hrv
    cases hlf:leafK k with
    |true=>
     have O:=I (G.o.trans (if_pos (.inr hlf)));rw[hlf] at a1;clear G hlf;go_wp2_with (first|(go_at_call 196;refine(a0.o _).mono ?_;rintro e z1 ⟨rfl,rfl⟩)|(go_at_call 150;refine a3.o.mono ?_;rintro e w2 ⟨rfl,N⟩;have g:=I N;have c5:=(N.cell (p:=⟨w.heap.size,0,none⟩) a2.o).trans d0;clear N)|(go_at_call 151;refine(a1.o _).mono ?_;rintro e z1 ⟨rfl,rfl⟩));go_ret;exact⟨zW O.o.symm,(beT C.o g.o)⟩
    |false=>
     have O:=I (G.o.trans (if_neg (fun h=>h.elim (fun h=>h rfl) (fun h=>by rw[hlf] at h;cases h))));rw[hlf] at a1;clear G hlf;go_upto_region 5 with (first|(go_at_call 196;refine(a0.o _).mono ?_;rintro e z1 ⟨rfl,rfl⟩)|(go_at_call 150;refine a3.o.mono ?_;rintro e w2 ⟨rfl,N⟩;have g:=I N;have c5:=(N.cell (p:=⟨w.heap.size,0,none⟩) a2.o).trans d0;clear N));have A:=I (beT C.o g.o);have d5:w2.cell? ⟨w.heap.size,5,none⟩= some vi:=by have:=Y.o 5 vi rfl;rw[Nat.zero_add] at this;exact(g.o.cell (p:=⟨w.heap.size,5,none⟩) a2.o).trans this
     have e5:w2.cell? ⟨pb,5,none⟩= some K:=by have:=HB.o 5 K rfl;rw[Nat.zero_add] at this;exact(g.o.cell (p:=⟨pb,5,none⟩) a4.o).trans this
     have b8:=I (zek its its' vi K w2 ((HI.o.below A.o fun _ _ _ h=>ValAt.under h A.o).more A.o.size|>.weak fun _ _ h=>h.more A.o.size) ((b9.o.below A.o fun _ _ _ h=>ValAt.under h A.o).more A.o.size|>.weak fun _ _ h=>h.more A.o.size) (fun x hx y cs cs' z h1 h2=>IH.o x hx y cs cs' z h1 h2));clear d0 e0 a3 Y HB;go_wp2_with (first|(go_at_call 151;refine(a1.o _).mono ?_;rintro e z1 ⟨rfl,rfl⟩)|(go_at_call 197;refine zg b8.o ?_;intro z1 b7));go_ret;exact⟨zW O.o.symm,(beT A.o b7.o)⟩
   ·have O:=I (G.o.trans (if_pos (.inl hrv)))
    have t2:(rv !=0)= true:=by simpa using hrv
    clear G hrv;go_wp2_with (first|(go_at_call 196;refine(a0.o _).mono ?_;rintro e z1 ⟨rfl,rfl⟩)|(go_at_call 150;refine zg a3.o ?_;intro w2 g));go_ret;exact⟨zW O.o.symm,(beT C.o g.o)⟩
  ·have G:=I (HO.o.trans (if_pos hck))
   have t2:(ck !=0)= true:=by simpa using hck
   clear HO hck;go_wp2_with (first|(go_at_call 196;refine(a0.o _).mono ?_;rintro e z1 ⟨rfl,rfl⟩));go_ret;exact⟨zW G.o.symm,C.o⟩
theorem vsame (t t':VT) (cs cs':List Value) (w:World) (h:ValAt w w.heap.size cs t) (h':ValAt w w.heap.size cs' t'):
  Calls Tryz.prog 173 #[.agg ⟨cs⟩,.agg ⟨cs'⟩] w fun e w'=>e= .returned (.bool (ordV t t' ==0))/\Below w.heap.size w w':=by
 have HA:=I (zv w cs 39);have G:=I (zc w (.cells ⟨cs⟩ 39));have K:=I (zy w (.cells ⟨cs⟩ 39));have N:Hid ((w.alloc (.cells ⟨cs⟩ 39)).heap.size= w.heap.size+1):=I (by simp);have HL:=I (zm h);have a1:=I (zm h');have HV:=I h;have O:=I h';clear h h';go_enter Tryz.func173,Tryz.ntmps173;go_upto_region 1 with (fail);generalize w.alloc (.cells ⟨cs⟩ 39)= W1 at*;have Y:=I (zv W1 cs' 39);have g:=I (zc W1 (.cells ⟨cs'⟩ 39));have a2:=I (zy W1 (.cells ⟨cs'⟩ 39));generalize W1.alloc (.cells ⟨cs'⟩ 39)= W at*;have X:=I (zb HA.o g.o K.o);have A:=I (beT G.o g.o);rw[N.o] at Y;obtain⟨pb,C⟩:∃ pb,w.heap.size+1= pb:=⟨_,rfl⟩;rw[C] at Y;rw[C];have HC:=I (ze2 t t' cs cs' W (HV.o.next A.o) (O.o.next A.o));clear HA G K N g a2 C HV O;go_wp2_with (first|((with_reducible refine za tyK39 _ rfl ?_ X.o rfl HL.o.1 ?_);exact wA rfl)|((with_reducible refine za tyK39 _ rfl ?_ Y.o rfl a1.o.1 ?_);exact wA rfl)|(go_at_call 154;refine zg HC.o ?_;intro z1 a0));go_ret;exact⟨rfl,(beT A.o a0.o)⟩
end
section
open Go
def VT.kind:VT->Int| .mk k _ _ _ _ _=>k
end
section
open Go Go.RowKit
mutual
def eqV:VT->VT->Bool
 | .mk k n f s ns its,.mk k' n' f' s' ns' its'=>
  if k≠k' then false else if k= 3 then(fOrd f f' ==some .eq) else if rowV k n n' f f' s s' ns ns'≠0 then false else if leafK k= true then true else eqL its its'
def eqL:List VT->List VT->Bool
 |[],[]=>true
 |a::l,b::r=>eqV a b && eqL l r
 |[],_::_=>false
 |_::_,[]=>false
end
theorem zey {l r:List VT} {k:Nat} {x y:VT} (hx:l[k]?= some x) (hy:r[k]?= some y):eqL (l.drop k) (r.drop k)=(eqV x y && eqL (l.drop (k+1)) (r.drop (k+1))):=by
 rw[z0d hx,z0d hy,eqL]
theorem zex {l r:List VT} {k:Nat} (hl:l.length<=k) (hr:r.length<=k):eqL (l.drop k) (r.drop k)= true:=by
 rw[List.drop_eq_nil_of_le hl,List.drop_eq_nil_of_le hr];simp[eqL]
theorem zae:∀ {l r:List VT},l.length≠r.length->eqL l r= false
 |[],[],h=>absurd rfl h
 |[],_::_,_=>by simp[eqL]
 |_::_,[],_=>by simp[eqL]
 |a::l,b::r,h=>by
  rw[eqL,zae (l:=l) (r:=r) (by simpa using h),Bool.and_false]
def z84 (b:Bool) (w:World) (e:Ending) (w':World):Prop:=e= .returned (.bool b)/\Below w.heap.size w w'
theorem zfW (l r:List VT) (u v:Value) (w:World) (hu:SlAt w w.heap.size 6 (ValAt w w.heap.size) u l) (hv:SlAt w w.heap.size 6 (ValAt w w.heap.size) v r)
  (hF:∀ x∈l,∀ y cs cs' z,ValAt z z.heap.size cs x->ValAt z z.heap.size cs' y->Calls Tryz.prog 124 #[.agg ⟨cs⟩,.agg ⟨cs'⟩] z (z84 (eqV x y) z)):
  Calls Tryz.prog 152 #[u,v,.func (.func 124) #[] #[]] w (z84 (eqL l r) w):=by
 obtain⟨A,ca,rfl,hl,ha⟩:=z1e hu;obtain⟨D,cb,rfl,hr,hb⟩:=z1e hv;by_cases hlen:l.length= r.length;case neg=>
  have HR:=I (zae hlen);have t1:((l.length:Int) !=(r.length:Int))= true:=by rw[bne_iff_ne];omega
  clear hlen ha hb hu hv hF;go_enter Tryz.func152,Tryz.ntmps152;go_wp2;go_ret;exact⟨z8 HR.o.symm,Below.refl _ w⟩
 have t1:((l.length:Int) !=(r.length:Int))= false:=by rw[hlen];exact bne_self_eq_false _
 have a0:=I hlen;have HA:=I ha;have HB:=I hb;have HF:=I hF;have HS:=I (fun k x y=>zey (l:=l) (r:=r) (k:=k) (x:=x) (y:=y));have HT:=I (fun k=>zex (l:=l) (r:=r) (k:=k));have H0:Hid (eqL (l.drop 0) (r.drop 0)= eqL l r):=I rfl;have e6:(l.length:Int)<=9223372036854775807:=by omega
 have e8:(r.length:Int)<=9223372036854775807:=by omega
 clear ha hb hu hv hF hlen;generalize eqL l r= res at*;go_enter Tryz.func152,Tryz.ntmps152;go_wp2;go_loopg [17] l.length (fun q x u=>∃ k:Nat,k+q= l.length/\x= .int .i64 k/\Below w.heap.size w u/\eqL (l.drop k) (r.drop k)= res);case atStart=>exact⟨0,by omega,rfl,Below.refl _ _,H0.o⟩
 case round=>
  obtain⟨k,hk,rfl,hb,a5⟩:=hrel;have HR:=I a5;have O:=I hb;clear a5 hb;cases gk with
  |zero=>
   obtain rfl:k= l.length:=by omega
   have e5: ¬ ((l.length:Int) <(l.length:Int)):=by omega
   have HV:=I ((HR.o).symm.trans (HT.o l.length (Nat.le_refl _) (by have:=a0.o;omega)));clear HR;go_wp2;go_ret;exact⟨z8 HV.o.symm,O.o⟩
  |succ q=>
   have e7:(k:Int) <(l.length:Int):=by omega
   have c8:k < r.length:=by have:=a0.o;omega
   obtain⟨x,hx⟩:∃ x,l[k]?= some x:=⟨_,List.getElem?_eq_getElem (by omega)⟩;obtain⟨b1,o1,rfl,d3,c1⟩:=HA.o (by omega);obtain⟨cs,N,b3⟩:=c1 k x hx;have b9:=I (zb N O.o d3);have c5:=I (ValAt.next b3 O.o);have C:=I (zm b3);have d1:=I (List.mem_of_getElem? hx);have d0:=I hx;clear c1 N b3 hx;go_upto_region 6 with (first|((with_reducible refine za tyK39 _ rfl ?_ b9.o rfl C.o.1 ?_);exact wA rfl)|((with_reducible refine zN tyK39 _ _ rfl ?_ wr C.o.1 C.o.2 rfl ?_ ?_ ?_ ?_);exact wA rfl;rfl;rfl;rfl;intro Z HX));have a7:=I (beT O.o HX.o.below);have a8:=I HX.o.range;have a2:=I (ValAt.next c5.o HX.o.below);obtain⟨pa,X⟩:∃ pa,wr.heap.size= pa:=⟨_,rfl⟩;rw[X] at a8;have b7:Hid (pa < Z.heap.size):=I (X▸HX.o.size);rw[X];clear X b9 c5 HX;obtain⟨y,hy⟩:∃ y,r[k]?= some y:=⟨_,List.getElem?_eq_getElem c8⟩;obtain⟨b2,o2,rfl,d4,c2⟩:=HB.o (by omega);obtain⟨cs',N,b4⟩:=c2 k y hy;have c4:=I (zb N a7.o d4);have c6:=I (ValAt.next b4 a7.o);have G:=I (zm b4);have d8:(k:Int) <(r.length:Int):=by omega
   have HV:=I ((HR.o).symm.trans (HS.o k x y d0.o hy));clear c2 N b4 hy c8;go_upto_region 7 with (first|((with_reducible refine za tyK39 _ rfl ?_ c4.o rfl G.o.1 ?_);exact wA rfl)|((with_reducible refine zN tyK39 _ _ rfl ?_ Z G.o.1 G.o.2 rfl ?_ ?_ ?_ ?_);exact wA rfl;rfl;rfl;rfl;intro Z2 g));have Y:=I (beT a7.o g.o.below);have a1:=I (zb a8.o g.o.below b7.o);have K:=I g.o.range;have a3:=I (ValAt.next a2.o g.o.below);have a4:=I (ValAt.next c6.o g.o.below);obtain⟨pb,b0⟩:∃ pb,Z.heap.size= pb:=⟨_,rfl⟩;rw[b0] at K;rw[b0];have HC:=I (HF.o x d1.o y cs cs' Z2 a3.o a4.o);clear b0 g c4 a2 c6 a8 b7 a3 a4;generalize eqV x y= cv at*;cases cv with
   |true=>
    have a9:Hid (res= eqL (l.drop (k+1)) (r.drop (k+1))):=I (HV.o.trans (Bool.true_and _));clear HV;go_wp2_with (first|((with_reducible refine za tyK39 _ rfl ?_ a1.o rfl C.o.1 ?_);exact wA rfl)|((with_reducible refine za tyK39 _ rfl ?_ K.o rfl G.o.1 ?_);exact wA rfl)|(go_at_call 124;refine zg HC.o ?_;intro z a6));go_roundg q;case measure=>omega
    case rel=>exact⟨k+1,by omega,by go_num,(beT Y.o a6.o),a9.o.symm⟩
   |false=>
    have a9:Hid (res= false):=I (HV.o.trans (Bool.false_and _));clear HV;go_wp2_with (first|((with_reducible refine za tyK39 _ rfl ?_ a1.o rfl C.o.1 ?_);exact wA rfl)|((with_reducible refine za tyK39 _ rfl ?_ K.o rfl G.o.1 ?_);exact wA rfl)|(go_at_call 124;refine zg HC.o ?_;intro z a6));go_ret;exact⟨z8 a9.o.symm,(beT Y.o a6.o)⟩
theorem zhh:∀ (t t':VT) (cs cs':List Value) (w:World),ValAt w w.heap.size cs t->ValAt w w.heap.size cs' t'->Calls Tryz.prog 124 #[.agg ⟨cs⟩,.agg ⟨cs'⟩] w (z84 (eqV t t') w):=by
 intro t
 induction t using VT.ind with
 |h k n f s ns its ih=>
  intro t' cs cs' w hv b0;cases t' with
  |mk k' n' f' s' ns' its'=>
  have IH:=I ih;have d8:=I hv;have d9:=I b0;obtain⟨vn,vi,rfl,_,_,hf,_,hn,_,hi⟩:=hv.inv;obtain⟨a0,G,rfl,_,_,b4,_,b6,_,b5⟩:=b0.inv;have HF:=I (And.intro (wf64 hf) (wf64 b4));have HN:=I hn;have c5:=I b6;have HI:=I hi;have c4:=I b5;have HO:Hid (eqV (.mk k n f s ns its) (.mk k' n' f' s' ns' its')= if k≠k' then false else if k= 3 then(fOrd f f' ==some .eq) else if rowV k n n' f f' s s' ns ns'≠0 then false else if leafK k= true then true else eqL its its'):=I (by rw[eqV]);clear ih hv b0 hf b4 hn b6 hi b5;generalize hres:eqV (.mk k n f s ns its) (.mk k' n' f' s' ns' its')= res at*;clear hres;go_enter Tryz.func124,Tryz.ntmps124;go_upto_region 1 with (fail);have HA:=I (zv w [.int .i64 k,.int .i64 n,.float .f64 f,.string s,vn,vi] 39);have b2:=I (zc w (.cells ⟨[.int .i64 k,.int .i64 n,.float .f64 f,.string s,vn,vi]⟩ 39));have a8:=I (zy w (.cells ⟨[.int .i64 k,.int .i64 n,.float .f64 f,.string s,vn,vi]⟩ 39));have b3:Hid ((w.alloc (.cells ⟨[.int .i64 k,.int .i64 n,.float .f64 f,.string s,vn,vi]⟩ 39)).heap.size= w.heap.size+1):=I (by simp);generalize w.alloc (.cells ⟨[.int .i64 k,.int .i64 n,.float .f64 f,.string s,vn,vi]⟩ 39)= W1 at*;have HB:=I (zv W1 [.int .i64 k',.int .i64 n',.float .f64 f',.string s',a0,G] 39);have g:=I (zc W1 (.cells ⟨[.int .i64 k',.int .i64 n',.float .f64 f',.string s',a0,G]⟩ 39));have a4:=I (zy W1 (.cells ⟨[.int .i64 k',.int .i64 n',.float .f64 f',.string s',a0,G]⟩ 39));generalize W1.alloc (.cells ⟨[.int .i64 k',.int .i64 n',.float .f64 f',.string s',a0,G]⟩ 39)= W at*;have Y:=I (zb HA.o g.o a8.o);have C:=I (beT b2.o g.o);have a2:=I (Nat.lt_of_lt_of_le a8.o g.o.size);rw[b3.o] at HB a4;obtain⟨pb,a9⟩:∃ pb,w.heap.size+1= pb:=⟨_,rfl⟩;rw[a9] at HB a4;rw[a9];have d0:W.cell? ⟨w.heap.size,0,none⟩= some (.int .i64 k):=by have:=Y.o 0 _ rfl;simpa using this
  have e0:W.cell? ⟨pb,0,none⟩= some (.int .i64 k'):=by have:=HB.o 0 _ rfl;simpa using this
  have a3:=I (zau k k' n n' f f' s s' ns ns' vn a0 vi G w.heap.size pb W Y.o HB.o ⟨a2.o,a4.o⟩ HF.o.1 HF.o.2 ((HN.o.below C.o fun _ _ _ h=>h).more C.o.size) ((c5.o.below C.o fun _ _ _ h=>h).more C.o.size));have a1:=I (fun w=>z8F k w);clear HA b2 a8 b3 g a9;by_cases hck:k= k'
  ·subst hck
   have O:=I (HO.o.trans (if_neg (fun h=>h rfl)));clear HO;by_cases hk3:k= 3
   ·subst hk3
    have K:Hid (res=(FloatKind.f64.format.order f f' ==some .eq)):=I (O.o.trans (if_pos rfl));have d2:W.cell? ⟨w.heap.size,2,none⟩= some (.float .f64 f):=by have:=Y.o 2 _ rfl;simpa using this
    have e2:W.cell? ⟨pb,2,none⟩= some (.float .f64 f'):=by have:=HB.o 2 _ rfl;simpa using this
    clear O;go_wp2_with (go_in);go_ret;exact⟨z8 K.o.symm,C.o⟩
   have K:=I (O.o.trans (if_neg hk3));have t3:(k ==3)= false:=by simpa using hk3
   clear O hk3;generalize rowV k n n' f f' s s' ns ns'= rv at*;by_cases hrv:rv= 0
   ·subst hrv
    have X:=I (K.o.trans (if_neg (fun h=>h rfl)));cases hlf:leafK k with
    |true=>
     have a7:=I (X.o.trans (if_pos hlf));rw[hlf] at a1;clear K X hlf;go_wp2_with (first|(go_at_call 150;refine a3.o.mono ?_;rintro e w2 ⟨rfl,N⟩;have g:=I N;have c6:=(N.cell (p:=⟨w.heap.size,0,none⟩) a2.o).trans d0;clear N)|(go_at_call 151;refine(a1.o _).mono ?_;rintro e z1 ⟨rfl,rfl⟩));go_ret;exact⟨z8 a7.o.symm,(beT C.o g.o)⟩
    |false=>
     have a7:=I (X.o.trans (if_neg (fun h=>by rw[hlf] at h;cases h)));rw[hlf] at a1;clear K X hlf;go_upto_region 7 with (first|(go_at_call 150;refine a3.o.mono ?_;rintro e w2 ⟨rfl,N⟩;have g:=I N;have c6:=(N.cell (p:=⟨w.heap.size,0,none⟩) a2.o).trans d0;clear N));have A:=I (beT C.o g.o);have d5:w2.cell? ⟨w.heap.size,5,none⟩= some vi:=by have:=Y.o 5 vi rfl;rw[Nat.zero_add] at this;exact(g.o.cell (p:=⟨w.heap.size,5,none⟩) a2.o).trans this
     have e5:w2.cell? ⟨pb,5,none⟩= some G:=by have:=HB.o 5 G rfl;rw[Nat.zero_add] at this;exact(g.o.cell (p:=⟨pb,5,none⟩) a4.o).trans this
     have b9:=I (zfW its its' vi G w2 ((HI.o.below A.o fun _ _ _ h=>ValAt.under h A.o).more A.o.size|>.weak fun _ _ h=>h.more A.o.size) ((c4.o.below A.o fun _ _ _ h=>ValAt.under h A.o).more A.o.size|>.weak fun _ _ h=>h.more A.o.size) (fun x hx y cs cs' z h1 h2=>IH.o x hx y cs cs' z h1 h2));clear d0 e0 a3 Y HB;go_wp2_with (first|(go_at_call 151;refine(a1.o _).mono ?_;rintro e z1 ⟨rfl,rfl⟩)|(go_at_call 152;refine zg b9.o ?_;intro z1 b8));go_ret;exact⟨z8 a7.o.symm,(beT A.o b8.o)⟩
   ·have X:=I (K.o.trans (if_pos hrv))
    have t2:(rv !=0)= true:=by simpa using hrv
    clear K hrv;go_wp2_with (first|(go_at_call 150;refine zg a3.o ?_;intro w2 g));go_ret;exact⟨z8 X.o.symm,(beT C.o g.o)⟩
  ·have O:=I (HO.o.trans (if_pos hck))
   have t2:(k !=k')= true:=by simpa using hck
   clear HO hck;go_wp2;go_ret;exact⟨z8 O.o.symm,C.o⟩
end
section
open Go Go.RowKit
def KeptS (p:Nat->Prop) (w:World) (v:Value) (ns:List ByteArray):Prop:=SlAt (only w p) w.heap.size 1 StrR v ns
theorem KeptS.to {p q:Nat->Prop} {w w':World} {v:Value} {ns:List ByteArray} (h:KeptS p w v ns) (hb:∀ b,p b->b < w.heap.size->q b/\w'.heap[b]?= w.heap[b]?) (hs:w.heap.size<=w'.heap.size):KeptS q w' v ns:=
 (SlAt.cells h (z4V hb) fun _ _ _ h=>h).more hs
theorem z0y {α:Type} {T:TypeId} {k base b:Nat} {enc:α->List Value} {w:World} {v:Value} {l:List α} (h:OwnSl T k enc w base v l) (hb:v.ownBlock= some b):b < w.heap.size:=by
 rcases h.2 with ⟨rfl,_⟩|⟨g,C,G,rfl,_,A,_⟩
 ·cases hb
 ·have:g= b:=by simpa [Value.ownBlock] using hb
  subst this;rcases Nat.lt_or_ge g w.heap.size with h2|h2
  ·exact h2
  ·rw[Array.getElem?_eq_none h2] at A;cases A
theorem z7w {w w':World} {v:Value} {ns:List ByteArray} (hs:∀ s∈ns,s.size<=maxLen) (hl:ns.length<=9223372036854775807) (h:w'.ownsRow w.heap.size 9 1 v ns.length (ns.map (Value.string))):KeptS (fun b=>w.heap.size<=b) w' v ns:=by
 refine⟨hl,?_⟩;have G:OwnSl 9 1 (fun s:ByteArray=>[Value.string s]) w' w.heap.size v ns:=by
  have e:ns.map (Value.string)= flat (fun s:ByteArray=>[Value.string s]) ns:=by
   clear hs hl h
   induction ns with
   |nil=>rfl
   |cons a l ih=>
    show Value.string a::l.map (Value.string)= Value.string a::flat (fun s:ByteArray=>[Value.string s]) l;rw[ih]
  unfold OwnSl;rw[← e];exact h
 rcases h.2 with ⟨rfl,h0⟩|⟨g,C,N,K,O,_,_⟩
 ·exact⟨none,0,by rw[h0],fun h1=>by omega⟩
 ·refine⟨some ⟨g,0,none⟩,C,K,fun _=> ?_⟩
  have A:v.ownBlock= some g:=by rw[K];rfl
  refine⟨g,0,rfl,z0y G A,fun i x hx=>⟨[.string x],rfl,fun j u hu=> ?_,rfl,hs x (List.mem_of_getElem? hx)⟩⟩;refine zx.2 ⟨O,?_⟩;have:=World.ownsRow.cells G A (i*1+j) u (z0Z (enc:=fun s:ByteArray=>[Value.string s]) (fun _=>rfl) ns i x hx j u hu);rw[Addr.add_mid] at this;rw[show 0+i*1+j= 0+ (i*1+j) by omega];exact this
theorem z1z (w:World) (vn:Value) (ns:List ByteArray) (h:SlAt w w.heap.size 1 StrR vn ns) (hl:ns.length*16<=reachBytes):
  Calls Tryz.prog 75 #[vn] w fun e w'=>∃ v',e= .returned v'/\Below w.heap.size w w'/\KeptS (fun b=>w.heap.size<=b) w' v' ns:=by
 obtain⟨h0,A,c,rfl,h1⟩:=h;have K:reachBytes= 140737488351232:=rfl;rcases Nat.eq_zero_or_pos ns.length with g|g
 ·obtain rfl:ns=[]:=List.eq_nil_of_length_eq_zero g
  cases A with
  |none=>exact(Tryz.slices_Clone_string_nil _ _ _).mono fun e u' h=>⟨_,h.1,by rw[h.2];exact Below.refl _ _,SlAt.nil _ _ _ _⟩
  |some ad=>exact(Tryz.slices_Clone_string_zero ad c w).mono fun e u' ⟨v',h1,h2,_,h3⟩=>⟨v',h1,h3,z7w (fun s hs=>by cases hs) (by simp) h2⟩
 ·obtain⟨b,o,rfl,G,h2⟩:=h1 g
  refine(Tryz.slices_Clone_string b o ns.length c ns w (Nat.le_refl _) (by omega) fun j hj=> ?_).mono fun e u' ⟨v',h5,h6,_,h7⟩=>⟨v',h5,h7,z7w (fun s hs=> ?_) h0 (by rwa [List.take_length] at h6)⟩
  ·obtain⟨cs,h3,h4,h5,h6⟩:=h2 j _ (List.getElem?_eq_getElem hj)
   subst h5;have:=h4 0 _ rfl;rw[Nat.mul_one,Nat.add_zero] at this;rw[List.getD_eq_getElem?_getD,List.getElem?_eq_getElem hj];exact this
  ·obtain⟨i,C⟩:=List.mem_iff_getElem?.1 hs
   obtain⟨cs,_,_,_,h6⟩:=h2 i s C;exact h6
end
section
open Go Go.RowKit
def eqN:List ByteArray->List ByteArray->Bool
 |[],[]=>true
 |a::l,b::r=>(a.toList ==b.toList) && eqN l r
 |_,_=>false
mutual
def sameE:ET->ET->Bool
 | .mk k s v ns its,.mk k' s' v' ns' its'=>(k ==k') && ((s.toList ==s'.toList) && ((ordV v v' ==0) && (((ns.length:Int) ==ns'.length) && (((its.length:Int) ==its'.length) && (eqN ns ns' && z0e its its')))))
def z0e:List ET->List ET->Bool
 |[],[]=>true
 |a::l,b::r=>sameE a b && z0e l r
 |[],_::_=>false
 |_::_,[]=>false
end
theorem zd8 {l r:List ET} {k:Nat} {x y:ET} (h:l[k]?= some x) (h':r[k]?= some y):z0e (l.drop k) (r.drop k)=(sameE x y && z0e (l.drop (k+1)) (r.drop (k+1))):=by
 obtain⟨h1,h2⟩:=List.getElem?_eq_some_iff.1 h;obtain⟨h3,h4⟩:=List.getElem?_eq_some_iff.1 h';rw[List.drop_eq_getElem_cons h1,List.drop_eq_getElem_cons h3,h2,h4,z0e]
theorem zbe {l r:List ET} (h:l.length= r.length):z0e (l.drop l.length) (r.drop l.length)= true:=by
 rw[List.drop_length,h,List.drop_length,z0e]
theorem z1N:∀ {l r:List ByteArray},eqN l r= true↔l= r
 |[],[]=>by simp[eqN]
 |[],_::_=>by simp[eqN]
 |_::_,[]=>by simp[eqN]
 |a::l,b::r=>by
  rw[eqN,Bool.and_eq_true,z1N,List.cons.injEq,beq_iff_eq]
  constructor
  ·rintro⟨h,h2⟩
   refine⟨?_,h2⟩
   rw[toList_eq,toList_eq] at h
   cases a
   cases b
   simp only at h
   rw[Array.toList_inj.1 h]
  ·rintro⟨rfl,h2⟩
   exact⟨rfl,h2⟩
theorem z6J (l r:List ByteArray):decide (l= r)= eqN l r:=by
 rw[Bool.eq_iff_iff,decide_eq_true_eq,z1N]
theorem zfV {l r:List ByteArray} (h:eqN l r= true):l.length= r.length:=by rw[z1N.1 h]
theorem z3W:∀ {l r:List ET},l.length≠r.length->z0e l r= false
 |[],[],h=>absurd rfl h
 |[],_::_,_=>by rw[z0e]
 |_::_,[],_=>by rw[z0e]
 |a::l,b::r,h=>by rw[z0e,z3W (l:=l) (r:=r) (by simpa using h),Bool.and_false]
theorem zbf {k k':Int} {s s':ByteArray} {v v':VT} {ns ns':List ByteArray} {its its':List ET}:
  sameE (.mk k s v ns its) (.mk k' s' v' ns' its')=((k ==k') && ((s.toList ==s'.toList) && ((ordV v v' ==0) && (eqN ns ns' && z0e its its')))):=by
 rw[sameE]
 congr 3
 cases h1:eqN ns ns' with
 |false=>simp
 |true=>
  have h1:=zfV h1;cases h2:z0e its its' with
  |false=>simp
  |true=>
   have h2:its.length= its'.length:=by
    rcases Decidable.em (its.length= its'.length) with h|h
    ·exact h
    ·rw[z3W h] at h2;cases h2
   simp[h1,h2]
mutual
def sameT:TT->TT->Bool
 | .mk k ns its,.mk k' ns' its'=>(k ==k') && (eqN ns ns' && z0j its its')
def z0j:List TT->List TT->Bool
 |[],[]=>true
 |a::l,b::r=>sameT a b && z0j l r
 |[],_::_=>false
 |_::_,[]=>false
end
theorem zd9 {l r:List TT} {k:Nat} {x y:TT} (h:l[k]?= some x) (h':r[k]?= some y):z0j (l.drop k) (r.drop k)=(sameT x y && z0j (l.drop (k+1)) (r.drop (k+1))):=by
 obtain⟨h1,h2⟩:=List.getElem?_eq_some_iff.1 h;obtain⟨h3,h4⟩:=List.getElem?_eq_some_iff.1 h';rw[List.drop_eq_getElem_cons h1,List.drop_eq_getElem_cons h3,h2,h4,z0j]
theorem zbg {l r:List TT} (h:l.length= r.length):z0j (l.drop l.length) (r.drop l.length)= true:=by
 rw[List.drop_length,h,List.drop_length,z0j]
theorem z6p:∀ {l r:List TT},l.length≠r.length->z0j l r= false
 |[],[],h=>absurd rfl h
 |[],_::_,_=>by rw[z0j]
 |_::_,[],_=>by rw[z0j]
 |a::l,b::r,h=>by rw[z0j,z6p (l:=l) (r:=r) (by simpa using h),Bool.and_false]
end
end Go.Proofs.YtpmjcbjdcjjplaaGreatDoor
