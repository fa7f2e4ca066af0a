/- Parts of a proof: E10A, E10D, E10N. -/
import Derived.Test.YtpmjcbjdcjjplaaGreatDoorPackS27
import Derived.Test.YtpmjcbjdcjjplaaGreatDoorPackS30
set_option maxHeartbeats 8000000
set_option maxRecDepth 100000
set_option linter.unusedVariables false
set_option linter.unusedSimpArgs false
namespace Go.Proofs.YtpmjcbjdcjjplaaGreatDoor
section
open Go Go.RowKit
abbrev panE (n:Int):Ending:= .panicked [{ v:= .iface 51 (.int .i64 n),recovered:=false }]
def zV6:List Value:=valC 0 0 0 ⟨#[]⟩
theorem z0A:(#[Value.int IntKind.i64 0,Value.int IntKind.i64 0,Value.float FloatKind.f64 0,Value.string { data:= #[] },Value.slice none 0 0,Value.slice none 0 0]:Array Value)= zV6.toArray:=rfl
theorem z06 (k n:Int) (f:Nat) (s:ByteArray):∀ v∈valC k n f s,v.oneCell'= true:=by
 intro u hu;simp only[valC,List.mem_cons,List.not_mem_nil,or_false] at hu;rcases hu with rfl|rfl|rfl|rfl|rfl|rfl<;>rfl
theorem zt (n:Int) (w:World):Calls Tryz.prog 34 #[.bool true,.int .i64 n] w fun e w'=>e= .returned (.tuple #[])/\w'= w:=by
 go_enter Tryz.func34,Tryz.ntmps34;go_wp2;refine bodyPost_end (results_none rfl _ _ _) rfl ?_;exact⟨rfl,rfl⟩
theorem zJ (n:Int) (w:World):Calls Tryz.prog 34 #[.bool false,.int .i64 n] w fun e w'=>e= panE n/\w'= w:=by
 go_enter Tryz.func34,Tryz.ntmps34;go_wp2;exact⟨rfl,rfl,rfl⟩
theorem z1S (n:Int) (w:World):Calls Tryz.prog 120 #[.int .i64 n] w fun e w'=>e= .returned (.agg ⟨valC 2 n 0 ⟨#[]⟩⟩)/\Below w.heap.size w w':=by
 go_enter Tryz.func120,Tryz.ntmps120;go_upto_region 1 with (fail);have C:=I (Whole.new w zV6 39);have g:=I (zc w (.cells zV6.toArray 39));rw[z0A];generalize w.alloc (.cells zV6.toArray 39)= W at*;go_wp2_with (first|((with_reducible refine zi 39 _ _ rfl rfl ?_ C.o (valC 2 n 0 ⟨#[]⟩) ?_ ?_ ?_ ?_ ?_ ?_);exact wA rfl;rfl;rfl;rfl;kernel_rfl;exact z06 _ _ _ _;intro Z G A))
 (try simp only[Exit.inBlock,Exit.then])
 refine bodyPost_ret (zk rfl Tryz.underlying39 rfl _ _ w.heap.size (valC 2 n 0 ⟨#[]⟩) (by kernel_rfl) rfl G.o.range) rfl ?_;exact⟨rfl,g.o.trans (A.o.below g.o.size (Nat.le_refl _) (Nat.le_refl _))⟩
theorem zeD (s:ByteArray) (w:World):Calls Tryz.prog 122 #[.string s] w fun e w'=>e= .returned (.agg ⟨valC 4 0 0 s⟩)/\Below w.heap.size w w':=by
 go_enter Tryz.func122,Tryz.ntmps122;go_upto_region 1 with (fail);have C:=I (Whole.new w zV6 39);have g:=I (zc w (.cells zV6.toArray 39));rw[z0A];generalize w.alloc (.cells zV6.toArray 39)= W at*;go_wp2_with (first|((with_reducible refine zi 39 _ _ rfl rfl ?_ C.o (valC 4 0 0 s) ?_ ?_ ?_ ?_ ?_ ?_);exact wA rfl;rfl;rfl;rfl;kernel_rfl;exact z06 _ _ _ _;intro Z G A))
 (try simp only[Exit.inBlock,Exit.then])
 refine bodyPost_ret (zk rfl Tryz.underlying39 rfl _ _ w.heap.size (valC 4 0 0 s) (by kernel_rfl) rfl G.o.range) rfl ?_;exact⟨rfl,g.o.trans (A.o.below g.o.size (Nat.le_refl _) (Nat.le_refl _))⟩
theorem zdS (w:World):Calls Tryz.prog 73 #[.bool true] w fun e w'=>e= .returned (.agg ⟨valC 1 1 0 ⟨#[]⟩⟩)/\Below w.heap.size w w':=by
 go_enter Tryz.func73,Tryz.ntmps73;go_upto_region 1 with (fail);have C:=I (Whole.new w zV6 39);have g:=I (zc w (.cells zV6.toArray 39));rw[z0A];generalize w.alloc (.cells zV6.toArray 39)= W at*;go_wp2_with (first|((with_reducible refine zi 39 _ _ rfl rfl ?_ C.o (valC 1 1 0 ⟨#[]⟩) ?_ ?_ ?_ ?_ ?_ ?_);exact wA rfl;rfl;rfl;rfl;kernel_rfl;exact z06 _ _ _ _;intro Z G A))
 (try simp only[Exit.inBlock,Exit.then])
 refine bodyPost_ret (zk rfl Tryz.underlying39 rfl _ _ w.heap.size (valC 1 1 0 ⟨#[]⟩) (by kernel_rfl) rfl G.o.range) rfl ?_;exact⟨rfl,g.o.trans (A.o.below g.o.size (Nat.le_refl _) (Nat.le_refl _))⟩
theorem zfs (w:World):Calls Tryz.prog 73 #[.bool false] w fun e w'=>e= .returned (.agg ⟨valC 1 0 0 ⟨#[]⟩⟩)/\Below w.heap.size w w':=by
 go_enter Tryz.func73,Tryz.ntmps73;go_upto_region 1 with (fail);have C:=I (Whole.new w zV6 39);have g:=I (zc w (.cells zV6.toArray 39));rw[z0A];generalize w.alloc (.cells zV6.toArray 39)= W at*;go_wp2_with (first|((with_reducible refine zi 39 _ _ rfl rfl ?_ C.o (valC 1 0 0 ⟨#[]⟩) ?_ ?_ ?_ ?_ ?_ ?_);exact wA rfl;rfl;rfl;rfl;kernel_rfl;exact z06 _ _ _ _;intro Z G A))
 (try simp only[Exit.inBlock,Exit.then])
 refine bodyPost_ret (zk rfl Tryz.underlying39 rfl _ _ w.heap.size (valC 1 0 0 ⟨#[]⟩) (by kernel_rfl) rfl G.o.range) rfl ?_;exact⟨rfl,g.o.trans (A.o.below g.o.size (Nat.le_refl _) (Nat.le_refl _))⟩
theorem z8v (f:Nat) (w:World):Calls Tryz.prog 117 #[.float .f64 f] w fun e w'=>e= .returned (.agg ⟨valC 3 0 (zu f) ⟨#[]⟩⟩)/\Below w.heap.size w w':=by
 go_enter Tryz.func117,Tryz.ntmps117;go_upto_region 1 with (fail);have C:=I (Whole.new w zV6 39);have g:=I (zc w (.cells zV6.toArray 39));rw[z0A];generalize w.alloc (.cells zV6.toArray 39)= W at*;go_wp2_with (first|(go_at_call 78;refine ze (z0m f _) ?_)|((with_reducible refine zi 39 _ _ rfl rfl ?_ C.o (valC 3 0 (zu f) ⟨#[]⟩) ?_ ?_ ?_ ?_ ?_ ?_);exact wA rfl;rfl;rfl;rfl;kernel_rfl;exact z06 _ _ _ _;intro Z G A))
 (try simp only[Exit.inBlock,Exit.then])
 refine bodyPost_ret (zk rfl Tryz.underlying39 rfl _ _ w.heap.size (valC 3 0 (zu f) ⟨#[]⟩) (by kernel_rfl) rfl G.o.range) rfl ?_;exact⟨rfl,g.o.trans (A.o.below g.o.size (Nat.le_refl _) (Nat.le_refl _))⟩
theorem zdR (b:Bool) (w:World):Calls Tryz.prog 73 #[.bool b] w fun e w'=>e= .returned (.agg ⟨valC 1 (if b= true then 1 else 0) 0 ⟨#[]⟩⟩)/\Below w.heap.size w w':=by
 cases b with
 |true=>exact zdS w
 |false=>exact zfs w
end
section
open Go Go.RowKit
theorem z2c {n:Nat} (h1:n < 2 ^ 64) (h2:9218868437227405312 < n % 9223372036854775808):zu n= 9221120237041090560:=by
 unfold zu;rw[z1c,decide_eq_true ((z2U h1).2 h2),if_pos rfl]
theorem zeH (a b:Nat) (w:World):Calls Tryz.prog 156 #[.float .f64 a,.float .f64 b] w fun e w'=>e= .returned (.float .f64 (fopV .add a b))/\Below w.heap.size w w':=by
 cases h:floatBits .add .f64 a b with
 |some r=>
  have g:fopV .add a b= zu r:=by unfold fopV;rw[h]
  rw[g];have C:∀ W:World,(binOp .add 37 (.float .f64 a) (.float .f64 b)).run Tryz.prog W= .ok (.float .f64 r) W:=fun W=>run_float_arith W .add 37 .f64 a b r h;clear g h;go_enter Tryz.func156,Tryz.ntmps156;go_wp2_with (go_at_call 78;refine ze (z0m r _) ?_);go_ret;exact⟨rfl,Below.refl _ _⟩
 |none=>
  have g:fopV .add a b= 9221120237041090560:=by unfold fopV;rw[h]
  rw[g];obtain⟨n,n1,n2,n3⟩:=z13 .add (.inl rfl) 37 a b h w;have A:=I (z2c n1 n2);clear g h n1 n2;go_enter Tryz.func156,Tryz.ntmps156;go_wp2_with (go_at_call 78;refine ze (z0m n _) ?_);go_ret;refine⟨?_,(Below.refl _ _).drew⟩;show Ending.returned (Value.float .f64 (zu n))= _;rw[A.o]
theorem zeL (a b:Nat) (w:World):Calls Tryz.prog 157 #[.float .f64 a,.float .f64 b] w fun e w'=>e= .returned (.float .f64 (fopV .sub a b))/\Below w.heap.size w w':=by
 cases h:floatBits .sub .f64 a b with
 |some r=>
  have g:fopV .sub a b= zu r:=by unfold fopV;rw[h]
  rw[g];have C:∀ W:World,(binOp .sub 37 (.float .f64 a) (.float .f64 b)).run Tryz.prog W= .ok (.float .f64 r) W:=fun W=>run_float_arith W .sub 37 .f64 a b r h;clear g h;go_enter Tryz.func157,Tryz.ntmps157;go_wp2_with (go_at_call 78;refine ze (z0m r _) ?_);go_ret;exact⟨rfl,Below.refl _ _⟩
 |none=>
  have g:fopV .sub a b= 9221120237041090560:=by unfold fopV;rw[h]
  rw[g];obtain⟨n,n1,n2,n3⟩:=z13 .sub (.inr (.inl rfl)) 37 a b h w;have A:=I (z2c n1 n2);clear g h n1 n2;go_enter Tryz.func157,Tryz.ntmps157;go_wp2_with (go_at_call 78;refine ze (z0m n _) ?_);go_ret;refine⟨?_,(Below.refl _ _).drew⟩;show Ending.returned (Value.float .f64 (zu n))= _;rw[A.o]
theorem zeJ (a b:Nat) (w:World):Calls Tryz.prog 158 #[.float .f64 a,.float .f64 b] w fun e w'=>e= .returned (.float .f64 (fopV .mul a b))/\Below w.heap.size w w':=by
 cases h:floatBits .mul .f64 a b with
 |some r=>
  have g:fopV .mul a b= zu r:=by unfold fopV;rw[h]
  rw[g];have C:∀ W:World,(binOp .mul 37 (.float .f64 a) (.float .f64 b)).run Tryz.prog W= .ok (.float .f64 r) W:=fun W=>run_float_arith W .mul 37 .f64 a b r h;clear g h;go_enter Tryz.func158,Tryz.ntmps158;go_wp2_with (go_at_call 78;refine ze (z0m r _) ?_);go_ret;exact⟨rfl,Below.refl _ _⟩
 |none=>
  have g:fopV .mul a b= 9221120237041090560:=by unfold fopV;rw[h]
  rw[g];obtain⟨n,n1,n2,n3⟩:=z13 .mul (.inr (.inr (.inl rfl))) 37 a b h w;have A:=I (z2c n1 n2);clear g h n1 n2;go_enter Tryz.func158,Tryz.ntmps158;go_wp2_with (go_at_call 78;refine ze (z0m n _) ?_);go_ret;refine⟨?_,(Below.refl _ _).drew⟩;show Ending.returned (Value.float .f64 (zu n))= _;rw[A.o]
theorem zeI (a b:Nat) (w:World):Calls Tryz.prog 159 #[.float .f64 a,.float .f64 b] w fun e w'=>e= .returned (.float .f64 (fopV .quo a b))/\Below w.heap.size w w':=by
 cases h:floatBits .quo .f64 a b with
 |some r=>
  have g:fopV .quo a b= zu r:=by unfold fopV;rw[h]
  rw[g];have C:∀ W:World,(binOp .quo 37 (.float .f64 a) (.float .f64 b)).run Tryz.prog W= .ok (.float .f64 r) W:=fun W=>run_float_arith W .quo 37 .f64 a b r h;clear g h;go_enter Tryz.func159,Tryz.ntmps159;go_wp2_with (go_at_call 78;refine ze (z0m r _) ?_);go_ret;exact⟨rfl,Below.refl _ _⟩
 |none=>
  have g:fopV .quo a b= 9221120237041090560:=by unfold fopV;rw[h]
  rw[g];obtain⟨n,n1,n2,n3⟩:=z13 .quo (.inr (.inr (.inr rfl))) 37 a b h w;have A:=I (z2c n1 n2);clear g h n1 n2;go_enter Tryz.func159,Tryz.ntmps159;go_wp2_with (go_at_call 78;refine ze (z0m n _) ?_);go_ret;refine⟨?_,(Below.refl _ _).drew⟩;show Ending.returned (Value.float .f64 (zu n))= _;rw[A.o]
theorem zeK (a:Nat) (w:World):Calls Tryz.prog 123 #[.float .f64 a] w fun e w'=>e= .returned (.float .f64 (zu (unV.fNeg a)))/\w'= w:=by
 have g:∀ W:World,(Op.unary .neg (.float .f64 a)).run Tryz.prog W= .ok (.float .f64 (unV.fNeg a)) W:=fun W=>by kernel_rfl
 go_enter Tryz.func123,Tryz.ntmps123;go_wp2_with (go_at_call 78;refine ze (z0m (unV.fNeg a) _) ?_);go_ret;exact⟨rfl,rfl⟩
theorem zce (a b:Nat) (w:World):Calls Tryz.prog 153 #[.float .f64 a,.float .f64 b] w fun e w'=>e= .returned (.bool (fLess a b))/\w'= w:=by
 have h:fLess a b=(FloatKind.f64.format.order a b ==some .lt):=rfl;cases hb:fLess a b with
 |true=>
  rw[hb] at h;have h2:=h.symm;clear h hb;go_enter Tryz.func153,Tryz.ntmps153;go_wp2;go_ret;exact⟨by simp[h2],rfl⟩
 |false=>
  rw[hb] at h;have h2:=h.symm;clear h hb;go_enter Tryz.func153,Tryz.ntmps153;go_wp2;go_ret;exact⟨by simp[h2],rfl⟩
theorem zaN (a b:Nat) (w:World):Calls Tryz.prog 149 #[.float .f64 a,.float .f64 b] w fun e w'=>e= .returned (.bool (fEql a b))/\w'= w:=by
 have h:fEql a b=(FloatKind.f64.format.order a b ==some .eq):=rfl;cases hb:fEql a b with
 |true=>
  rw[hb] at h;have h2:=h.symm;clear h hb;go_enter Tryz.func149,Tryz.ntmps149;go_wp2;go_ret;exact⟨by simp[h2],rfl⟩
 |false=>
  rw[hb] at h;have h2:=h.symm;clear h hb;go_enter Tryz.func149,Tryz.ntmps149;go_wp2;go_ret;exact⟨by simp[h2],rfl⟩
theorem z8r (n:Int) (w:World):Calls Tryz.prog 118 #[.int .i64 n] w fun e w'=>e= .returned (.float .f64 (floatOfInt .f64 n))/\w'= w:=by
 have g:∀ W:World,(convert 2 37 (.int .i64 n)).run Tryz.prog W= .ok (.float .f64 (floatOfInt .f64 n)) W:=fun W=>run_convert_int_float W 2 37 .i64 .f64 n (by rw[Tryz.underlying2];rfl) Tryz.underlying37;go_enter Tryz.func118,Tryz.ntmps118;go_wp2;go_ret;exact⟨rfl,rfl⟩
theorem zeo (s:Bool) (n drop:Nat):Ieee.Toward.zero.cut s n drop*2 ^ drop<=n:=by
 unfold Ieee.Toward.cut;simp only[Bool.toNat_false,Nat.add_zero,Nat.one_shiftLeft];by_cases h:drop<=n.log2+2
 ·rw[Nat.min_eq_left h]
  exact Nat.div_mul_le_self n _
 ·rw[Nat.min_eq_right (by omega)]
  have:n < 2 ^ (n.log2+2):=Nat.lt_of_lt_of_le (Nat.lt_log2_self) (Nat.pow_le_pow_right (by omega) (by omega));rw[Nat.div_eq_of_lt this];omega
theorem z4h (a b:Int):compare a b= compareOfLessAndEq a b:=rfl
theorem z8b {a b:Int} (h:compare a b= .lt):a < b:=by
 have:=z4h a b;unfold compareOfLessAndEq at this;by_cases h1:a < b
 ·exact h1
 ·rw[if_neg h1] at this
  split at this<;>(rw[this] at h;cases h)
theorem z8a {a b:Int} (h:compare a b= .gt\/compare a b= .eq):b<=a:=by
 have:=z4h a b;unfold compareOfLessAndEq at this;by_cases h1:a < b
 ·rw[if_pos h1] at this
  rw[this] at h;rcases h with h|h<;>cases h
 ·omega
def loB:Nat:=14114281232179134464
def hiB:Nat:=4890909195324358656
theorem zgl:FloatKind.f64.decode loB= .number true 4503599627370496 11:=by decide +kernel
theorem zgk:FloatKind.f64.decode hiB= .number false 4503599627370496 11:=by decide +kernel
theorem z96 (m k:Nat):m <<< k= m*2 ^ k:=Nat.shiftLeft_eq m k
theorem zfS {t:Nat} (h1:FloatKind.f64.format.order t loB= some .gt\/FloatKind.f64.format.order t loB= some .eq) (h2:FloatKind.f64.format.order t hiB= some .lt):∃ n,floatToIntVal .f64 t .i64= some n:=by
 have e1:FloatKind.f64.format.order t loB=(FloatKind.f64.decode t).order (.number true 4503599627370496 11):=by rw[← zgl];rfl
 have e2:FloatKind.f64.format.order t hiB=(FloatKind.f64.decode t).order (.number false 4503599627370496 11):=by rw[← zgk];rfl
 rw[e1] at h1;rw[e2] at h2;unfold floatToIntVal Ieee.Datum.toInt;cases hd:FloatKind.f64.decode t with
 |nan s f=>rw[hd] at h2;simp[Ieee.Datum.order] at h2
 |infinity s=>
  rw[hd] at h1 h2;cases s<;>simp[Ieee.Datum.order] at h1 h2
 |number s m i=>
  rw[hd] at h1 h2;simp only[Ieee.Datum.order,Option.some.injEq] at h1 h2;have A:=zeo s (m <<< i.toNat) (-i).toNat;show ∃ n,(if IntKind.i64.min<=Ieee.signed s (Ieee.Toward.zero.cut s (m <<< i.toNat) (-i).toNat) 0/\Ieee.signed s (Ieee.Toward.zero.cut s (m <<< i.toNat) (-i).toNat) 0<=IntKind.i64.max then some (Ieee.signed s (Ieee.Toward.zero.cut s (m <<< i.toNat) (-i).toNat) 0) else none)= some n;generalize Ieee.Toward.zero.cut s (m <<< i.toNat) (-i).toNat= M at*;have K:IntKind.i64.min= -9223372036854775808:=rfl;have G:IntKind.i64.max= 9223372036854775807:=rfl;refine⟨_,if_pos ?_⟩;rw[K,G];unfold Ieee.signed at h1 h2 ⊢;simp only[Nat.shiftLeft_zero];have O:M<=9223372036854775808/\(s= false->M<=9223372036854775807):=by
   rw[z96] at A;by_cases hi:11<=i
   ·have N:min i 11= 11:=by omega
    rw[N] at h1 h2;obtain⟨k,rfl⟩:∃ k:Nat,i= 11+ (k:Int):=⟨(i - 11).toNat,by omega⟩;have t1:(11+ (k:Int) - 11).toNat= k:=by omega
    have t2:(11+ (k:Int)).toNat= 11+k:=by omega
    have t3:(-(11+ (k:Int))).toNat= 0:=by omega
    rw[t1,z96] at h1 h2;rw[t2,t3,Nat.pow_zero,Nat.mul_one,Nat.pow_add] at A;have hp:m* (2 ^ 11*2 ^ k)=(m*2 ^ k) *2048:=by rw[show(2:Nat) ^ 11= 2048 from rfl,Nat.mul_comm 2048,Nat.mul_assoc]
    rw[hp] at A;generalize m*2 ^ k= z at*;cases s with
    |false=>
     simp only[Bool.false_eq_true,if_false] at h2
     replace h2:=z8b h2
     simp at h2;exact⟨by omega,fun _=>by omega⟩
    |true=>
     simp only[if_true] at h1
     replace h1:=z8a h1
     simp at h1;exact⟨by omega,fun h=>by cases h⟩
   ·have N:min i 11= i:=by omega
    rw[N] at h1 h2;have t1:(i - i).toNat= 0:=by omega
    rw[t1] at h1 h2;simp only[Nat.shiftLeft_zero,z96] at h1 h2;by_cases h0:0<=i
    ·obtain⟨k,rfl⟩:∃ k:Nat,i=(k:Int):=⟨i.toNat,by omega⟩
     have t2:((k:Int)).toNat= k:=by omega
     have t3:(-(k:Int)).toNat= 0:=by omega
     have t4:(11 - (k:Int)).toNat= 11 - k:=by omega
     rw[t2,t3,Nat.pow_zero,Nat.mul_one] at A;rw[t4] at h1 h2;have Y:2 ^ (11 - k) *2 ^ k= 2048:=by rw[← Nat.pow_add,show 11 - k+k= 11 by omega]
     have C:m<=4503599627370496*2 ^ (11 - k)/\(s= false->m < 4503599627370496*2 ^ (11 - k)):=by
      generalize 4503599627370496*2 ^ (11 - k)= z at*;cases s with
      |false=>
       simp only[Bool.false_eq_true,if_false] at h2
       replace h2:=z8b h2
       exact⟨by omega,fun _=>by omega⟩
      |true=>
       simp only[if_true] at h1
       replace h1:=z8a h1
       exact⟨by omega,fun h=>by cases h⟩
     have X:4503599627370496*2 ^ (11 - k) *2 ^ k= 9223372036854775808:=by rw[Nat.mul_assoc,Y]
     have g:0 < 2 ^ k:=Nat.pow_pos (by omega);refine⟨?_,fun hs=> ?_⟩
     ·have:=Nat.mul_le_mul_right (2 ^ k) C.1;omega
     ·have:=Nat.mul_lt_mul_of_pos_right (C.2 hs) g;omega
    ·obtain⟨k,rfl⟩:∃ k:Nat,i= -(k:Int):=⟨(-i).toNat,by omega⟩
     have t2:(-(k:Int)).toNat= 0:=by omega
     have t3:(- -(k:Int)).toNat= k:=by omega
     have t4:(11 - -(k:Int)).toNat= 11+k:=by omega
     rw[t2,t3,Nat.pow_zero,Nat.mul_one] at A;rw[t4,Nat.pow_add] at h1 h2;have C:m<=9223372036854775808*2 ^ k/\(s= false->m < 9223372036854775808*2 ^ k):=by
      have X:4503599627370496* (2 ^ 11*2 ^ k)= 9223372036854775808*2 ^ k:=by rw[← Nat.mul_assoc]
      rw[X] at h1 h2;generalize 9223372036854775808*2 ^ k= z at*;cases s with
      |false=>
       simp only[Bool.false_eq_true,if_false] at h2
       replace h2:=z8b h2
       exact⟨by omega,fun _=>by omega⟩
      |true=>
       simp only[if_true] at h1
       replace h1:=z8a h1
       exact⟨by omega,fun h=>by cases h⟩
     have g:0 < 2 ^ k:=Nat.pow_pos (by omega);refine⟨Nat.le_of_mul_le_mul_right (Nat.le_trans A C.1) g,fun hs=> ?_⟩;have:=Nat.lt_of_mul_lt_mul_right (Nat.lt_of_le_of_lt A (C.2 hs));omega
  cases s with
  |false=>have:=O.2 rfl;simp;omega
  |true=>have:=O.1;simp;omega
theorem zgf (s:Bool) (t:Nat):nanB (FloatKind.f64.encode (.nan s (FloatKind.f64.format.quiet t)))= true:=by
 have C:(t ||| 2251799813685248) % 4503599627370496≠0:=fun h=>by
  have h1:((t ||| 2251799813685248) % 2 ^ 52).testBit 51= true:=by
   rw[Nat.testBit_mod_two_pow,Nat.testBit_or];have:(2251799813685248:Nat).testBit 51= true:=by decide +kernel
   rw[this];simp
  rw[show(2:Nat) ^ 52= 4503599627370496 from rfl,h] at h1;simp at h1
 have A:(t ||| 2251799813685248) % 4503599627370496 < 4503599627370496:=Nat.mod_lt _ (by decide);have g:FloatKind.f64.encode (.nan s (FloatKind.f64.format.quiet t))= if s= true then 9223372036854775808+ (9218868437227405312+ (t ||| 2251799813685248) % 4503599627370496) else 9218868437227405312+ (t ||| 2251799813685248) % 4503599627370496:=rfl;rw[g];generalize (t ||| 2251799813685248) % 4503599627370496= q at*;have h64:(2:Nat) ^ 64= 18446744073709551616:=rfl;cases s with
 |true=>
  rw[if_pos rfl,z1c,decide_eq_true ((z2U (by rw[h64];omega)).2 (by omega))]
 |false=>
  rw[if_neg (by decide),z1c,decide_eq_true ((z2U (by rw[h64];omega)).2 (by omega))]
theorem z7y (f:Nat):nanB f=(FloatKind.f64.decode f).isNaN:=by
 have h:nanB f=((FloatKind.f64.decode f).order (FloatKind.f64.decode f) !=some .eq):=rfl;rw[h];cases FloatKind.f64.decode f with
 |nan s t=>rfl
 |infinity s=>cases s<;>rfl
 |number s m i=>simp[Ieee.Datum.order,Ieee.Datum.isNaN]
theorem z1E (f:Nat):Extern.MathFloor.toIntegral "math.archTrunc" .zero #[.float .f64 f]=(match FloatKind.f64.decode f with
  | .nan s t=>
   if FloatKind.f64.format.quiet t= t then pure (.float .f64 f) else do
   let kept ← choose (.extern "math.Floor,Ceil,Trunc,RoundToEven.signallingNaN kept" 2)
   pure (.float .f64 (if kept ==1 then f else FloatKind.f64.encode (.nan s (FloatKind.f64.format.quiet t))))
  |d=>pure (.float .f64 (FloatKind.f64.encode (d.integral .zero)))):=rfl
theorem zdQ (f : Nat) (w : World) : ∃ t w', ((callFunc 184 #[.float .f64 f]).run Tryz.prog w = .ok (.value (.float .f64 t)) w') /\ Below w.heap.size w w' /\ ((nanB f = true /\ nanB t = true) \/ (nanB f = false /\ t = z2w f /\ w' = w)) := by
  rw [run_callFunc_extern Tryz.func184 (by kernel_rfl) (by kernel_rfl) (by kernel_rfl) (e := Extern.MathFloor.toIntegral "math.archTrunc" .zero) (by kernel_rfl)];have g := z7y f;have C : z2w f = FloatKind.f64.encode ((FloatKind.f64.decode f).integral .zero) := rfl;cases hd : FloatKind.f64.decode f with
  | nan s t =>
    rw [hd] at g;by_cases hq : FloatKind.f64.format.quiet t = t
    · refine ⟨f, w, ?_, Below.refl _ _, .inl ⟨g, g⟩⟩
      rw [z1E, hd];simp only [if_pos hq];rfl
    · have A : ((do
          let kept ← choose (.extern "math.Floor,Ceil,Trunc,RoundToEven.signallingNaN kept" 2)
          pure (Value.float .f64 (if kept == 1 then f else FloatKind.f64.encode (.nan s (FloatKind.f64.format.quiet t)))) : Sem Value).run Tryz.prog w).andThen (fun v w' => Result.ok (Next.value v) w') = .ok (.value (.float .f64 (if (Question.cut (.extern "math.Floor,Ceil,Trunc,RoundToEven.signallingNaN kept" 2) (w.tape w.drawn (.extern "math.Floor,Ceil,Trunc,RoundToEven.signallingNaN kept" 2)) == 1) = true then f else FloatKind.f64.encode (.nan s (FloatKind.f64.format.quiet t))))) w.drew := rfl
      rw [z1E, hd];simp only [if_neg hq];by_cases hk : (Question.cut (.extern "math.Floor,Ceil,Trunc,RoundToEven.signallingNaN kept" 2) (w.tape w.drawn (.extern "math.Floor,Ceil,Trunc,RoundToEven.signallingNaN kept" 2)) == 1) = true
      · rw [if_pos hk] at A
        exact ⟨f, w.drew, A, (Below.refl _ _).drew, .inl ⟨g, g⟩⟩
      · rw [if_neg hk] at A
        exact ⟨_, w.drew, A, (Below.refl _ _).drew, .inl ⟨g, zgf s t⟩⟩
  | infinity s =>
    rw [hd] at g C;exact ⟨_, w, by rw [z1E, hd]; rfl, Below.refl _ _, .inr ⟨g, C.symm, rfl⟩⟩
  | number s m i =>
    rw [hd] at g C;exact ⟨_, w, by rw [z1E, hd]; rfl, Below.refl _ _, .inr ⟨g, C.symm, rfl⟩⟩
theorem zdP (f:Nat) (w:World):Calls Tryz.prog 146 #[.float .f64 f] w fun e w'=>∃ t,e= .returned (.float .f64 t)/\Below w.heap.size w w'/\((nanB f= true/\nanB t= true)\/(nanB f= false/\t= z2w f)):=by
 obtain⟨t,w',h1,h2,h3⟩:=zdQ f w;have g:=I h2;have A:Hid ((nanB f= true/\nanB t= true)\/(nanB f= false/\t= z2w f)):=I (h3.imp id fun h=>⟨h.1,h.2.1⟩);clear h2 h3;go_enter Tryz.func146,Tryz.ntmps146;go_wp2;go_ret;exact⟨_,rfl,g.o,A.o⟩
def zgK (r:Option Int) (w:World) (e:Ending) (w':World):Prop:=((∃ n,r= some n/\e= .returned (.tuple #[.int .i64 n,.int .i64 0]))\/(r= none/\e= .returned (.tuple #[.int .i64 0,.int .i64 3])))/\Below w.heap.size w w'
theorem zdL (f:Nat) (w:World):Calls Tryz.prog 119 #[.float .f64 f] w (zgK (z22 f) w):=by
 have HT:=I (zdP f w);go_enter Tryz.func119,Tryz.ntmps119;go_upto_region 2 with (go_at_call 146;refine HT.o.mono ?_;rintro e z ⟨t,rfl,X,Y⟩;have C:=I X;have G:=I Y;clear X Y);by_cases hl:(FloatKind.f64.format.order t 14114281232179134464 ==some .gt || FloatKind.f64.format.order t 14114281232179134464 ==some .eq)= true
 ·by_cases hh:(FloatKind.f64.format.order t 4890909195324358656 ==some .lt)= true
  ·have A:nanB t= false:=by
    rw[z7y];have:FloatKind.f64.format.order t 4890909195324358656=(FloatKind.f64.decode t).order (FloatKind.f64.decode 4890909195324358656):=rfl;rw[this] at hh;cases hd:FloatKind.f64.decode t with
    |nan s q=>rw[hd] at hh;simp[Ieee.Datum.order] at hh
    |infinity s=>rfl
    |number s m i=>rfl
   obtain⟨n,O⟩:=zfS (t:=t) (by simpa [loB] using hl) (by simpa [hiB] using hh);have g:Hid (z22 f= some n):=I (by
    rcases G.o with ⟨_,h⟩|⟨h1,h2⟩
    ·rw[A] at h;cases h
    ·unfold z22
     rw[if_neg (by rw[h1];decide),← h2,if_pos (by rw[hl,hh];rfl),O])
   have a1:∀ W:World,(convert 37 2 (.float .f64 t)).run Tryz.prog W= .ok (.int .i64 n) W:=fun W=>run_convert_float_int W 37 2 .f64 .i64 t n (by rw[Tryz.underlying37];rfl) Tryz.underlying2 O;clear O A;go_wp2;go_ret2;exact⟨.inl ⟨n,g.o,rfl⟩,C.o⟩
  ·have K:(FloatKind.f64.format.order t 4890909195324358656 ==some .lt)= false:=by simpa using hh
   have g:Hid (z22 f= none):=I (by
    unfold z22;rcases G.o with ⟨h,_⟩|⟨h1,h2⟩
    ·rw[if_pos h]
    ·rw[if_neg (by rw[h1];decide),← h2,if_neg (by rw[K];simp)])
   clear hh;go_wp2;go_ret2;exact⟨.inr ⟨g.o,rfl⟩,C.o⟩
 ·have N:(FloatKind.f64.format.order t 14114281232179134464 ==some .gt || FloatKind.f64.format.order t 14114281232179134464 ==some .eq)= false:=by simpa using hl
  have g:Hid (z22 f= none):=I (by
   unfold z22;rcases G.o with ⟨h,_⟩|⟨h1,h2⟩
   ·rw[if_pos h]
   ·rw[if_neg (by rw[h1];decide),← h2,if_neg (by rw[N];simp)])
  clear hl;go_wp2;go_ret2;exact⟨.inr ⟨g.o,rfl⟩,C.o⟩
def zfF (r:Except Int Nat) (w:World) (e:Ending) (w':World):Prop:=((∃ n,r= .ok n/\e= .returned (.float .f64 n))\/(∃ c,r= .error c/\e= panE c))/\Below w.heap.size w w'
theorem zaP (a b:Nat) (w:World):Calls Tryz.prog 127 #[.int .i64 5,.float .f64 a,.float .f64 b] w fun e w'=>e= .returned (.float .f64 (fopV .add a b))/\Below w.heap.size w w':=by
 have HF:=I (zeH a b w);go_enter Tryz.func127,Tryz.ntmps127;go_wp2_with (go_at_call 156;refine zg HF.o ?_;intro z HB);go_ret;exact⟨rfl,HB.o⟩
theorem zaT (a b:Nat) (w:World):Calls Tryz.prog 127 #[.int .i64 6,.float .f64 a,.float .f64 b] w fun e w'=>e= .returned (.float .f64 (fopV .sub a b))/\Below w.heap.size w w':=by
 have HF:=I (zeL a b w);go_enter Tryz.func127,Tryz.ntmps127;go_wp2_with (go_at_call 157;refine zg HF.o ?_;intro z HB);go_ret;exact⟨rfl,HB.o⟩
theorem zaR (a b:Nat) (w:World):Calls Tryz.prog 127 #[.int .i64 7,.float .f64 a,.float .f64 b] w fun e w'=>e= .returned (.float .f64 (fopV .mul a b))/\Below w.heap.size w w':=by
 have HF:=I (zeJ a b w);go_enter Tryz.func127,Tryz.ntmps127;go_wp2_with (go_at_call 158;refine zg HF.o ?_;intro z HB);go_ret;exact⟨rfl,HB.o⟩
theorem zaS (a b:Nat) (w:World):Calls Tryz.prog 127 #[.int .i64 8,.float .f64 a,.float .f64 b] w fun e w'=>e= .returned (.float .f64 (fopV .quo a b))/\Below w.heap.size w w':=by
 have HF:=I (zeI a b w);go_enter Tryz.func127,Tryz.ntmps127;go_wp2_with (go_at_call 159;refine zg HF.o ?_;intro z HB);go_ret;exact⟨rfl,HB.o⟩
theorem zcg (k:Int) (a b:Nat) (h5:(k ==5)= false) (h6:(k ==6)= false) (h7:(k ==7)= false) (h8:(k ==8)= false) (w:World):Calls Tryz.prog 127 #[.int .i64 k,.float .f64 a,.float .f64 b] w fun e w'=>e= panE 6/\w'= w:=by
 go_enter Tryz.func127,Tryz.ntmps127;go_wp2;exact⟨rfl,rfl,rfl⟩
theorem zaQ (k:Int) (a b:Nat) (w:World):Calls Tryz.prog 127 #[.int .i64 k,.float .f64 a,.float .f64 b] w (zfF (z1a k a b) w):=by
 unfold z1a;by_cases k5:k= 5
 ·subst k5;exact(zaP a b w).mono fun e w' h=>⟨.inl ⟨_,rfl,h.1⟩,h.2⟩
 by_cases k6:k= 6
 ·subst k6;exact(zaT a b w).mono fun e w' h=>⟨.inl ⟨_,rfl,h.1⟩,h.2⟩
 by_cases k7:k= 7
 ·subst k7;exact(zaR a b w).mono fun e w' h=>⟨.inl ⟨_,rfl,h.1⟩,h.2⟩
 by_cases k8:k= 8
 ·subst k8;exact(zaS a b w).mono fun e w' h=>⟨.inl ⟨_,rfl,h.1⟩,h.2⟩
 rw[if_neg k5,if_neg k6,if_neg k7,if_neg k8];exact(zcg k a b (by simpa using k5) (by simpa using k6) (by simpa using k7) (by simpa using k8) w).mono fun e w' h=>⟨.inr ⟨_,rfl,h.1⟩,by rw[h.2];exact Below.refl _ _⟩
end
section
open Go Go.RowKit
theorem zcE (nm s:ByteArray) (lb:Int) (a b c d e f g i j:Value) (pb:Nat) (w:World) (hp:w.cell? ⟨pb,0,none⟩= some (.string s)) (hlp:pb < w.heap.size):
  Calls Tryz.prog 115 #[.agg #[.string nm,.int .i64 lb,a,b,c,d,e,f,g,i,j],.pointer (some ⟨pb,0,none⟩)] w fun r w'=>r= .returned (.bool (nm.toList ==s.toList))/\Below w.heap.size w w':=by
 have A:=I (zc w (.cells #[.string nm,.int .i64 lb,a,b,c,d,e,f,g,i,j] 41));have G:=I hp;have C:=I hlp;have d0:=zI w #[.string nm,.int .i64 lb,a,b,c,d,e,f,g,i,j] 41 0;simp only[List.getElem?_toArray,List.getElem?_cons_zero] at d0;clear hp hlp;go_enter Tryz.func115,Tryz.ntmps115;go_upto_region 1 with (fail);have d2:=(A.o.cell (p:=⟨pb,0,none⟩) C.o).trans G.o;generalize w.alloc (.cells #[.string nm,.int .i64 lb,a,b,c,d,e,f,g,i,j] 41)= W at*;go_wp2;go_ret;exact⟨rfl,A.o⟩
theorem zaV (E:List VarT) (s:ByteArray) (v:Value) (pb:Nat) (w:World) (hv:SlAt w w.heap.size 11 (VarAt w w.heap.size) v E) (hE:E.length<=10000) (hp:w.cell? ⟨pb,0,none⟩= some (.string s)) (hlp:pb < w.heap.size):
  Calls Tryz.prog 114 #[v,.func (.func 115) #[] #[.pointer (some ⟨pb,0,none⟩)]] w fun e w'=>e= .returned (.int .i64 (findV E s))/\Below w.heap.size w w':=by
 obtain⟨a9,EA,ec,rfl,a0⟩:=hv;have a4:=I a0;have a6:=I (fun nm lb a b c d e f g i j u (hu:Below w.heap.size w u)=>zcE nm s lb a b c d e f g i j pb u ((hu.cell (p:=⟨pb,0,none⟩) hlp).trans hp) (Nat.lt_of_lt_of_le hlp hu.size));clear hp hlp;have b4:(E.length:Int)<=10000:=by omega
 clear a0 a9;go_enter Tryz.func114,Tryz.ntmps114;go_wp2;go_loopg [8] E.length (fun q x u=>∃ j:Nat,j+q= E.length/\x= .int .i64 j/\Below w.heap.size w u/\∀ k,k < j->∀ e,E[k]?= some e->z2o s e= false);case atStart=>exact⟨0,by omega,rfl,Below.refl _ _,fun k hk=>absurd hk (Nat.not_lt_zero k)⟩
 case round=>
  obtain⟨jj,hj,rfl,hb,a2⟩:=hrel;have A:=I hb;have N:=I a2;clear hb a2;cases gk with
  |zero=>
   obtain rfl:jj= E.length:=by omega
   have b6: ¬ ((E.length:Int) <(E.length:Int)):=by omega
   have HR:Hid (findV E s= -1):=I (z5u fun k e O=>N.o k (List.getElem?_eq_some_iff.1 O).1 e O);go_wp2;go_ret;exact⟨by rw[HR.o];try rfl,A.o⟩
  |succ q=>
   have b5:(jj:Int) <(E.length:Int):=by omega
   obtain⟨x,O⟩:∃ e,E[jj]?= some e:=⟨_,List.getElem?_eq_getElem (by omega)⟩;obtain⟨bb,o,rfl,a8,hc⟩:=a4.o (by omega);obtain⟨ks,b0,a1,a3⟩:=hc jj x O;obtain⟨a,b,c,d,e,f,g,i,j,rfl⟩:=z9g a3;have X:=I (zb a1 A.o a8);have HE:=I O;have G:=I (a6.o x.name x.label a b c d e f g i j wr A.o);clear hc O a1 a3 b0;cases ho:(x.name.toList ==s.toList) with
   |true=>
    have HR:Hid (findV E s= jj):=I (z4n jj x HE.o ho fun k hk Y he'=>N.o k hk Y he');rw[ho] at G;clear ho;go_wp2_with (first|((with_reducible refine za tyK41 _ rfl ?_ X.o rfl ?_ ?_);exact wA rfl;rfl)|(go_at_call 115;refine G.o.mono ?_;rintro Y w4 ⟨rfl,C⟩;have K:=I C;clear C));go_ret;exact⟨by rw[HR.o];try rfl,(beT A.o K.o)⟩
   |false=>
    have a5:Hid (∀ k,k < jj+1->∀ e,E[k]?= some e->z2o s e= false):=I fun k hk Y he'=>by
     by_cases ek:k= jj
     ·subst ek
      have:=HE.o;rw[he'] at this;injection this with this;rw[this];exact ho
     ·exact N.o k (by omega) Y he'
    rw[ho] at G;clear ho;go_wp2_with (first|((with_reducible refine za tyK41 _ rfl ?_ X.o rfl ?_ ?_);exact wA rfl;rfl)|(go_at_call 115;refine G.o.mono ?_;rintro Y w4 ⟨rfl,C⟩;have K:=I C;clear C));go_roundg q;case measure=>omega
    case rel=>exact⟨jj+1,by omega,by go_num,(beT A.o K.o),a5.o⟩
theorem z7t (E:List VarT) (s:ByteArray):findV E s= -1\/(0<=findV E s/\findV E s <(E.length:Int)):=by
 induction E with
 |nil=>exact .inl rfl
 |cons a l ih=>
  unfold findV;split
  ·exact .inr ⟨by omega,by rw[List.length_cons];omega⟩
  ·split
   ·exact .inl rfl
   ·rcases ih with h|h
    ·contradiction
    ·exact .inr ⟨by omega,by rw[List.length_cons];omega⟩
def EvPost (r:Res) (w:World) (e:Ending) (w':World):Prop:=
 (∃ v cs,r= .ok v/\e= .returned (.agg ⟨cs⟩)/\Kept (fun b=>w.heap.size<=b) w' cs v/\zB v= true/\Below w.heap.size w w')\/(∃ n,r= .error n/\e= panE n/\Below w.heap.size w w')
structure MacAt (w:World) (mp:Nat) (va vb:Value) (E:List VarT) (V:List VT):Prop where
 lt:mp < w.heap.size
 cells:w.rangeAt mp 0 [va,vb]
 vars:SlAt w w.heap.size 11 (VarAt w w.heap.size) va E
 vals:SlAt w w.heap.size 6 (ValAt w w.heap.size) vb V
 few:E.length<=10000
 right:∀ v∈V,zB v= true
 tab:TabP w
theorem MacAt.below {w z:World} {mp:Nat} {va vb:Value} {E:List VarT} {V:List VT} (h:MacAt w mp va vb E V) (hb:Below w.heap.size w z):MacAt z mp va vb E V:=
 ⟨Nat.lt_of_lt_of_le h.lt hb.size,zb h.cells hb h.lt,(h.vars.below hb fun _ _ _ k=>(k.under hb).more hb.size).more hb.size,(h.vals.below hb fun _ _ _ k=>(k.under hb).more hb.size).more hb.size,h.few,h.right,h.tab.next hb⟩
theorem EvPost.from {r:Res} {w w1:World} {e:Ending} {w':World} (hb:Below w.heap.size w w1) (h:EvPost r w1 e w'):EvPost r w e w':=by
 rcases h with ⟨v,cs,C,A,K,G,g⟩|⟨n,C,A,g⟩
 ·exact .inl ⟨v,cs,C,A,K.to (fun b h1 h2=>⟨Nat.le_trans hb.size h1,rfl⟩) (Nat.le_refl _),G,(beT hb g)⟩
 ·exact .inr ⟨n,C,A,(beT hb g)⟩
end
end Go.Proofs.YtpmjcbjdcjjplaaGreatDoor
