/- Parts of a proof: Frexp. -/
import Derived.Test.YtpmjcbjdcjjplaaGreatDoorPackS10
import Derived.Test.YtpmjcbjdcjjplaaGreatDoorPackS19
set_option maxHeartbeats 8000000
set_option maxRecDepth 100000
set_option linter.unusedVariables false
set_option linter.unusedSimpArgs false
namespace Go.Proofs.YtpmjcbjdcjjplaaGreatDoor
open Go Go.RowKit
theorem zee (f:Nat) (hf:f < 2 ^ 64):bits .andNot .u64 (f:Int) 9223372036854775808=((f % 9223372036854775808:Nat):Int):=by
 have h:=u64_andNot_nat f 9223372036854775808 (by omega) (by decide);refine h.trans ?_;rw[show(18446744073709551615 - 9223372036854775808:Nat)= 2 ^ 63 - 1 by decide,Nat.and_two_pow_sub_one_eq_mod,show(2:Nat) ^ 63= 9223372036854775808 by decide]
theorem zfI {x:Nat} (h:x < 9223372036854775808):x &&& 2 ^ 63= 0:=by
 apply Nat.eq_of_testBit_eq;intro i;rw[Nat.testBit_and,Nat.testBit_two_pow,Nat.zero_testBit];by_cases hi:63= i
 ·subst hi;rw[Nat.testBit_lt_two_pow (by rw[show(2:Nat) ^ 63= 9223372036854775808 by decide];exact h)];rfl
 ·simp[hi]
theorem z8H (x:Nat) (h:x < 9223372036854775808):bits .andNot .u64 (x:Int) 9218868437227405312=((x % 4503599627370496:Nat):Int):=by
 refine(u64_andNot_nat x 9218868437227405312 (by omega) (by decide)).trans ?_;rw[show(18446744073709551615 - 9218868437227405312:Nat)= 2 ^ 63 |||(2 ^ 52 - 1) by decide,Nat.and_or_distrib_left,Nat.and_two_pow_sub_one_eq_mod,zfI h];rw[Nat.zero_or]
theorem zap (x k:Nat) (h:x < 4503599627370496) (hk:k < 4096):bits .or .u64 (x:Int) ((4503599627370496*k:Nat):Int)=((4503599627370496*k+x:Nat):Int):=by
 refine(bits_or_u64_nat x (4503599627370496*k) (by omega) (by omega)).trans ?_;rw[Nat.or_comm,show 4503599627370496= 2 ^ 52 by decide,← Nat.two_pow_add_eq_or_of_lt (by rw[show(2:Nat) ^ 52= 4503599627370496 by decide];exact h)]
theorem zeG (x:Nat) (h:x < 18446744073709551616):bits .and .u64 (x:Int) 2047=((x % 2048:Nat):Int):=by
 refine(bits_and_u64_nat x 2047 h (by decide)).trans ?_;rw[show(2047:Nat)= 2 ^ 11 - 1 by decide,Nat.and_two_pow_sub_one_eq_mod]
def normF (r:Nat):Nat:=if r < 4503599627370496 then r.log2*4503599627370496+r*2 ^ (52 - r.log2) else r
def nexpF (r:Nat):Int:=if r < 4503599627370496 then -52 else 0
theorem zb2 {r:Nat} (h0:0 < r) (h:r < 9218868437227405312):normF r < 9218868437227405312/\normF r % 4503599627370496+4503599627370496= mantF r/\nexpF r+ ((normF r / 4503599627370496:Nat):Int)= powF r+1075/\normF r / 4503599627370496 < 2048:=by
 have g:=z4R (r:=r) h0;unfold normF nexpF mantF powF at*;by_cases hl:r < 4503599627370496
 ·rw[if_pos hl] at g ⊢
  rw[if_pos hl,if_pos hl,if_pos hl];obtain⟨h1,_,_⟩:=z4Q h0 hl;generalize r*2 ^ (52 - r.log2)= x at*;generalize r.log2= L at*;omega
 ·rw[if_neg hl] at g ⊢
  rw[if_neg hl,if_neg hl,if_neg hl];omega
theorem z6E (f:Nat) (hf:f < 2 ^ 64) (w:World):Calls Tryz.prog 208 #[.float .f64 f] w fun e w'=>e= .returned (.float .f64 (f % 9223372036854775808))/\w'= w:=by
 have e1:∀ W:World,(callFunc 181 #[.float .f64 f]).run Tryz.prog W= .ok (.value (.int .u64 f)) W:=fun W=>by
  rw[run_callFunc_extern Tryz.func181 (by kernel_rfl) (by kernel_rfl) (by kernel_rfl) (e:=Extern.MathFloatBits.float64bits) (by kernel_rfl)];rfl
 have e2:∀ W:World,(callFunc 129 #[.int .u64 ((f % 9223372036854775808:Nat):Int)]).run Tryz.prog W= .ok (.value (.float .f64 (f % 9223372036854775808))) W:=fun W=>by
  rw[run_callFunc_extern Tryz.func129 (by kernel_rfl) (by kernel_rfl) (by kernel_rfl) (e:=Extern.MathFloatBits.float64frombits) (by kernel_rfl)];rfl
 have b1:=zee f hf;clear hf;generalize hq:f % 9223372036854775808= q at*;clear hq;go_enter Tryz.func208,Tryz.ntmps208;go_wp2;go_ret;exact⟨rfl,rfl⟩
theorem z7v (f:Nat) (w:World):Calls Tryz.prog 246 #[.float .f64 f] w fun e w'=>e= .returned (.bool (FloatKind.f64.format.order f f !=some .eq))/\w'= w:=by
 go_enter Tryz.func246,Tryz.ntmps246;go_wp2;go_ret;exact⟨rfl,rfl⟩
theorem z7u (r:Nat) (h:r < 9218868437227405312) (w:World):Calls Tryz.prog 245 #[.float .f64 r,.int .i64 0] w fun e w'=>e= .returned (.bool false)/\w'= w:=by
 have g:=I (fun w=>z6E r (by omega) w);have h1:r % 9223372036854775808= r:=Nat.mod_eq_of_lt (by omega);rw[h1] at g;have t1:=z9M h;clear h h1;go_enter Tryz.func245,Tryz.ntmps245;go_wp2_with (go_at_call 208;refine(g.o _).mono ?_;rintro e z ⟨rfl,rfl⟩);go_ret;exact⟨rfl,rfl⟩
theorem z8O (r:Nat) (h0:0 < r) (h:r < 9218868437227405312) (w:World):Calls Tryz.prog 247 #[.float .f64 r] w fun e w'=>e= .returned (.tuple #[.float .f64 (normF r),.int .i64 (nexpF r)])/\w'= w:=by
 have g:=I (fun w=>z6E r (by omega) w);have h1:r % 9223372036854775808= r:=Nat.mod_eq_of_lt (by omega);rw[h1] at g;have t1:=zdc h;unfold normF nexpF;by_cases hl:r < 4503599627370496
 ·rw[if_pos hl,if_pos hl]
  rw[decide_eq_true hl] at t1;have A:∀ (t:TypeId) (w:World),(binOp .mul t (.float .f64 r) (.float .f64 4841369599423283200)).run Tryz.prog w= .ok (.float .f64 (r.log2*4503599627370496+r*2 ^ (52 - r.log2))) w:=fun t w=>run_float_arith w .mul t .f64 _ _ _ (zgc h0 hl);clear h h0 h1 hl;generalize r.log2*4503599627370496+r*2 ^ (52 - r.log2)= q at*;go_enter Tryz.func247,Tryz.ntmps247;go_wp2_with (go_at_call 208;refine(g.o _).mono ?_;rintro e z ⟨rfl,rfl⟩);go_ret2;exact⟨rfl,rfl⟩
 ·rw[if_neg hl,if_neg hl]
  rw[decide_eq_false hl] at t1;clear h h0 h1 hl;go_enter Tryz.func247,Tryz.ntmps247;go_wp2_with (go_at_call 208;refine(g.o _).mono ?_;rintro e z ⟨rfl,rfl⟩);go_ret2;exact⟨rfl,rfl⟩
theorem zch (r:Nat) (h0:0 < r) (h:r < 9218868437227405312) (w:World):Calls Tryz.prog 233 #[.float .f64 r] w fun e w'=>e= .returned (.tuple #[.float .f64 (mantF r+4598175219545276416),.int .i64 (powF r+53)])/\w'= w:=by
 have C:=I (fun w=>z7u r h w);have g:=I (fun w=>z7v r w);have G:=I (fun w=>z8O r h0 h w);have t1:=z4x h0 h;have t2:=z94 h;rw[t2] at g;obtain⟨n1,n2,n3,n4⟩:=zb2 h0 h;have X:=z8X h0 h;have O:=z4R h0;have e1:∀ W:World,(callFunc 181 #[.float .f64 (normF r)]).run Tryz.prog W= .ok (.value (.int .u64 (normF r))) W:=fun W=>by
  rw[run_callFunc_extern Tryz.func181 (by kernel_rfl) (by kernel_rfl) (by kernel_rfl) (e:=Extern.MathFloatBits.float64bits) (by kernel_rfl)];rfl
 have e2:∀ W:World,(callFunc 129 #[.int .u64 ((mantF r+4598175219545276416:Nat):Int)]).run Tryz.prog W= .ok (.value (.float .f64 (mantF r+4598175219545276416))) W:=fun W=>by
  rw[run_callFunc_extern Tryz.func129 (by kernel_rfl) (by kernel_rfl) (by kernel_rfl) (e:=Extern.MathFloatBits.float64frombits) (by kernel_rfl)];rfl
 have b1:=z8H (normF r) (by omega);have b2:=zap (normF r % 4503599627370496) 1022 (by omega) (by decide);have K:bits .or .u64 ((normF r:Int) % 4503599627370496) 4602678819172646912=((mantF r+4598175219545276416:Nat):Int):=b2.trans (by omega);have b3:=zeG (normF r / 4503599627370496) (by omega);rw[Nat.mod_eq_of_lt n4] at b3;obtain⟨k,A⟩:∃ k:Int,k=((normF r / 4503599627370496:Nat):Int):=⟨_,rfl⟩;rw[← A] at b3 n3;have N:bits .and .u64 ((normF r:Int) / 4503599627370496) 2047= k:=by rw[← b3];congr 1;omega
 have k0:0<=k/\k < 2048:=by omega
 have Y: -52<=nexpF r/\nexpF r<=0:=by unfold nexpF;split<;>omega
 have c1:wrap64 k= k:=by unfold wrap64;omega
 have c2:wrap64 (k - 1023)= k - 1023:=by unfold wrap64;omega
 have c3:wrap64 (k - 1023+1)= k - 1023+1:=by unfold wrap64;omega
 have c4:wrap64 (nexpF r+ (k - 1023+1))= powF r+53:=by unfold wrap64;omega
 clear h h0 b2 b3 n1 n3 n4 A X Y k0;generalize normF r= q at*;generalize nexpF r= x at*;clear O n2;generalize mantF r+4598175219545276416= m at*;generalize powF r= p at*;go_enter Tryz.func233,Tryz.ntmps233;go_wp2_with (first|(go_at_call 245;refine(C.o _).mono ?_;rintro e z ⟨rfl,rfl⟩)|(go_at_call 246;refine(g.o _).mono ?_;rintro e z ⟨rfl,rfl⟩)|(go_at_call 247;refine(G.o _).mono ?_;rintro e z ⟨rfl,rfl⟩));go_ret2;exact⟨by rw[← c4];rfl,rfl⟩
theorem zci (r:Nat) (h0:0 < r) (h:r < 9218868437227405312) (w:World):Calls Tryz.prog 214 #[.float .f64 r] w fun e w'=>e= .returned (.tuple #[.float .f64 (mantF r+4598175219545276416),.int .i64 (powF r+53)])/\w'= w:=by
 have HI:=I (fun w=>zch r h0 h w);clear h h0;go_enter Tryz.func214,Tryz.ntmps214;go_wp2_with (go_at_call 233;refine(HI.o _).mono ?_;rintro e z ⟨rfl,rfl⟩);go_ret2;exact⟨rfl,rfl⟩
theorem zcs (m:Nat) (h0:4503599627370496<=m) (h:m < 9007199254740992) (w:World):Calls Tryz.prog 235 #[.float .f64 (m+4598175219545276416),.int .i64 53] w fun e w'=>e= .returned (.float .f64 (4836865999795912704+m))/\w'= w:=by
 obtain⟨l,rfl⟩:∃ l,m= 4503599627370496+l:=⟨m - 4503599627370496,by omega⟩;have A:0 < 4503599627370496+l+4598175219545276416:=by omega
 have C:4503599627370496+l+4598175219545276416 < 9218868437227405312:=by omega
 have X:∀ (t:TypeId) (w:World),(binOp .mul t (.float .f64 4607182418800017408) (.float .f64 (4841369599423283200+l))).run Tryz.prog w= .ok (.float .f64 (4841369599423283200+l)) w:=fun t w=>run_float_arith w .mul t .f64 _ _ _ (zcC (by omega));have g:=I (fun w=>z8O _ A C w);have O:normF (4503599627370496+l+4598175219545276416)= 4503599627370496+l+4598175219545276416:=by unfold normF;rw[if_neg (by omega)]
 have N:nexpF (4503599627370496+l+4598175219545276416)= 0:=by unfold nexpF;rw[if_neg (by omega)]
 rw[O,N] at g;have K:=I (fun w=>z7u _ C w);have G:=I (fun w=>z7v (4503599627370496+l+4598175219545276416) w);have t1:=z4x A C;have t2:=z94 C;rw[t2] at G;have e0:4503599627370496+l+4598175219545276416= 4602678819172646912+l:=by omega
 have e9:4836865999795912704+ (4503599627370496+l)= 4841369599423283200+l:=by omega
 rw[e9];rw[e0] at g K G t1 t2 ⊢;have e1:∀ W:World,(callFunc 181 #[.float .f64 (4602678819172646912+l)]).run Tryz.prog W= .ok (.value (.int .u64 ((4602678819172646912+l:Nat):Int))) W:=fun W=>by
  rw[run_callFunc_extern Tryz.func181 (by kernel_rfl) (by kernel_rfl) (by kernel_rfl) (e:=Extern.MathFloatBits.float64bits) (by kernel_rfl)];rfl
 have e2:∀ W:World,(callFunc 129 #[.int .u64 ((4841369599423283200+l:Nat):Int)]).run Tryz.prog W= .ok (.value (.float .f64 (4841369599423283200+l))) W:=fun W=>by
  rw[run_callFunc_extern Tryz.func129 (by kernel_rfl) (by kernel_rfl) (by kernel_rfl) (e:=Extern.MathFloatBits.float64frombits) (by kernel_rfl)];rfl
 have b1:bits .andNot .u64 ((4602678819172646912+l:Nat):Int) 9218868437227405312=(l:Int):=(z8H _ (by omega)).trans (by omega);have b2:bits .or .u64 (l:Int) 4841369599423283200=((4841369599423283200+l:Nat):Int):=zap l 1075 (by omega) (by decide);have b3:((4602678819172646912+l:Nat):Int) / 4503599627370496= 1022:=by omega
 have b4:bits .and .i64 1022 2047= 1022:=by decide +kernel
 generalize hq1:4602678819172646912+l= q at*;generalize hq2:4841369599423283200+l= p at*;clear h h0 C A O N e0 e9 hq1 hq2;go_enter Tryz.func235,Tryz.ntmps235;go_wp2_with (first|(go_at_call 245;refine(K.o _).mono ?_;rintro e z ⟨rfl,rfl⟩)|(go_at_call 246;refine(G.o _).mono ?_;rintro e z ⟨rfl,rfl⟩)|(go_at_call 247;refine(g.o _).mono ?_;rintro e z ⟨rfl,rfl⟩));go_ret;exact⟨rfl,rfl⟩
theorem zct (m:Nat) (h0:4503599627370496<=m) (h:m < 9007199254740992) (w:World):Calls Tryz.prog 215 #[.float .f64 (m+4598175219545276416),.int .i64 53] w fun e w'=>e= .returned (.float .f64 (4836865999795912704+m))/\w'= w:=by
 have HI:=I (fun w=>zcs m h0 h w);clear h h0;go_enter Tryz.func215,Tryz.ntmps215;go_wp2_with (go_at_call 235;refine(HI.o _).mono ?_;rintro e z ⟨rfl,rfl⟩);go_ret;exact⟨rfl,rfl⟩
theorem zfj (f:Nat) (hf:f < 2 ^ 64) (w:World):Calls Tryz.prog 213 #[.float .f64 f] w fun e w'=>e= .returned (.bool (decide (9223372036854775808<=f)))/\w'= w:=by
 have e1:∀ W:World,(callFunc 181 #[.float .f64 f]).run Tryz.prog W= .ok (.value (.int .u64 f)) W:=fun W=>by
  rw[run_callFunc_extern Tryz.func181 (by kernel_rfl) (by kernel_rfl) (by kernel_rfl) (e:=Extern.MathFloatBits.float64bits) (by kernel_rfl)];rfl
 have g:decide (wrap64 (f:Int) < 0)= decide (9223372036854775808<=f):=by
  unfold wrap64;by_cases h:9223372036854775808<=f
  ·rw[decide_eq_true h,decide_eq_true (by omega)]
  ·rw[decide_eq_false h,decide_eq_false (by omega)]
 rw[← g];clear g hf;go_enter Tryz.func213,Tryz.ntmps213;go_wp2;go_ret;exact⟨rfl,rfl⟩
end Go.Proofs.YtpmjcbjdcjjplaaGreatDoor
