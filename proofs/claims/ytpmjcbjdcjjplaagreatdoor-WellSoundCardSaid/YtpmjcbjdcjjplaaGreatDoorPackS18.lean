/- Parts of a proof: FltT. -/
import Derived.Test.YtpmjcbjdcjjplaaGreatDoorPackS4
set_option maxHeartbeats 8000000
set_option maxRecDepth 100000
set_option linter.unusedVariables false
set_option linter.unusedSimpArgs false
namespace Go.Proofs.YtpmjcbjdcjjplaaGreatDoor
open Go
theorem z5R:Ieee.double.signWeight= 9223372036854775808:=by decide
theorem z3E:Ieee.double.binade= 4503599627370496:=by decide
theorem z6H:Ieee.double.infRung= 9218868437227405312:=by decide
theorem z4j:Ieee.double.leastPlace= -1074:=by decide
def magF (r:Nat):Nat:=if r < 4503599627370496 then r else 4503599627370496+r % 4503599627370496
def expF (r:Nat):Int:=if r < 4503599627370496 then -1074 else -1074+ ((r / 4503599627370496 - 1:Nat):Int)
theorem z5C {f:Nat} (hf:f < 2 ^ 64) (h:f % 9223372036854775808 < 9218868437227405312):Ieee.double.read f= .number (decide (9223372036854775808<=f)) (magF (f % 9223372036854775808)) (expF (f % 9223372036854775808)):=by
 unfold Ieee.Format.read;simp only[z5R,z3E,z6H,z4j];have g:(f / 9223372036854775808 % 2 ==1)= decide (9223372036854775808<=f):=by
  by_cases h1:9223372036854775808<=f
  ·rw[decide_eq_true h1];have:f / 9223372036854775808= 1:=by omega
   rw[this];rfl
  ·rw[decide_eq_false h1];have:f / 9223372036854775808= 0:=by omega
   rw[this];rfl
 rw[g];unfold magF expF;by_cases h2:f % 9223372036854775808 < 4503599627370496
 ·rw[if_pos h2,if_pos h2,if_pos h2]
 ·rw[if_neg h2,if_neg h2,if_neg h2,if_pos h]
theorem zff {f:Nat} (hf:f < 2 ^ 64) (h:9218868437227405312 < f % 9223372036854775808):∃ s t,Ieee.double.read f= .nan s t:=by
 unfold Ieee.Format.read;simp only[z5R,z3E,z6H,z4j];rw[if_neg (by omega),if_neg (by omega),if_neg (by omega)];exact⟨_,_,rfl⟩
theorem z4b {mag k:Nat} {place:Int} {d:Nat} (hm:mag= k*2 ^ d) (hlo:4503599627370496<=k) (hhi:k < 9007199254740992) (hp: -1074<=place+d) (hmax:(place+d+1074).toNat*4503599627370496+k<=9218868437227405312):
  Ieee.double.nearest false mag place=(place+d+1074).toNat*4503599627370496+k:=by
 have G:0 < 2 ^ d:=Nat.two_pow_pos d;have g:mag.log2= 52+d:=by
  rw[hm];have a0:k*2 ^ d≠0:=Nat.ne_of_gt (Nat.mul_pos (by omega) G);have h52:(2:Nat) ^ 52= 4503599627370496:=by decide
  have h53:(2:Nat) ^ 53= 9007199254740992:=by decide
  have a1:4503599627370496*2 ^ d<=k*2 ^ d:=Nat.mul_le_mul_right _ hlo;have a2:k*2 ^ d < 9007199254740992*2 ^ d:=Nat.mul_lt_mul_of_pos_right hhi G;refine(Nat.log2_eq_iff a0).2 ⟨?_,?_⟩
  ·rw[Nat.pow_add,h52];exact a1
  ·rw[show 52+d+1= 53+d by omega,Nat.pow_add,h53];exact a2
 have N:mag≠0:=by rw[hm];exact Nat.ne_of_gt (Nat.mul_pos (by omega) G)
 have hcut:Ieee.Toward.even.cut false mag d= k:=by
  unfold Ieee.Toward.cut;rw[g];have C:min d (52+d+2)= d:=by omega
  simp only[C,Nat.one_shiftLeft];have hq:mag / 2 ^ d= k:=by rw[hm,Nat.mul_div_cancel _ G]
  have hr:mag % 2 ^ d= 0:=by rw[hm,Nat.mul_mod_left]
  rw[hq,hr];have Y: ¬ (2 ^ d < 2*0):=by omega
  have O:(2 ^ d ==2*0)= false:=by rw[beq_eq_false_iff_ne];omega
  simp[O]
 have X:max (place+ ((52+d:Nat):Int) - ((52:Nat):Int)) (-1074)= place+d:=by omega
 have h1:(place - (place+ (d:Int))).toNat= 0:=by omega
 have h2:(place+ (d:Int) - place).toNat= d:=by omega
 have h3:(place+ (d:Int) - -1074).toNat=(place+d+1074).toNat:=by congr 1
 have K:Ieee.double.fractionBits= 52:=rfl;have A:Ieee.double.nearest false mag place= Ieee.double.word false (min ((max (place+ (mag.log2:Int) - (Ieee.double.fractionBits:Int)) Ieee.double.leastPlace - Ieee.double.leastPlace).toNat*Ieee.double.binade+Ieee.Toward.even.cut false (mag <<<(place - max (place+ (mag.log2:Int) - (Ieee.double.fractionBits:Int)) Ieee.double.leastPlace).toNat) (max (place+ (mag.log2:Int) - (Ieee.double.fractionBits:Int)) Ieee.double.leastPlace - place).toNat) Ieee.double.infRung):=by
  unfold Ieee.Format.nearest;rw[if_neg N]
 rw[A,g,K,z4j,z3E,z6H,X,h1,h2,h3,Nat.shiftLeft_zero,hcut,Nat.min_eq_left hmax];rfl
theorem z3R {r:Nat} (h:r < 9218868437227405312):Ieee.double.read r= .number false (magF r) (expF r):=by
 have h1:r % 9223372036854775808= r:=Nat.mod_eq_of_lt (by omega);rw[z5C (by omega) (by rw[h1];exact h),h1,decide_eq_false (by omega)]
theorem z1R {r:Nat} (h:r < 4503599627370496):magF r= r/\expF r= -1074:=⟨if_pos h,if_pos h⟩
theorem z17 {r:Nat} (h:4503599627370496<=r):magF r= 4503599627370496+r % 4503599627370496/\expF r= -1074+ ((r / 4503599627370496 - 1:Nat):Int):=⟨if_neg (by omega),if_neg (by omega)⟩
theorem zgc {r:Nat} (h0:0 < r) (h:r < 4503599627370496):floatBits .mul .f64 r 4841369599423283200= some (r.log2*4503599627370496+r*2 ^ (52 - r.log2)):=by
 have X:Ieee.double.read r= .number false r (-1074):=by rw[z3R (by omega),(z1R h).1,(z1R h).2]
 have O:Ieee.double.read 4841369599423283200= .number false 4503599627370496 0:=by decide +kernel
 have g:2 ^ r.log2<=r:=Nat.log2_self_le (by omega);have A:r < 2 ^ (r.log2+1):=Nat.lt_log2_self;have h52:(2:Nat) ^ 52= 4503599627370496:=by decide
 have N:r.log2 < 52:=(Nat.log2_lt (by omega)).2 (by rw[h52];exact h);generalize r.log2= L at*;have K:(2:Nat) ^ (52 - L) *2 ^ L= 4503599627370496:=by rw[← Nat.pow_add,show 52 - L+L= 52 by omega,h52]
 show((Ieee.double.read r).product (Ieee.double.read 4841369599423283200)).map Ieee.double.write= _;rw[X,O];show some (Ieee.double.nearest (false ^^ false) (r*4503599627370496) (-1074+0))= _;have C:4503599627370496<=r*2 ^ (52 - L):=by
  rw[← K,Nat.mul_comm (2 ^ (52 - L))];exact Nat.mul_le_mul_right _ g
 have G:r*2 ^ (52 - L) < 9007199254740992:=by
  have:=Nat.mul_lt_mul_of_pos_right A (Nat.two_pow_pos (52 - L));rw[Nat.pow_succ,Nat.mul_assoc,Nat.mul_comm 2,← Nat.mul_assoc,Nat.mul_comm (2 ^ L),K] at this;exact this
 have:=z4b (mag:=r*4503599627370496) (k:=r*2 ^ (52 - L)) (place:= -1074+0) (d:=L) (by rw[Nat.mul_assoc,K]) C G (by omega) (by
  have e1:(-1074+0+ (L:Int)+1074).toNat= L:=by omega
  rw[e1];omega)
 rw[show(false ^^ false)= false from rfl,this];have e1:(-1074+0+ (L:Int)+1074).toNat= L:=by omega
 rw[e1]
theorem zcC {m:Nat} (h:m < 4503599627370496):floatBits .mul .f64 4607182418800017408 (4841369599423283200+m)= some (4841369599423283200+m):=by
 have C:Ieee.double.read (4841369599423283200+m)= .number false (4503599627370496+m) 0:=by
  have g:=z17 (r:=4841369599423283200+m) (by omega);rw[z3R (by omega),g.1,g.2];have e1:(4841369599423283200+m) % 4503599627370496= m:=by omega
  have e2:(4841369599423283200+m) / 4503599627370496= 1075:=by omega
  rw[e1,e2];rfl
 have A:Ieee.double.read 4607182418800017408= .number false 4503599627370496 (-52):=by decide +kernel
 show((Ieee.double.read 4607182418800017408).product (Ieee.double.read (4841369599423283200+m))).map Ieee.double.write= _;rw[C,A];show some (Ieee.double.nearest (false ^^ false) (4503599627370496* (4503599627370496+m)) (-52+0))= _;have h52:(2:Nat) ^ 52= 4503599627370496:=by decide
 have:=z4b (mag:=4503599627370496* (4503599627370496+m)) (k:=4503599627370496+m) (place:= -52+0) (d:=52) (by rw[h52,Nat.mul_comm]) (by omega) (by omega) (by decide) (by
  have e1:(-52+0+ ((52:Nat):Int)+1074).toNat= 1074:=by decide
  rw[e1];omega)
 rw[show(false ^^ false)= false from rfl,this];have e1:(-52+0+ ((52:Nat):Int)+1074).toNat= 1074:=by decide
 rw[e1]
 congr 1
 omega
theorem zgN {m:Nat} (h:m < 4503599627370496):floatToIntVal .f64 (4841369599423283200+m) .u64= some ((4503599627370496+m:Nat):Int):=by
 have A:FloatKind.f64.decode (4841369599423283200+m)= .number false (4503599627370496+m) 0:=by
  show Ieee.double.read (4841369599423283200+m)= _;have g:=z17 (r:=4841369599423283200+m) (by omega);rw[z3R (by omega),g.1,g.2];have e1:(4841369599423283200+m) % 4503599627370496= m:=by omega
  have e2:(4841369599423283200+m) / 4503599627370496= 1075:=by omega
  rw[e1,e2];rfl
 have C:Ieee.Datum.toInt .zero (.number false (4503599627370496+m) 0)= some ((4503599627370496+m:Nat):Int):=by
  unfold Ieee.Datum.toInt Ieee.Datum.integral Ieee.Toward.cut;have h0:(0:Int).toNat= 0:=rfl;simp[Ieee.signed,h0]
 unfold floatToIntVal;rw[A,C];have h1:IntKind.u64.min= 0:=by decide
 have h2:IntKind.u64.max= 18446744073709551615:=by decide
 rw[h1,h2];simp only;rw[if_pos (by omega)]
theorem zbk {f:Nat} (hf:f < 2 ^ 64) (h:f % 9223372036854775808 < 9218868437227405312):floatBits .sub .f64 f f= some 0:=by
 show((Ieee.double.read f).sum (Ieee.double.read f).opposite).map Ieee.double.write= _;rw[z5C hf h];generalize decide (9223372036854775808<=f)= b;generalize magF (f % 9223372036854775808)= m;generalize expF (f % 9223372036854775808)= i;have h1:Ieee.Datum.sum (.number b m i) (.number (!b) m i)= some (.number false 0 i):=by
  unfold Ieee.Datum.sum;cases b
  ·simp[Ieee.signed]
   omega
  ·simp[Ieee.signed]
   omega
 show(Ieee.Datum.sum (.number b m i) (.number (!b) m i)).map Ieee.double.write= _;rw[h1];show some (Ieee.double.nearest false 0 i)= some 0;unfold Ieee.Format.nearest;rw[if_pos rfl];rfl
def valF (r:Nat):Nat:=magF r*2 ^ (expF r+1074).toNat
theorem zaz {r:Nat} (h:r < 9218868437227405312):valD (Ieee.double.read r)=(valF r:Nat)/\clsD (Ieee.double.read r)= 0/\nanD (Ieee.double.read r)= 0:=by
 rw[z3R h];refine⟨?_,rfl,rfl⟩;show Ieee.signed false (magF r) (expF r+1074).toNat= _;unfold Ieee.signed valF;simp[Nat.shiftLeft_eq]
theorem z6Y {r:Nat} (h:r < 4503599627370496):valF r= r:=by
 unfold valF;rw[(z1R h).1,(z1R h).2];show r*2 ^ (0:Nat)= r;rw[Nat.pow_zero,Nat.mul_one]
theorem z9f {r:Nat} (h:4503599627370496<=r):4503599627370496<=valF r:=by
 unfold valF;rw[(z17 h).1];have:=Nat.two_pow_pos (expF r+1074).toNat;exact Nat.le_trans (by omega) (Nat.le_mul_of_pos_right _ this)
theorem zgy {r:Nat} (h:r < 9218868437227405312):valF r<=valF 9218868437227405311:=by
 obtain⟨K,A,g⟩:∃ K:Nat,K= 2045/\valF 9218868437227405311= 9007199254740991*2 ^ K:=by
  refine⟨(-1074+ ((9218868437227405311 / 4503599627370496 - 1:Nat):Int)+1074).toNat,by decide,?_⟩;have:=z17 (r:=9218868437227405311) (by decide);have e1:4503599627370496+9218868437227405311 % 4503599627370496= 9007199254740991:=by decide
  unfold valF;rw[this.1,this.2,e1]
 rw[g];unfold valF;by_cases hr:r < 4503599627370496
 ·rw[(z1R hr).1,(z1R hr).2]
  exact Nat.mul_le_mul (by omega) (Nat.pow_le_pow_right (by decide) (by omega))
 ·rw[(z17 (by omega)).1,(z17 (by omega)).2]
  exact Nat.mul_le_mul (by omega) (Nat.pow_le_pow_right (by decide) (by omega))
theorem z3c {r q:Nat} (hr:r < 9218868437227405312) (hq:q < 9218868437227405312):
  (FloatKind.f64.format.order r q= some .lt↔valF r < valF q)/\(FloatKind.f64.format.order r q= some .eq↔valF r= valF q)/\(FloatKind.f64.format.order r q= some .gt↔valF q < valF r):=by
 obtain⟨v1,c1,n1⟩:=zaz hr;obtain⟨v2,c2,n2⟩:=zaz hq;obtain⟨h1,h2,h3⟩:=z2p (Ieee.double.read r) (Ieee.double.read q) (z1k r) (z1k q) n1 n2;have g:cmpD (Ieee.double.read r) (Ieee.double.read q)= cmpI (valF r) (valF q):=by
  unfold cmpD;rw[c1,c2,v1,v2,z34 rfl];simp
 rw[g] at h1 h2 h3;have A:=z23 (valF r) (valF q);have e:FloatKind.f64.format.order r q=(Ieee.double.read r).order (Ieee.double.read q):=rfl;rw[e];refine⟨h1.trans ?_,h2.trans ?_,h3.trans ?_⟩<;>constructor<;>intro h<;>omega
theorem z4x {r:Nat} (h0:0 < r) (h:r < 9218868437227405312):(FloatKind.f64.format.order r 0 ==some .eq)= false:=by
 rw[beq_eq_false_iff_ne];intro e;have:=(z3c h (by decide:(0:Nat) < _)).2.1.1 e;rw[z6Y (by decide:(0:Nat) < _)] at this;by_cases hr:r < 4503599627370496
 ·rw[z6Y hr] at this;omega
 ·have:=z9f (r:=r) (by omega);omega
theorem z9M {r:Nat} (h:r < 9218868437227405312):(FloatKind.f64.format.order r 9218868437227405311 ==some .gt)= false:=by
 rw[beq_eq_false_iff_ne];intro e;have:=(z3c h (by decide:(9218868437227405311:Nat) < _)).2.2.1 e;have:=zgy h;omega
theorem z94 {r:Nat} (h:r < 9218868437227405312):(FloatKind.f64.format.order r r !=some .eq)= false:=by
 rw[(z3c h h).2.1.2 rfl];rfl
theorem zdc {r:Nat} (h:r < 9218868437227405312):(FloatKind.f64.format.order r 4503599627370496 ==some .lt)= decide (r < 4503599627370496):=by
 have e2:valF 4503599627370496= 4503599627370496:=by
  have:=z17 (r:=4503599627370496) (by decide);unfold valF;rw[this.1,this.2];rfl
 have g:=(z3c h (by decide:(4503599627370496:Nat) < _)).1;rw[e2] at g;by_cases hr:r < 4503599627370496
 ·rw[decide_eq_true hr,g.2 (by rw[z6Y hr];exact hr)];rfl
 ·rw[decide_eq_false hr,beq_eq_false_iff_ne]
  intro e;have:=g.1 e;have:=z9f (r:=r) (by omega);omega
end Go.Proofs.YtpmjcbjdcjjplaaGreatDoor
