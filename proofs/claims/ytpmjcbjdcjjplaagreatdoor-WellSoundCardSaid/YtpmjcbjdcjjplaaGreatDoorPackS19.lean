/- Parts of a proof: TextP. -/
import Derived.Lib.ItoaNum
import Derived.Test.YtpmjcbjdcjjplaaGreatDoorPackS18
set_option maxHeartbeats 8000000
set_option maxRecDepth 100000
set_option linter.unusedVariables false
set_option linter.unusedSimpArgs false
namespace Go.Proofs.YtpmjcbjdcjjplaaGreatDoor
open Go
def redF:Nat->Nat->Int->Nat × Int
 |0,m,e=>(m,e)
 |k+1,m,e=>if m % 2= 0 then redF k (m / 2) (e+1) else(m,e)
theorem z2P {k m:Nat} {e:Int} (h:m % 2≠0):redF k m e=(m,e):=by
 cases k with
 |zero=>rfl
 |succ k=>show(if m % 2= 0 then _ else _)= _;rw[if_neg h]
theorem z2Z {k m:Nat} {e:Int} (h:m % 2= 0):redF (k+1) m e= redF k (m / 2) (e+1):=by
 show(if m % 2= 0 then _ else _)= _;rw[if_pos h]
theorem z90 (d:Nat):∀ (k m:Nat) (e:Int),0 < m->m < 2 ^ (k+1)->redF (k+d) m e= redF k m e
 |0,m,e,h0,h=>by rw[z2P (show m % 2≠0 by omega),z2P (show m % 2≠0 by omega)]
 |k+1,m,e,h0,h=>by
  by_cases hm:m % 2= 0
  ·rw[show k+1+d=(k+d)+1 by omega,z2Z hm,z2Z hm]
   exact z90 d k (m / 2) (e+1) (by omega) (by rw[Nat.pow_succ] at h;omega)
  ·rw[z2P hm,z2P hm]
theorem zas (k m:Nat) (e:Int):∀ d:Nat,redF (k+d) (m*2 ^ d) (e - d)= redF k m e
 |0=>by simp
 |d+1=>by
  have h1:m*2 ^ (d+1)= 2* (m*2 ^ d):=by rw[Nat.pow_succ,← Nat.mul_assoc,Nat.mul_comm]
  rw[show k+ (d+1)=(k+d)+1 by omega,z2Z (by omega),h1,show 2* (m*2 ^ d) / 2= m*2 ^ d by omega,show e - ((d+1:Nat):Int)+1= e - d by omega]
  exact zas k m e d
def mantF (r:Nat):Nat:=if r < 4503599627370496 then r*2 ^ (52 - r.log2) else 4503599627370496+r % 4503599627370496
def powF (r:Nat):Int:=if r < 4503599627370496 then(r.log2:Int) - 1126 else((r / 4503599627370496:Nat):Int) - 1075
def z12 (r:Nat):Nat × Int:=if r= 0 then(0,0) else redF 64 (magF r) (expF r)
theorem z4Q {r:Nat} (h0:0 < r) (h:r < 4503599627370496):r.log2 < 52/\2 ^ r.log2<=r/\r < 2 ^ (r.log2+1):=
 ⟨(Nat.log2_lt (by omega)).2 h,Nat.log2_self_le (by omega),Nat.lt_log2_self⟩
theorem z4R {r:Nat} (h0:0 < r):4503599627370496<=mantF r/\mantF r < 9007199254740992:=by
 unfold mantF;by_cases h:r < 4503599627370496
 ·rw[if_pos h]
  obtain⟨h1,h2,h3⟩:=z4Q h0 h;generalize r.log2= L at*;have A:(2:Nat) ^ L*2 ^ (52 - L)= 4503599627370496:=by rw[← Nat.pow_add,show L+ (52 - L)= 52 by omega]
  have g:(2:Nat) ^ (L+1) *2 ^ (52 - L)= 9007199254740992:=by rw[← Nat.pow_add,show L+1+ (52 - L)= 53 by omega]
  have a1:=Nat.mul_le_mul_right (2 ^ (52 - L)) h2;have a2:=Nat.mul_lt_mul_of_pos_right h3 (Nat.two_pow_pos (52 - L));omega
 ·rw[if_neg h];omega
theorem z8X {r:Nat} (h0:0 < r) (h:r < 9218868437227405312): -1126<=powF r/\powF r<=971:=by
 unfold powF;by_cases hl:r < 4503599627370496
 ·rw[if_pos hl]
  have:=(z4Q h0 hl).1;omega
 ·rw[if_neg hl];omega
theorem z8V {r:Nat} (h0:0 < r):z12 r= redF 64 (mantF r) (powF r):=by
 unfold z12 mantF powF;rw[if_neg (by omega)];by_cases h:r < 4503599627370496
 ·rw[if_pos h,if_pos h,(z1R h).1,(z1R h).2]
  obtain⟨h1,h2,h3⟩:=z4Q h0 h;generalize r.log2= L at*;have h4:=zas (12+L) r (-1074) (52 - L);rw[show 12+L+ (52 - L)= 64 by omega,show(-1074:Int) - ((52 - L:Nat):Int)=(L:Int) - 1126 by omega] at h4;rw[h4];have h5:=z90 (52 - L) (12+L) r (-1074) h0 (Nat.lt_of_lt_of_le h3 (Nat.pow_le_pow_right (by decide) (by omega)));rw[show 12+L+ (52 - L)= 64 by omega] at h5;exact h5
 ·rw[if_neg h,if_neg h,(z17 (by omega)).1,(z17 (by omega)).2]
  congr 1
  omega
def RedAt (t:Nat × Int) (e0:Int) (m:Nat) (e:Int):Prop:=∃ j:Nat,j<=63/\e= e0+j/\0 < m/\m < 2 ^ (64 - j)/\redF (64 - j) m e= t
theorem RedAt.start {m:Nat} {e:Int} (h0:0 < m) (h:m < 2 ^ 64):RedAt (redF 64 m e) e m e:=⟨0,by omega,by omega,h0,h,rfl⟩
theorem RedAt.next {t:Nat × Int} {e0:Int} {m:Nat} {e:Int} (h:RedAt t e0 m e) (hm:m % 2= 0):RedAt t e0 (m / 2) (e+1):=by
 obtain⟨j,h1,h2,h3,h4,h5⟩:=h;have g:j < 63:=by
  apply Nat.lt_of_le_of_ne h1;rintro rfl;rw[show 64 - 63= 1 by omega] at h4;omega
 refine⟨j+1,by omega,by omega,by omega,?_,?_⟩
 ·rw[show 64 - j=(64 - (j+1))+1 by omega,Nat.pow_succ] at h4;omega
 ·rw[show 64 - j=(64 - (j+1))+1 by omega,z2Z hm] at h5;exact h5
theorem RedAt.stop {t:Nat × Int} {e0:Int} {m:Nat} {e:Int} (h:RedAt t e0 m e) (hm:m % 2≠0):t=(m,e):=by
 obtain⟨j,h1,h2,h3,h4,h5⟩:=h;rw[z2P hm] at h5;exact h5.symm
theorem RedAt.pow {t:Nat × Int} {e0:Int} {m:Nat} {e:Int} (h:RedAt t e0 m e):e0<=e/\e<=e0+63/\0 < m/\m < 2 ^ 64:=by
 obtain⟨j,h1,h2,h3,h4,h5⟩:=h;exact⟨by omega,by omega,h3,Nat.lt_of_lt_of_le h4 (Nat.pow_le_pow_right (by decide) (by omega))⟩
theorem zh9 (k m:Nat) (e:Int):(redF k m e).1<=m/\e<=(redF k m e).2/\(redF k m e).2<=e+k:=by
 induction k generalizing m e with
 |zero=>exact⟨Nat.le_refl _,Int.le_refl _,by show e<=e+0;omega⟩
 |succ k ih=>
  by_cases hm:m % 2= 0
  ·rw[z2Z hm];have:=ih (m / 2) (e+1);omega
  ·rw[z2P hm];exact⟨Nat.le_refl _,Int.le_refl _,by show e<=e+ ((k+1:Nat):Int);omega⟩
theorem z8W {r:Nat} (h:r < 9218868437227405312):(z12 r).1 < 9007199254740992/\ -1126<=(z12 r).2/\(z12 r).2<=1035:=by
 by_cases h0:r= 0
 ·subst h0;decide
 ·rw[z8V (by omega)]
  have h1:=zh9 64 (mantF r) (powF r);have h2:=z4R (r:=r) (by omega);have h3:=z8X (r:=r) (by omega) h;omega
def textF (f:Nat):List UInt8:=
 if 9218868437227405312 < f % 9223372036854775808 then[110,97,110] else
 (if f < 9223372036854775808 then[] else[45]) ++
  (if f % 9223372036854775808= 9218868437227405312 then[105,110,102] else
   Lib.decDigits (z12 (f % 9223372036854775808)).1 ++ (112::Lib.itoa (z12 (f % 9223372036854775808)).2))
end Go.Proofs.YtpmjcbjdcjjplaaGreatDoor
