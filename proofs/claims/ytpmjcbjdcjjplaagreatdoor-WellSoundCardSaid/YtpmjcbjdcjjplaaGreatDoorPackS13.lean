/- Parts of a proof: Ord, Plain. -/
import Derived.Lib.BitFns
import Derived.Test.YtpmjcbjdcjjplaaGreatDoorPackS0
set_option maxHeartbeats 8000000
set_option maxRecDepth 100000
set_option linter.unusedVariables false
set_option linter.unusedSimpArgs false
section
namespace Go.Proofs.YtpmjcbjdcjjplaaGreatDoor
namespace P
abbrev Rel:=Nat->Nat->Bool
def opp (R:Rel):Rel:=fun a b=>R b a
def z1h (p:Nat->Bool):Nat->Nat->Int
 |0,_=> -1
 |k+1,c=>if p c then c else z1h p k (c+1)
def z1A (n:Nat) (p:Nat->Bool):Int:=z1h p n 0
def allN (n:Nat) (p:Nat->Bool):Bool:=(List.range n).all p
theorem z1F {n:Nat} {p:Nat->Bool}:allN n p= true↔∀ i,i < n->p i= true:=by
 unfold allN;rw[List.all_eq_true];constructor
 ·intro h i hi;exact h i (List.mem_range.2 hi)
 ·intro h i hi;exact h i (List.mem_range.1 hi)
theorem z5T (p:Nat->Bool) (k:Nat):∀ c,(z1h p k c= -1/\∀ i,c<=i->i < c+k->p i= false)\/
  ∃ d,c<=d/\d < c+k/\z1h p k c= d/\p d= true/\∀ i,c<=i->i < d->p i= false:=by
 induction k with
 |zero=>intro c;exact .inl ⟨rfl,fun i h1 h2=>by omega⟩
 |succ k ih=>
  intro c;rw[z1h];cases hp:p c with
  |true=>exact .inr ⟨c,by omega,by omega,by simp,hp,fun i h1 h2=>by omega⟩
  |false=>
   rcases ih (c+1) with ⟨h1,h2⟩|⟨d,h1,h2,h3,h4,h5⟩
   ·refine .inl ⟨by simpa using h1,fun i hi hj=> ?_⟩
    by_cases e:i= c
    ·subst e;exact hp
    ·exact h2 i (by omega) (by omega)
   ·refine .inr ⟨d,by omega,by omega,by simpa using h3,h4,fun i hi hj=> ?_⟩
    by_cases e:i= c
    ·subst e;exact hp
    ·exact h5 i (by omega) hj
theorem z1i (n:Nat) (p:Nat->Bool):(z1A n p= -1/\∀ i,i < n->p i= false)\/
  ∃ d,d < n/\z1A n p= d/\p d= true/\∀ i,i < d->p i= false:=by
 rcases z5T p n 0 with ⟨h1,h2⟩|⟨d,_,h2,h3,h4,h5⟩
 ·exact .inl ⟨h1,fun i hi=>h2 i (by omega) (by omega)⟩
 ·exact .inr ⟨d,by omega,h3,h4,fun i hi=>h5 i (by omega) hi⟩
theorem z5U {n:Nat} {p:Nat->Bool} {d:Nat} (hd:d < n) (h:p d= true) (hb:∀ i,i < d->p i= false):z1A n p= d:=by
 rcases z1i n p with ⟨_,h2⟩|⟨e,h1,h2,h3,h4⟩
 ·rw[h2 d hd] at h;cases h
 ·rcases Nat.lt_trichotomy d e with hl|he|hg
  ·rw[h4 d hl] at h;cases h
  ·rw[he];exact h2
  ·rw[hb e hg] at h3;cases h3
theorem z5c {n:Nat} {p:Nat->Bool} (h:∀ i,i < n->p i= false):z1A n p= -1:=by
 rcases z1i n p with ⟨h1,_⟩|⟨e,h1,_,h3,_⟩
 ·exact h1
 ·rw[h e h1] at h3;cases h3
theorem z8t {n:Nat} {p q:Nat->Bool} (h:∀ i,i < n->p i= q i):z1A n p= z1A n q:=by
 rcases z1i n q with ⟨h1,h2⟩|⟨e,h1,h2,h3,h4⟩
 ·rw[h1];exact z5c fun i hi=>by rw[h i hi];exact h2 i hi
 ·rw[h2];exact z5U h1 (by rw[h e h1];exact h3) fun i hi=>by rw[h i (by omega)];exact h4 i hi
theorem z9H {n m:Nat} {p:Nat->Bool} (hnm:n<=m) (h:∀ i,n<=i->i < m->p i= false):z1A m p= z1A n p:=by
 rcases z1i n p with ⟨h1,h2⟩|⟨e,h1,h2,h3,h4⟩
 ·rw[h1];refine z5c fun i hi=> ?_
  by_cases hin:i < n
  ·exact h2 i hin
  ·exact h i (by omega) hi
 ·rw[h2];exact z5U (by omega) h3 h4
def via (R:Rel) (k:Nat):Rel:=fun a c=>R a c ||(R a k && R k c)
def clo (R:Rel):Nat->Rel
 |0=>R
 |k+1=>via (clo R k) k
def Trans (R:Rel):Prop:=∀ a b c,R a b= true->R b c= true->R a c= true
def Sub (R T:Rel):Prop:=∀ a c,R a c= true->T a c= true
def Thru (R:Rel) (j:Nat):Prop:=∀ a c,R a j= true->R j c= true->R a c= true
def Dom (n:Nat) (R:Rel):Prop:=∀ a b,R a b= true->a < n/\b < n
theorem z14 {R:Rel} {k a c:Nat}:via R k a c= true↔R a c= true\/(R a k= true/\R k c= true):=by
 unfold via;simp
theorem zgD (R:Rel) (k:Nat):Sub R (via R k):=fun _ _ h=>z14.2 (.inl h)
theorem zfC (R:Rel) (k:Nat):Thru (via R k) k:=by
 intro a c h1 h2;rcases z14.1 h1 with h1|⟨h1,_⟩<;>rcases z14.1 h2 with h2|⟨_,h2⟩<;>exact z14.2 (.inr ⟨h1,h2⟩)
theorem zfB {R:Rel} {k j:Nat} (h:Thru R j):Thru (via R k) j:=by
 intro a c h1 h2;rcases z14.1 h1 with h1|⟨h1,A⟩<;>rcases z14.1 h2 with h2|⟨h2,g⟩
 ·exact z14.2 (.inl (h _ _ h1 h2))
 ·exact z14.2 (.inr ⟨h _ _ h1 h2,g⟩)
 ·exact z14.2 (.inr ⟨h1,h _ _ A h2⟩)
 ·exact z14.2 (.inr ⟨h1,g⟩)
theorem zfP (R:Rel) (k:Nat):Sub R (clo R k):=by
 induction k with
 |zero=>exact fun _ _ h=>h
 |succ k ih=>exact fun a c h=>zgD _ _ a c (ih a c h)
theorem zej (R:Rel) (k:Nat):∀ j,j < k->Thru (clo R k) j:=by
 induction k with
 |zero=>intro j hj;omega
 |succ k ih=>
  intro j hj;by_cases e:j= k
  ·subst e;exact zfC _ _
  ·exact zfB (ih j (by omega))
theorem z4P {n:Nat} {R:Rel} (h:Dom n R) (k:Nat):Dom n (clo R k):=by
 induction k with
 |zero=>exact h
 |succ k ih=>
  intro a c hac;rcases z14.1 hac with h1|⟨h1,h2⟩
  ·exact ih a c h1
  ·exact⟨(ih a k h1).1,(ih k c h2).2⟩
theorem zbZ {n:Nat} {R:Rel} (h:Dom n R):Trans (clo R n):=
 fun a b c h1 h2=>zej R n b (z4P h n a b h1).2 a c h1 h2
def isLub (n:Nat) (L:Rel) (a b c:Nat):Bool:=L a c && L b c && allN n (fun d=> !(L a d && L b d && !L c d))
def jn (n:Nat) (L:Rel) (a b:Nat):Int:=z1A n (isLub n L a b)
def mt (n:Nat) (L:Rel) (a b:Nat):Int:=jn n (opp L) a b
theorem zcq {n:Nat} {L:Rel} {a b c:Nat}:isLub n L a b c= true↔L a c= true/\L b c= true/\∀ d,d < n->L a d= true->L b d= true->L c d= true:=by
 unfold isLub;rw[Bool.and_eq_true,Bool.and_eq_true,z1F,and_assoc];refine and_congr_right fun _=>and_congr_right fun _=>⟨fun h d hd h1 h2=> ?_,fun h d hd=> ?_⟩
 ·have:=h d hd;rw[h1,h2] at this;simpa using this
 ·cases h1:L a d<;>cases h2:L b d<;>simp
  exact h d hd h1 h2
def badAt (n:Nat) (L:Rel) (a b:Nat):Bool:=(a !=b && L a b && L b a) || decide (jn n L a b < 0) || decide (mt n L a b < 0)
def isLat (n:Nat) (L:Rel):Bool:=allN n fun a=>allN n fun b=> !badAt n L a b
structure Lat (n:Nat) (L:Rel):Prop where
 one:1<=n
 dom:Dom n L
 refl:∀ a,a < n->L a a= true
 trans:Trans L
 anti:∀ a b,L a b= true->L b a= true->a= b
 join:∀ a b,a < n->b < n->0<=jn n L a b
 meet:∀ a b,a < n->b < n->0<=mt n L a b
theorem Lat.of {n:Nat} {L:Rel} (h1:1<=n) (hd:Dom n L) (hr:∀ a,a < n->L a a= true) (ht:Trans L) (h:isLat n L= true):Lat n L:=by
 have H:∀ a b,a < n->b < n->badAt n L a b= false:=by
  intro a b g A;have:=z1F.1 (z1F.1 h a g) b A
  simpa using this
 refine⟨h1,hd,hr,ht,fun a b k1 k2=> ?_,fun a b g A=> ?_,fun a b g A=> ?_⟩
 ·have:=H a b (hd a b k1).1 (hd a b k1).2
  unfold badAt at this;simp only[Bool.or_eq_false_iff] at this;have h3:=this.1.1;rw[k1,k2] at h3
  simpa using h3
 ·have:=H a b g A
  unfold badAt at this;simp only[Bool.or_eq_false_iff] at this;have h3:=this.1.2
  simpa using h3
 ·have:=H a b g A
  unfold badAt at this;simp only[Bool.or_eq_false_iff] at this;have h3:=this.2
  simpa using h3
def jj (n:Nat) (L:Rel) (a b:Nat):Nat:=(jn n L a b).toNat
section
variable {n:Nat} {L:Rel} (h:Lat n L)
include h
end
section
variable {n:Nat} {L:Rel} (h:Lat n L)
include h
end
def isLb (n a:Int):Bool:=decide (0<=a) && decide (a < n)
def z0P (n:Int) (ps:List (Int × Int)):Bool:=ps.all fun p=>isLb n p.1 && isLb n p.2
def rel0 (n:Nat) (ps:List (Int × Int)):Rel:=fun a b=>decide (a < n) && decide (b < n) && (a ==b || ps.any fun p=>p.1 ==(a:Int) && p.2 ==(b:Int))
def ordOf (n:Nat) (ps:List (Int × Int)):Rel:=clo (rel0 n ps) n
def makeE (n:Int) (ps:List (Int × Int)):Int:=
 if n < 1\/8 < n\/64 < ps.length then 2 else if z0P n ps= false then 2 else if isLat n.toNat (ordOf n.toNat ps) then 0 else 16
theorem z3S (n:Nat) (ps:List (Int × Int)):Dom n (rel0 n ps):=by
 intro a b h;unfold rel0 at h;simp only[Bool.and_eq_true,decide_eq_true_eq] at h;exact h.1
theorem zcU {n:Nat} (ps:List (Int × Int)) {a:Nat} (ha:a < n):rel0 n ps a a= true:=by
 unfold rel0;simp[ha]
theorem zcM (n:Nat) (ps:List (Int × Int)):Dom n (ordOf n ps):=z4P (z3S n ps) n
theorem zb4 {n:Nat} (ps:List (Int × Int)) {a:Nat} (ha:a < n):ordOf n ps a a= true:=zfP _ _ _ _ (zcU ps ha)
theorem z9N (n:Nat) (ps:List (Int × Int)):Trans (ordOf n ps):=zbZ (z3S n ps)
theorem z7C {n:Nat} {ps:List (Int × Int)} (h1:1<=n) (h:isLat n (ordOf n ps)= true):Lat n (ordOf n ps):=
 Lat.of h1 (zcM n ps) (fun _ ha=>zb4 ps ha) (z9N n ps) h
theorem z9K (n:Int) (ps:List (Int × Int)):
  ((n < 1\/8 < n\/64 < ps.length)/\makeE n ps= 2)\/
  (∃ k:Nat,n= k/\1<=k/\k<=8/\ps.length<=64/\((z0P n ps= false/\makeE n ps= 2)\/
   (z0P n ps= true/\isLat k (ordOf k ps)= false/\makeE n ps= 16)\/(z0P n ps= true/\Lat k (ordOf k ps)/\makeE n ps= 0))):=by
 by_cases h:n < 1\/8 < n\/64 < ps.length
 ·exact .inl ⟨h,by unfold makeE;rw[if_pos h]⟩
 ·refine .inr ⟨n.toNat,by omega,by omega,by omega,by omega,?_⟩
  cases h2:z0P n ps with
  |false=>exact .inl ⟨rfl,by unfold makeE;rw[if_neg h,if_pos h2]⟩
  |true=>
   cases h3:isLat n.toNat (ordOf n.toNat ps) with
   |false=>exact .inr (.inl ⟨rfl,rfl,by unfold makeE;rw[if_neg h,if_neg (by simp[h2]),if_neg (by simp[h3])]⟩)
   |true=>exact .inr (.inr ⟨rfl,z7C (by omega) h3,by unfold makeE;rw[if_neg h,if_neg (by simp[h2]),if_pos h3]⟩)
end P
end Go.Proofs.YtpmjcbjdcjjplaaGreatDoor
end
section
namespace Go.Proofs.YtpmjcbjdcjjplaaGreatDoor
namespace P
def mk8 (b0 b1 b2 b3 b4 b5 b6 b7:Bool):Nat:=
 b0.toNat+2*b1.toNat+4*b2.toNat+8*b3.toNat+16*b4.toNat+32*b5.toNat+64*b6.toNat+128*b7.toNat
def mask (f:Nat->Bool):Nat:=mk8 (f 0) (f 1) (f 2) (f 3) (f 4) (f 5) (f 6) (f 7)
theorem zh1:∀ b0 b1 b2 b3 b4 b5 b6 b7,mk8 b0 b1 b2 b3 b4 b5 b6 b7 < 256:=by decide +kernel
theorem zga:∀ b0 b1 b2 b3 b4 b5 b6 b7,
  (mk8 b0 b1 b2 b3 b4 b5 b6 b7).testBit 0= b0/\(mk8 b0 b1 b2 b3 b4 b5 b6 b7).testBit 1= b1/\(mk8 b0 b1 b2 b3 b4 b5 b6 b7).testBit 2= b2/\
  (mk8 b0 b1 b2 b3 b4 b5 b6 b7).testBit 3= b3/\(mk8 b0 b1 b2 b3 b4 b5 b6 b7).testBit 4= b4/\(mk8 b0 b1 b2 b3 b4 b5 b6 b7).testBit 5= b5/\
  (mk8 b0 b1 b2 b3 b4 b5 b6 b7).testBit 6= b6/\(mk8 b0 b1 b2 b3 b4 b5 b6 b7).testBit 7= b7:=by decide +kernel
theorem z0B (f:Nat->Bool):mask f < 256:=zh1 _ _ _ _ _ _ _ _
theorem z0E (f:Nat->Bool) (i:Nat) (h:i < 8):(mask f).testBit i= f i:=by
 have H:=zga (f 0) (f 1) (f 2) (f 3) (f 4) (f 5) (f 6) (f 7);unfold mask
 match i,h with
 |0,_=>exact H.1
 |1,_=>exact H.2.1
 |2,_=>exact H.2.2.1
 |3,_=>exact H.2.2.2.1
 |4,_=>exact H.2.2.2.2.1
 |5,_=>exact H.2.2.2.2.2.1
 |6,_=>exact H.2.2.2.2.2.2.1
 |7,_=>exact H.2.2.2.2.2.2.2
theorem z26 {f g:Nat->Bool} (h:∀ i,i < 8->f i= g i):mask f= mask g:=by
 unfold mask;rw[h 0 (by omega),h 1 (by omega),h 2 (by omega),h 3 (by omega),h 4 (by omega),h 5 (by omega),h 6 (by omega),h 7 (by omega)]
theorem z4S {m:Nat} (hm:m < 256) {f:Nat->Bool} (h:∀ i,i < 8->m.testBit i= f i):m= mask f:=by
 apply Nat.eq_of_testBit_eq;intro i;by_cases hi:i < 8
 ·rw[z0E f i hi,h i hi]
 ·have h2:(2:Nat) ^ 8<=2 ^ i:=Nat.pow_le_pow_right (by decide) (by omega)
  rw[Nat.testBit_lt_two_pow (by omega),Nat.testBit_lt_two_pow (by have:=z0B f;omega)]
theorem zf3 {f g:Nat->Bool} (h:mask f= mask g) (i:Nat) (hi:i < 8):f i= g i:=by
 rw[← z0E f i hi,← z0E g i hi,h]
theorem zf2 (f g:Nat->Bool):mask f &&& mask g= mask (fun i=>f i && g i):=by
 refine z4S (Nat.and_lt_two_pow (n:=8) _ (z0B g)) fun i hi=> ?_;rw[Nat.testBit_and,z0E f i hi,z0E g i hi]
theorem zg9 (f g:Nat->Bool):mask f ||| mask g= mask (fun i=>f i || g i):=by
 refine z4S (Nat.or_lt_two_pow (n:=8) (z0B f) (z0B g)) fun i hi=> ?_;rw[Nat.testBit_or,z0E f i hi,z0E g i hi]
theorem z8L (y:Nat) (hy:y < 8):2 ^ y= mask (fun i=>i ==y):=by
 refine z4S (by have:(2:Nat) ^ y<=2 ^ 7:=Nat.pow_le_pow_right (by decide) (by omega);omega) fun i _=> ?_;rw[Nat.testBit_two_pow];by_cases h:y= i
 ·simp[h]
 ·simp[h];omega
theorem z85 (f g:Nat->Bool):bits .and .u8 (mask f:Int) (mask g:Int)=(mask (fun i=>f i && g i):Nat):=by
 rw[(bits_nat .u8 8 (by decide) wraps_u8 _ _ (z0B f) (z0B g)).1,zf2]
theorem or_u8 (f g:Nat->Bool):bits .or .u8 (mask f:Int) (mask g:Int)=(mask (fun i=>f i || g i):Nat):=by
 rw[(bits_nat .u8 8 (by decide) wraps_u8 _ _ (z0B f) (z0B g)).2,zg9]
theorem zcL (f:Nat->Bool) (y:Nat) (hy:y < 8):bits .or .u8 (mask f:Int) (2 ^ y)=(mask (fun i=>f i || i ==y):Nat):=by
 have e:((2:Int) ^ y)=((mask (fun i=>i ==y):Nat):Int):=by rw[← z8L y hy];simp
 rw[e,or_u8]
theorem z4e (f:Nat->Bool) (y:Nat) (hy:y < 8):(bits .and .u8 ((mask f:Int) / 2 ^ y) 1 ==1)= f y:=by
 have e:((mask f:Int) / 2 ^ y)=((mask f / 2 ^ y:Nat):Int):=by simp
 have A:mask f / 2 ^ y < 256:=Nat.lt_of_le_of_lt (Nat.div_le_self _ _) (z0B f);have e1:(1:Int)=((1:Nat):Int):=rfl;rw[e,e1,(bits_nat .u8 8 (by decide) wraps_u8 _ _ A (by decide)).1];have C:=z0E f y hy;rw[← C,Nat.testBit,Nat.shiftRight_eq_div_pow];rw[Nat.and_comm];have h1:1 &&& mask f / 2 ^ y= mask f / 2 ^ y % 2:=Nat.one_and_eq_mod_two _;have g:mask f / 2 ^ y % 2 < 2:=Nat.mod_lt _ (by decide);rw[h1];generalize mask f / 2 ^ y % 2= z at*
 match z,g with
 |0,_=>rfl
 |1,_=>rfl
def low (f:Nat->Bool):Nat:=Lib.trailingZeros8 (mask f)
theorem zg6:∀ m:Fin 256,m.val≠0->Lib.trailingZeros8 m.val < 8/\m.val.testBit (Lib.trailingZeros8 m.val)= true/\
  (∀ i:Fin 8,i.val < Lib.trailingZeros8 m.val->m.val.testBit i.val= false)/\
  (∀ i:Fin 8,(m.val &&& (m.val - 1)).testBit i.val=(m.val.testBit i.val && decide (Lib.trailingZeros8 m.val < i.val))):=by decide +kernel
theorem zg8 (f:Nat->Bool) (h:mask f≠0):low f < 8/\f (low f)= true/\(∀ i,i < low f->f i= false)/\
  mask f &&& (mask f - 1)= mask (fun i=>f i && decide (low f < i)):=by
 obtain⟨h1,h2,h3,h4⟩:=zg6 ⟨mask f,z0B f⟩ h;refine⟨h1,?_,?_,?_⟩
 ·exact(z0E f (low f) h1).symm.trans h2
 ·intro i g
  have A:i < 8:=Nat.lt_trans g h1;rw[← z0E f i A];exact h3 ⟨i,A⟩ g
 ·refine z4S (Nat.and_lt_two_pow (n:=8) _ (by have:=z0B f;simp;omega)) fun i g=> ?_
  rw[← z0E f i g];exact h4 ⟨i,g⟩
theorem zcx (f:Nat->Bool) (h:mask f= 0) (i:Nat) (hi:i < 8):f i= false:=by
 rw[← z0E f i hi,h];simp
theorem z69:mask (fun _=>false)= 0:=by decide
def good (S:Nat->Bool) (R:Rel) (c:Nat):Bool:=S c && (mask (fun i=>R c i && S i) ==mask S)
def z0c (S:Nat->Bool) (R:Rel):Nat->Nat->Int
 |0,_=> -1
 |k+1,c=>if good S R c then c else z0c S R k (c+1)
def leastOf (S:Nat->Bool) (R:Rel):Int:=z0c S R 8 0
theorem z3p (S:Nat->Bool) (R:Rel) (c d:Nat) (hcd:c<=d) (hd:d<=8) (h:∀ i,c<=i->i < d->S i= false):
  z0c S R (8 - c) c= z0c S R (8 - d) d:=by
 obtain⟨k,rfl⟩:∃ k,d= c+k:=⟨d - c,by omega⟩;clear hcd
 induction k with
 |zero=>rfl
 |succ k ih=>
  rw[ih (by omega) (fun i h1 h2=>h i h1 (by omega))];have e:8 - (c+k)=(8 - (c+ (k+1)))+1:=by omega
  rw[e,z0c];have g:good S R (c+k)= false:=by unfold good;rw[h (c+k) (by omega) (by omega)];rfl
  rw[g];rfl
theorem z7Z (S:Nat->Bool) (R:Rel) (d:Nat) (hd:d < 8) (h:good S R d= true):z0c S R (8 - d) d= d:=by
 have e:8 - d=(8 - (d+1))+1:=by omega
 rw[e,z0c,if_pos h]
theorem z6O (S:Nat->Bool) (R:Rel) (d:Nat) (hd:d < 8) (h:good S R d= false):z0c S R (8 - d) d= z0c S R (8 - (d+1)) (d+1):=by
 have e:8 - d=(8 - (d+1))+1:=by omega
 conv=>lhs;rw[e,z0c]
 rw[h];rfl
theorem z6P (S:Nat->Bool) (R:Rel) (c:Nat) (hc:c<=8) (h:∀ i,c<=i->i < 8->S i= false):z0c S R (8 - c) c= -1:=by
 rw[z3p S R c 8 hc (by omega) h];rfl
end P
end Go.Proofs.YtpmjcbjdcjjplaaGreatDoor
end
