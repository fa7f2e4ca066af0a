/- Parts of a proof: LatRead, LatRead2, LatRead3. -/
import Derived.Test.YtpmjcbjdcjjplaaGreatDoorPackS1
import Derived.Test.YtpmjcbjdcjjplaaGreatDoorPackS13
set_option maxHeartbeats 8000000
set_option maxRecDepth 100000
set_option linter.unusedVariables false
set_option linter.unusedSimpArgs false
namespace Go.Proofs.YtpmjcbjdcjjplaaGreatDoor
section
open Go.RowKit P
def isL (n:Nat) (a:Int):Bool:=decide (0<=a) && decide (a < n)
theorem z8z {n:Nat} {a:Int} (h:isL n a= true):∃ x:Nat,a= x/\x < n:=by
 unfold isL at h;simp at h;exact⟨a.toNat,by omega,by omega⟩
theorem zah {n x:Nat} (h:x < n):isL n x= true:=by unfold isL;simp;omega
structure LatAt (w:World) (b:Nat) (n:Nat) (R:Rel) (J M:Nat->Nat->Int):Prop where
 cn:w.cell? ⟨b,0,none⟩= some (.int .i64 n)
 cu:∀ i,i < 8->w.cell? ⟨b,1+i,none⟩= some (.int .u8 (mask (R i)))
 cd:∀ i,i < 8->w.cell? ⟨b,9+i,none⟩= some (.int .u8 (mask (fun a=>R a i)))
 cj:∀ i j,i < 8->j < 8->w.cell? ⟨b,17+i*8+j,none⟩= some (.int .i8 (J i j))
 cm:∀ i j,i < 8->j < 8->w.cell? ⟨b,81+i*8+j,none⟩= some (.int .i8 (M i j))
theorem z8A (b:Nat) (n:Nat) (a:Int) (w:World) (hn:w.cell? ⟨b,0,none⟩= some (.int .i64 n)):
  Calls Tryz.prog 93 #[.pointer (some ⟨b,0,none⟩),.int .i64 a] w fun e w'=>e= .returned (.bool (isL n a))/\w= w':=by
 go_enter Tryz.func93,Tryz.ntmps93;go_wp2;all_goals (go_ret;refine⟨z8 ?_,rfl⟩;unfold isL;simp;try omega)
theorem zgT (bk:Nat) (n:Nat) (R:Rel) (J M:Nat->Nat->Int) (x y:Nat) (w:World) (h8:n<=8) (hl:LatAt w bk n R J M)
  (hx:x < n) (hy:y < n):
  Calls Tryz.prog 60 #[.pointer (some ⟨bk,0,none⟩),.int .i64 x,.int .i64 y] w fun e w'=>e= .returned (.bool (R x y))/\w= w':=by
 have C:=hl.cn;have G:=hl.cu x (by omega);have g:=zah hx;have A:=zah hy;go_enter Tryz.func60,Tryz.ntmps60;go_wp2_with (go_at_call 93;refine(z8A _ _ _ _ C).mono ?_;rintro e w' ⟨rfl,rfl⟩);go_ret;exact⟨z8 (z4e _ _ (by omega)),rfl⟩
theorem zg5 (bk:Nat) (n:Nat) (a b:Int) (w:World) (hn:w.cell? ⟨bk,0,none⟩= some (.int .i64 n))
  (h:(isL n a && isL n b)= false):
  Calls Tryz.prog 60 #[.pointer (some ⟨bk,0,none⟩),.int .i64 a,.int .i64 b] w fun e w'=>e= .returned (.bool false)/\w= w':=by
 cases ha:isL n a with
 |false=>
  clear h;go_enter Tryz.func60,Tryz.ntmps60;go_wp2_with (go_at_call 93;refine(z8A _ _ _ _ hn).mono ?_;rintro e w' ⟨rfl,rfl⟩);go_ret;exact⟨rfl,rfl⟩
 |true=>
  have g:isL n b= false:=by simpa [ha] using h
  clear h;go_enter Tryz.func60,Tryz.ntmps60;go_wp2_with (go_at_call 93;refine(z8A _ _ _ _ hn).mono ?_;rintro e w' ⟨rfl,rfl⟩);go_ret;exact⟨rfl,rfl⟩
theorem zg4 (bk:Nat) (n:Nat) (R:Rel) (J M:Nat->Nat->Int) (a b:Int) (w:World) (h8:n<=8) (hl:LatAt w bk n R J M):
  Calls Tryz.prog 60 #[.pointer (some ⟨bk,0,none⟩),.int .i64 a,.int .i64 b] w fun e w'=>
   e= .returned (.bool (isL n a && isL n b && R a.toNat b.toNat))/\w= w':=by
 cases h:(isL n a && isL n b) with
 |false=>exact(zg5 bk n a b w hl.cn h).mono fun e w' ⟨he,hw⟩=>⟨by simpa using he,hw⟩
 |true=>
  rw[Bool.and_eq_true] at h;obtain⟨x,rfl,g⟩:=z8z h.1;obtain⟨y,rfl,A⟩:=z8z h.2;exact(zgT bk n R J M x y w h8 hl g A).mono fun e w' ⟨he,hw⟩=>⟨by simpa using he,hw⟩
end
section
open Go.RowKit P
theorem zbU (c:UInt8):wrap64 (c.toNat:Int)= c.toNat:=IntWalk.wrap64_in _ ⟨by omega,by have:=c.toNat_lt;omega⟩
theorem zgw (x:Nat) (hx:x < 256) (w:World):
  Calls Tryz.prog 172 #[.int .u8 x] w fun e w'=>e= .returned (.int .i64 (Lib.trailingZeros8 x))/\w= w':=by
 have h:=Lib.ntz8_eq ⟨x,hx⟩;simp only at h;rw[← h];clear h;go_enter Tryz.func172,Tryz.ntmps172;go_wp2;go_ret;refine⟨zW (k:= .i64) ?_,rfl⟩;rw[zbU];unfold Lib.ntz8;have g:x < Lib.ntz8tab.size:=by assumption
 simp[getElem?_pos Lib.ntz8tab x g]
theorem tz8 (f:Nat->Bool) (w:World):
  Calls Tryz.prog 172 #[.int .u8 (mask f)] w fun e w'=>e= .returned (.int .i64 (low f))/\w= w':=
 zgw (mask f) (z0B f) w
end
section
open Go.RowKit P
def zF (S:Nat->Bool) (c:Nat):Nat->Bool:=fun i=>S i && decide (c<=i)
theorem zcY (S:Nat->Bool):mask (zF S 0)= mask S:=z26 fun i _=>by simp[zF]
theorem zcW (S:Nat->Bool) (c:Nat) (h:mask (zF S c)≠0):
  c<=low (zF S c)/\low (zF S c) < 8/\S (low (zF S c))= true/\(∀ i,c<=i->i < low (zF S c)->S i= false)/\
  bits .and .u8 (mask (zF S c)) ((mask (zF S c):Int) - 1)=(mask (zF S (low (zF S c)+1)):Nat)/\
  mask (zF S (low (zF S c)+1)) < mask (zF S c):=by
 obtain⟨h1,h2,h3,h4⟩:=zg8 _ h;have N:S (low (zF S c))= true/\c<=low (zF S c):=by
  have:=h2;unfold zF at this ⊢;simpa using this
 have K:mask (zF S c) &&& (mask (zF S c) - 1)= mask (zF S (low (zF S c)+1)):=by
  rw[h4];refine z26 fun i _=> ?_;by_cases A:low (zF S c) < i
  ·have C:c<=i:=by omega
   have g:low (zF S c)+1<=i:=A;simp only[zF] at g A ⊢;simp[A,g,C]
  ·have g: ¬ low (zF S c)+1<=i:=by omega
   simp only[zF] at g A ⊢;simp[A,g]
 refine⟨N.2,h1,N.1,?_,?_,?_⟩
 ·intro i A G
  have:=h3 i G;unfold zF at this
  simpa [A] using this
 ·have e:((mask (zF S c):Int) - 1)=((mask (zF S c) - 1:Nat):Int):=by omega
  have G:=z0B (zF S c);rw[e,(bits_nat .u8 8 (by decide) wraps_u8 _ _ G (by simp;omega)).1,K]
 ·rw[← K]
  have:=Nat.and_le_right (n:=mask (zF S c)) (m:=mask (zF S c) - 1);omega
theorem zcX (S:Nat->Bool) (c:Nat) (h:mask (zF S c)= 0) (i:Nat) (hc:c<=i) (hi:i < 8):S i= false:=by
 have:=zcx _ h i hi;unfold zF at this
 simpa [hc] using this
theorem z7x (b o:Nat) (S:Nat->Bool) (R:Rel) (w:World) (hc:∀ i,i < 8->w.cell? ⟨b,o+i,none⟩= some (.int .u8 (mask (R i)))):
  Calls Tryz.prog 134 #[.int .u8 (mask S),.pointer (some ⟨b,o,none⟩)] w fun e w'=>e= .returned (.int .i8 (leastOf S R))/\w= w':=by
 have HC:=I hc;clear hc;go_enter Tryz.func134,Tryz.ntmps134;go_wp2
 go_loop [5] (fun r=>∃ c:Nat,c<=8/\r= .int .u8 (mask (zF S c))/\leastOf S R= z0c S R (8 - c) c)
  (fun r=>(intOf r).toNat)
 case atStart=>exact⟨0,by omega,by rw[zcY],rfl⟩
 case round=>
  obtain⟨c,N,rfl,hq⟩:=hrel;have K:=I hq;clear hq;by_cases hz:mask (zF S c)= 0
  ·have HZ:=I hz
   have ht:((mask (zF S c):Int) !=0)= false:=by simp[hz]
   clear hz;go_wp2;go_ret;exact⟨zW (by rw[K.o,z6P S R c N (zcX S c HZ.o)]),rfl⟩
  ·obtain⟨h1,h2,h3,h4,h5,h6⟩:=zcW S c hz
   have ht:((mask (zF S c):Int) !=0)= true:=by simp;omega
   have a3:1<=mask (zF S c):=by omega
   have a9:=z0B (zF S c);have O:=HC.o (low (zF S c)) h2;have Y:=I h5;have H4:=I h4;have H3:=I h3;have C:=tz8 (zF S c) w;have TZ:=I C;have g:=z3p S R c _ h1 (by omega) h4;have HS:=I g;have A:=z85 (R (low (zF S c))) S;have HA:=I A;clear C h5 h4 h3 hz g A;generalize hd:low (zF S c)= d at*;clear hd;cases hg:good S R d with
   |true=>
    have he:(bits .and .u8 (mask (R d)) (mask S) ==(mask S:Int))= true:=by
     rw[HA.o];unfold good at hg;simp at hg;simp[hg.2]
    have G:=I hg;clear hg;go_wp2_with (go_at_call 172;refine TZ.o.mono ?_;rintro e w' ⟨rfl,rfl⟩);go_ret;refine⟨zW (k:= .i8) ?_,rfl⟩;rw[K.o,HS.o,z7Z S R d h2 G.o]
   |false=>
    have he:(bits .and .u8 (mask (R d)) (mask S) ==(mask S:Int))= false:=by
     rw[HA.o];have X:=H3.o;unfold good at hg;simp[X] at hg;simp;omega
    have G:=I hg;clear hg;go_wp2_with (go_at_call 172;refine TZ.o.mono ?_;rintro e w' ⟨rfl,rfl⟩)
    go_round
    case rel=>exact⟨d+1,by omega,by rw[Y.o],by rw[K.o,HS.o,z6O S R d h2 G.o]⟩
    case measure=>
     have h5:=Y.o;rw[h5];simp[intOf];omega
end
end Go.Proofs.YtpmjcbjdcjjplaaGreatDoor
