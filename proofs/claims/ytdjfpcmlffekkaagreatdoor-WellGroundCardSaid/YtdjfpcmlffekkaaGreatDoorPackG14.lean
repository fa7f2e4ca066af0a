/- Parts of a proof: LatRead, LatRead2, LatRead3. -/
import Derived.Test.YtdjfpcmlffekkaaGreatDoorProg
import Derived.Test.YtdjfpcmlffekkaaGreatDoorPackG1
import Derived.Test.YtdjfpcmlffekkaaGreatDoorPackG13
set_option maxHeartbeats 8000000
set_option maxRecDepth 100000
set_option linter.unusedVariables false
set_option linter.unusedSimpArgs false
namespace Go.Proofs.YtdjfpcmlffekkaaGreatDoor
section
open Go.RowKit P
def isL (n:Nat) (a:Int):Bool:=decide (0<=a) && decide (a < n)
theorem z7j {n:Nat} {a:Int} (h:isL n a= true):∃ x:Nat,a= x/\x < n:=by
 unfold isL at h;simp at h;exact⟨a.toNat,by omega,by omega⟩
theorem z8N {n x:Nat} (h:x < n):isL n x= true:=by unfold isL;simp;omega
structure LatAt (w:World) (b:Nat) (n:Nat) (R:Rel) (J M:Nat->Nat->Int):Prop where
 cn:w.cell? ⟨b,0,none⟩= some (.int .i64 n)
 cu:∀ i,i < 8->w.cell? ⟨b,1+i,none⟩= some (.int .u8 (mask (R i)))
 cd:∀ i,i < 8->w.cell? ⟨b,9+i,none⟩= some (.int .u8 (mask (fun a=>R a i)))
 cj:∀ i j,i < 8->j < 8->w.cell? ⟨b,17+i*8+j,none⟩= some (.int .i8 (J i j))
 cm:∀ i j,i < 8->j < 8->w.cell? ⟨b,81+i*8+j,none⟩= some (.int .i8 (M i j))
theorem z7k (b:Nat) (n:Nat) (a:Int) (w:World) (hn:w.cell? ⟨b,0,none⟩= some (.int .i64 n)):
  Calls Tryz.prog 63 #[.pointer (some ⟨b,0,none⟩),.int .i64 a] w fun e w'=>e= .returned (.bool (isL n a))/\w= w':=by
 go_enter Tryz.func63,Tryz.ntmps63;go_wp2;all_goals (go_ret;refine⟨z8 ?_,rfl⟩;unfold isL;simp;try omega)
theorem zeM (bk:Nat) (n:Nat) (R:Rel) (J M:Nat->Nat->Int) (x y:Nat) (w:World) (h8:n<=8) (hl:LatAt w bk n R J M)
  (hx:x < n) (hy:y < n):
  Calls Tryz.prog 44 #[.pointer (some ⟨bk,0,none⟩),.int .i64 x,.int .i64 y] w fun e w'=>e= .returned (.bool (R x y))/\w= w':=by
 have C:=hl.cn;have F:=hl.cu x (by omega);have g:=z8N hx;have A:=z8N hy;go_enter Tryz.func44,Tryz.ntmps44;go_wp2_with (go_at_call 63;refine(z7k _ _ _ _ C).mono ?_;rintro e w' ⟨rfl,rfl⟩);go_ret;exact⟨z8 (z3t _ _ (by omega)),rfl⟩
theorem ze5 (bk:Nat) (n:Nat) (a b:Int) (w:World) (hn:w.cell? ⟨bk,0,none⟩= some (.int .i64 n))
  (h:(isL n a && isL n b)= false):
  Calls Tryz.prog 44 #[.pointer (some ⟨bk,0,none⟩),.int .i64 a,.int .i64 b] w fun e w'=>e= .returned (.bool false)/\w= w':=by
 cases ha:isL n a with
 |false=>
  clear h;go_enter Tryz.func44,Tryz.ntmps44;go_wp2_with (go_at_call 63;refine(z7k _ _ _ _ hn).mono ?_;rintro e w' ⟨rfl,rfl⟩);go_ret;exact⟨rfl,rfl⟩
 |true=>
  have g:isL n b= false:=by simpa [ha] using h
  clear h;go_enter Tryz.func44,Tryz.ntmps44;go_wp2_with (go_at_call 63;refine(z7k _ _ _ _ hn).mono ?_;rintro e w' ⟨rfl,rfl⟩);go_ret;exact⟨rfl,rfl⟩
theorem ze4 (bk:Nat) (n:Nat) (R:Rel) (J M:Nat->Nat->Int) (a b:Int) (w:World) (h8:n<=8) (hl:LatAt w bk n R J M):
  Calls Tryz.prog 44 #[.pointer (some ⟨bk,0,none⟩),.int .i64 a,.int .i64 b] w fun e w'=>
   e= .returned (.bool (isL n a && isL n b && R a.toNat b.toNat))/\w= w':=by
 cases h:(isL n a && isL n b) with
 |false=>exact(ze5 bk n a b w hl.cn h).mono fun e w' ⟨he,hw⟩=>⟨by simpa using he,hw⟩
 |true=>
  rw[Bool.and_eq_true] at h;obtain⟨x,rfl,g⟩:=z7j h.1;obtain⟨y,rfl,A⟩:=z7j h.2;exact(zeM bk n R J M x y w h8 hl g A).mono fun e w' ⟨he,hw⟩=>⟨by simpa using he,hw⟩
end
section
open Go.RowKit P
theorem zaf (c:UInt8):wrap64 (c.toNat:Int)= c.toNat:=IntWalk.wrap64_in _ ⟨by omega,by have:=c.toNat_lt;omega⟩
theorem zes (x:Nat) (hx:x < 256) (w:World):
  Calls Tryz.prog 72 #[.int .u8 x] w fun e w'=>e= .returned (.int .i64 (Lib.trailingZeros8 x))/\w= w':=by
 have h:=Lib.ntz8_eq ⟨x,hx⟩;simp only at h;rw[← h];clear h;go_enter Tryz.func72,Tryz.ntmps72;go_wp2;go_ret;refine⟨zS (k:= .i64) ?_,rfl⟩;rw[zaf];unfold Lib.ntz8;have g:x < Lib.ntz8tab.size:=by assumption
 simp[getElem?_pos Lib.ntz8tab x g]
theorem tz8 (f:Nat->Bool) (w:World):
  Calls Tryz.prog 72 #[.int .u8 (mask f)] w fun e w'=>e= .returned (.int .i64 (low f))/\w= w':=
 zes (mask f) (z0x f) w
end
section
open Go.RowKit P
def zA (S:Nat->Bool) (c:Nat):Nat->Bool:=fun i=>S i && decide (c<=i)
theorem zbi (S:Nat->Bool):mask (zA S 0)= mask S:=z1G fun i _=>by simp[zA]
theorem zbg (S:Nat->Bool) (c:Nat) (h:mask (zA S c)≠0):
  c<=low (zA S c)/\low (zA S c) < 8/\S (low (zA S c))= true/\(∀ i,c<=i->i < low (zA S c)->S i= false)/\
  bits .and .u8 (mask (zA S c)) ((mask (zA S c):Int) - 1)=(mask (zA S (low (zA S c)+1)):Nat)/\
  mask (zA S (low (zA S c)+1)) < mask (zA S c):=by
 obtain⟨h1,h2,h3,h4⟩:=ze8 _ h;have K:S (low (zA S c))= true/\c<=low (zA S c):=by
  have:=h2;unfold zA at this ⊢;simpa using this
 have G:mask (zA S c) &&& (mask (zA S c) - 1)= mask (zA S (low (zA S c)+1)):=by
  rw[h4];refine z1G fun i _=> ?_;by_cases A:low (zA S c) < i
  ·have C:c<=i:=by omega
   have g:low (zA S c)+1<=i:=A;simp only[zA] at g A ⊢;simp[A,g,C]
  ·have g: ¬ low (zA S c)+1<=i:=by omega
   simp only[zA] at g A ⊢;simp[A,g]
 refine⟨K.2,h1,K.1,?_,?_,?_⟩
 ·intro i A F
  have:=h3 i F;unfold zA at this
  simpa [A] using this
 ·have e:((mask (zA S c):Int) - 1)=((mask (zA S c) - 1:Nat):Int):=by omega
  have F:=z0x (zA S c);rw[e,(bits_nat .u8 8 (by decide) wraps_u8 _ _ F (by simp;omega)).1,G]
 ·rw[← G]
  have:=Nat.and_le_right (n:=mask (zA S c)) (m:=mask (zA S c) - 1);omega
theorem zbh (S:Nat->Bool) (c:Nat) (h:mask (zA S c)= 0) (i:Nat) (hc:c<=i) (hi:i < 8):S i= false:=by
 have:=zaR _ h i hi;unfold zA at this
 simpa [hc] using this
theorem z6k (b o:Nat) (S:Nat->Bool) (R:Rel) (w:World) (hc:∀ i,i < 8->w.cell? ⟨b,o+i,none⟩= some (.int .u8 (mask (R i)))):
  Calls Tryz.prog 47 #[.int .u8 (mask S),.pointer (some ⟨b,o,none⟩)] w fun e w'=>e= .returned (.int .i8 (leastOf S R))/\w= w':=by
 have HC:=I hc;clear hc;go_enter Tryz.func47,Tryz.ntmps47;go_wp2
 go_loop [5] (fun r=>∃ c:Nat,c<=8/\r= .int .u8 (mask (zA S c))/\leastOf S R= z0b S R (8 - c) c)
  (fun r=>(intOf r).toNat)
 case atStart=>exact⟨0,by omega,by rw[zbi],rfl⟩
 case round=>
  obtain⟨c,K,rfl,hq⟩:=hrel;have G:=I hq;clear hq;by_cases hz:mask (zA S c)= 0
  ·have HZ:=I hz
   have ht:((mask (zA S c):Int) !=0)= false:=by simp[hz]
   clear hz;go_wp2;go_ret;exact⟨zS (by rw[G.o,z5O S R c K (zbh S c HZ.o)]),rfl⟩
  ·obtain⟨h1,h2,h3,h4,h5,h6⟩:=zbg S c hz
   have ht:((mask (zA S c):Int) !=0)= true:=by simp;omega
   have a2:1<=mask (zA S c):=by omega
   have a8:=z0x (zA S c);have N:=HC.o (low (zA S c)) h2;have X:=I h5;have H4:=I h4;have H3:=I h3;have C:=tz8 (zA S c) w;have TZ:=I C;have g:=z2J S R c _ h1 (by omega) h4;have HS:=I g;have A:=z6S (R (low (zA S c))) S;have Y:=I A;clear C h5 h4 h3 hz g A;generalize hd:low (zA S c)= d at*;clear hd;cases hg:good S R d with
   |true=>
    have he:(bits .and .u8 (mask (R d)) (mask S) ==(mask S:Int))= true:=by
     rw[Y.o];unfold good at hg;simp at hg;simp[hg.2]
    have F:=I hg;clear hg;go_wp2_with (go_at_call 72;refine TZ.o.mono ?_;rintro e w' ⟨rfl,rfl⟩);go_ret;refine⟨zS (k:= .i8) ?_,rfl⟩;rw[G.o,HS.o,z6N S R d h2 F.o]
   |false=>
    have he:(bits .and .u8 (mask (R d)) (mask S) ==(mask S:Int))= false:=by
     rw[Y.o];have O:=H3.o;unfold good at hg;simp[O] at hg;simp;omega
    have F:=I hg;clear hg;go_wp2_with (go_at_call 72;refine TZ.o.mono ?_;rintro e w' ⟨rfl,rfl⟩)
    go_round
    case rel=>exact⟨d+1,by omega,by rw[X.o],by rw[G.o,HS.o,z5N S R d h2 F.o]⟩
    case measure=>
     have h5:=X.o;rw[h5];simp[intOf];omega
end
end Go.Proofs.YtdjfpcmlffekkaaGreatDoor
