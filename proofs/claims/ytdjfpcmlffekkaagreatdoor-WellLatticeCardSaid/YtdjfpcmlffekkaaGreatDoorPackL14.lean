/- Parts of a proof: LatRead, LatRead2, LatRead3. -/
import Derived.Test.YtdjfpcmlffekkaaGreatDoorProg
import Derived.Test.YtdjfpcmlffekkaaGreatDoorPackL1
import Derived.Test.YtdjfpcmlffekkaaGreatDoorPackL13
set_option maxHeartbeats 8000000
set_option maxRecDepth 100000
set_option linter.unusedVariables false
set_option linter.unusedSimpArgs false
namespace Go.Proofs.YtdjfpcmlffekkaaGreatDoor
section
open Go.RowKit P
def isL (n:Nat) (a:Int):Bool:=decide (0<=a) && decide (a < n)
theorem z7T {n:Nat} {a:Int} (h:isL n a= true):∃ x:Nat,a= x/\x < n:=by
 unfold isL at h;simp at h;exact⟨a.toNat,by omega,by omega⟩
theorem z9f {n x:Nat} (h:x < n):isL n x= true:=by unfold isL;simp;omega
structure LatAt (w:World) (b:Nat) (n:Nat) (R:Rel) (J M:Nat->Nat->Int):Prop where
 cn:w.cell? ⟨b,0,none⟩= some (.int .i64 n)
 cu:∀ i,i < 8->w.cell? ⟨b,1+i,none⟩= some (.int .u8 (mask (R i)))
 cd:∀ i,i < 8->w.cell? ⟨b,9+i,none⟩= some (.int .u8 (mask (fun a=>R a i)))
 cj:∀ i j,i < 8->j < 8->w.cell? ⟨b,17+i*8+j,none⟩= some (.int .i8 (J i j))
 cm:∀ i j,i < 8->j < 8->w.cell? ⟨b,81+i*8+j,none⟩= some (.int .i8 (M i j))
theorem z8a (b:Nat) (n:Nat) (a:Int) (w:World) (hn:w.cell? ⟨b,0,none⟩= some (.int .i64 n)):
  Calls Tryz.prog 63 #[.pointer (some ⟨b,0,none⟩),.int .i64 a] w fun e w'=>e= .returned (.bool (isL n a))/\w= w':=by
 go_enter Tryz.func63,Tryz.ntmps63
 go_wp2
 all_goals (go_ret;refine⟨zb ?_,rfl⟩;unfold isL;simp;try omega)
theorem zfh (bk:Nat) (n:Nat) (R:Rel) (J M:Nat->Nat->Int) (x y:Nat) (w:World) (h8:n<=8) (hl:LatAt w bk n R J M)
  (hx:x < n) (hy:y < n):
  Calls Tryz.prog 44 #[.pointer (some ⟨bk,0,none⟩),.int .i64 x,.int .i64 y] w fun e w'=>e= .returned (.bool (R x y))/\w= w':=by
 have hn:=hl.cn
 have hu:=hl.cu x (by omega)
 have hbx:=z9f hx
 have hby:=z9f hy
 go_enter Tryz.func44,Tryz.ntmps44
 go_wp2_with (go_at_call 63;refine(z8a _ _ _ _ hn).mono ?_;rintro e w' ⟨rfl,rfl⟩)
 go_ret
 exact⟨zb (z3V _ _ (by omega)),rfl⟩
theorem zeN (bk:Nat) (n:Nat) (a b:Int) (w:World) (hn:w.cell? ⟨bk,0,none⟩= some (.int .i64 n))
  (h:(isL n a && isL n b)= false):
  Calls Tryz.prog 44 #[.pointer (some ⟨bk,0,none⟩),.int .i64 a,.int .i64 b] w fun e w'=>e= .returned (.bool false)/\w= w':=by
 cases ha:isL n a with
 |false=>
  clear h
  go_enter Tryz.func44,Tryz.ntmps44
  go_wp2_with (go_at_call 63;refine(z8a _ _ _ _ hn).mono ?_;rintro e w' ⟨rfl,rfl⟩)
  go_ret
  exact⟨rfl,rfl⟩
 |true=>
  have hb:isL n b= false:=by simpa [ha] using h
  clear h
  go_enter Tryz.func44,Tryz.ntmps44
  go_wp2_with (go_at_call 63;refine(z8a _ _ _ _ hn).mono ?_;rintro e w' ⟨rfl,rfl⟩)
  go_ret
  exact⟨rfl,rfl⟩
theorem zea (bk:Nat) (n:Nat) (R:Rel) (J M:Nat->Nat->Int) (a b:Int) (w:World) (h8:n<=8) (hl:LatAt w bk n R J M):
  Calls Tryz.prog 44 #[.pointer (some ⟨bk,0,none⟩),.int .i64 a,.int .i64 b] w fun e w'=>
   e= .returned (.bool (isL n a && isL n b && R a.toNat b.toNat))/\w= w':=by
 cases h:(isL n a && isL n b) with
 |false=>exact(zeN bk n a b w hl.cn h).mono fun e w' ⟨he,hw⟩=>⟨by simpa using he,hw⟩
 |true=>
  rw[Bool.and_eq_true] at h
  obtain⟨x,rfl,hx⟩:=z7T h.1
  obtain⟨y,rfl,hy⟩:=z7T h.2
  exact(zfh bk n R J M x y w h8 hl hx hy).mono fun e w' ⟨he,hw⟩=>⟨by simpa using he,hw⟩
end
section
open Go.RowKit P
theorem zb8 (c:UInt8):wrap64 (c.toNat:Int)= c.toNat:=IntWalk.wrap64_in _ ⟨by omega,by have:=c.toNat_lt;omega⟩
theorem zek (x:Nat) (hx:x < 256) (w:World):
  Calls Tryz.prog 72 #[.int .u8 x] w fun e w'=>e= .returned (.int .i64 (Lib.trailingZeros8 x))/\w= w':=by
 have h:=Lib.ntz8_eq ⟨x,hx⟩
 simp only at h
 rw[← h]
 clear h
 go_enter Tryz.func72,Tryz.ntmps72
 go_wp2
 go_ret
 refine⟨zS (k:= .i64) ?_,rfl⟩
 rw[zb8]
 unfold Lib.ntz8
 have hs:x < Lib.ntz8tab.size:=by assumption
 simp[getElem?_pos Lib.ntz8tab x hs]
theorem tz8 (f:Nat->Bool) (w:World):
  Calls Tryz.prog 72 #[.int .u8 (mask f)] w fun e w'=>e= .returned (.int .i64 (low f))/\w= w':=
 zek (mask f) (z0s f) w
end
section
open Go.RowKit P
def zy (S:Nat->Bool) (c:Nat):Nat->Bool:=fun i=>S i && decide (c<=i)
theorem zbF (S:Nat->Bool):mask (zy S 0)= mask S:=z1I fun i _=>by simp[zy]
theorem zcm (S:Nat->Bool) (c:Nat) (h:mask (zy S c)≠0):
  c<=low (zy S c)/\low (zy S c) < 8/\S (low (zy S c))= true/\(∀ i,c<=i->i < low (zy S c)->S i= false)/\
  bits .and .u8 (mask (zy S c)) ((mask (zy S c):Int) - 1)=(mask (zy S (low (zy S c)+1)):Nat)/\
  mask (zy S (low (zy S c)+1)) < mask (zy S c):=by
 obtain⟨h1,h2,h3,h4⟩:=zeo _ h
 have hs:S (low (zy S c))= true/\c<=low (zy S c):=by
  have:=h2;unfold zy at this ⊢;simpa using this
 have hm:mask (zy S c) &&& (mask (zy S c) - 1)= mask (zy S (low (zy S c)+1)):=by
  rw[h4]
  refine z1I fun i _=> ?_
  by_cases hi:low (zy S c) < i
  ·have hci:c<=i:=by omega
   have hi':low (zy S c)+1<=i:=hi
   simp only[zy] at hi' hi ⊢
   simp[hi,hi',hci]
  ·have hi': ¬ low (zy S c)+1<=i:=by omega
   simp only[zy] at hi' hi ⊢
   simp[hi,hi']
 refine⟨hs.2,h1,hs.1,?_,?_,?_⟩
 ·intro i hi hl
  have:=h3 i hl
  unfold zy at this
  simpa [hi] using this
 ·have e:((mask (zy S c):Int) - 1)=((mask (zy S c) - 1:Nat):Int):=by omega
  have hl:=z0s (zy S c)
  rw[e,(bits_nat .u8 8 (by decide) wraps_u8 _ _ hl (by simp;omega)).1,hm]
 ·rw[← hm]
  have:=Nat.and_le_right (n:=mask (zy S c)) (m:=mask (zy S c) - 1)
  omega
theorem zc7 (S:Nat->Bool) (c:Nat) (h:mask (zy S c)= 0) (i:Nat) (hc:c<=i) (hi:i < 8):S i= false:=by
 have:=zb2 _ h i hi
 unfold zy at this
 simpa [hc] using this
theorem z6V (b o:Nat) (S:Nat->Bool) (R:Rel) (w:World) (hc:∀ i,i < 8->w.cell? ⟨b,o+i,none⟩= some (.int .u8 (mask (R i)))):
  Calls Tryz.prog 47 #[.int .u8 (mask S),.pointer (some ⟨b,o,none⟩)] w fun e w'=>e= .returned (.int .i8 (leastOf S R))/\w= w':=by
 have HC:=I hc
 clear hc
 go_enter Tryz.func47,Tryz.ntmps47
 go_wp2
 go_loop [5] (fun r=>∃ c:Nat,c<=8/\r= .int .u8 (mask (zy S c))/\leastOf S R= z05 S R (8 - c) c)
  (fun r=>(intOf r).toNat)
 case atStart=>exact⟨0,by omega,by rw[zbF],rfl⟩
 case round=>
  obtain⟨c,hc8,rfl,hq⟩:=hrel
  have HQ:=I hq
  clear hq
  by_cases hz:mask (zy S c)= 0
  ·have HZ:=I hz
   have ht:((mask (zy S c):Int) !=0)= false:=by simp[hz]
   clear hz
   go_wp2
   go_ret
   exact⟨zS (by rw[HQ.o,z6h S R c hc8 (zc7 S c HZ.o)]),rfl⟩
  ·obtain⟨h1,h2,h3,h4,h5,h6⟩:=zcm S c hz
   have ht:((mask (zy S c):Int) !=0)= true:=by simp;omega
   have hpos:1<=mask (zy S c):=by omega
   have hlt:=z0s (zy S c)
   have hcell:=HC.o (low (zy S c)) h2
   have H5:=I h5
   have H4:=I h4
   have H3:=I h3
   have tzc:=tz8 (zy S c) w
   have TZ:=I tzc
   have hskip:=z2W S R c _ h1 (by omega) h4
   have HS:=I hskip
   have hand:=z7n (R (low (zy S c))) S
   have HA:=I hand
   clear tzc h5 h4 h3 hz hskip hand
   generalize hd:low (zy S c)= d at*
   clear hd
   cases hg:good S R d with
   |true=>
    have he:(bits .and .u8 (mask (R d)) (mask S) ==(mask S:Int))= true:=by
     rw[HA.o];unfold good at hg;simp at hg;simp[hg.2]
    have HG:=I hg
    clear hg
    go_wp2_with (go_at_call 72;refine TZ.o.mono ?_;rintro e w' ⟨rfl,rfl⟩)
    go_ret
    refine⟨zS (k:= .i8) ?_,rfl⟩
    rw[HQ.o,HS.o,z79 S R d h2 HG.o]
   |false=>
    have he:(bits .and .u8 (mask (R d)) (mask S) ==(mask S:Int))= false:=by
     rw[HA.o]
     have hs3:=H3.o
     unfold good at hg
     simp[hs3] at hg
     simp
     omega
    have HG:=I hg
    clear hg
    go_wp2_with (go_at_call 72;refine TZ.o.mono ?_;rintro e w' ⟨rfl,rfl⟩)
    go_round
    case rel=>exact⟨d+1,by omega,by rw[H5.o],by rw[HQ.o,HS.o,z65 S R d h2 HG.o]⟩
    case measure=>
     have h5:=H5.o
     rw[h5]
     simp[intOf]
     omega
end
end Go.Proofs.YtdjfpcmlffekkaaGreatDoor
