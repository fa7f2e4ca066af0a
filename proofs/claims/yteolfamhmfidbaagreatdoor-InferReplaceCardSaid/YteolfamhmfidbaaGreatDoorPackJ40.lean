/- Parts of a proof: LatRead, LatRead2, LatRead3, LatRead4. -/
import Derived.Test.YteolfamhmfidbaaGreatDoorProg
import Derived.Test.YteolfamhmfidbaaGreatDoorPackJ1
import Derived.Test.YteolfamhmfidbaaGreatDoorPackJ39
set_option maxHeartbeats 8000000
set_option maxRecDepth 100000
set_option linter.unusedVariables false
set_option linter.unusedSimpArgs false
namespace Go.Proofs.YteolfamhmfidbaaGreatDoor
section
open Go.RowKit P
def isL (n:Nat) (a:Int):Bool:=decide (0<=a) && decide (a < n)
theorem z0G {n:Nat} {a:Int} (h:isL n a= true):∃ x:Nat,a= x/\x < n:=by
 unfold isL at h;simp at h;exact⟨a.toNat,by omega,by omega⟩
theorem z1u {n x:Nat} (h:x < n):isL n x= true:=by unfold isL;simp;omega
structure LatAt (w:World) (b:Nat) (n:Nat) (R:Rel) (J M:Nat->Nat->Int):Prop where
 cn:w.cell? ⟨b,0,none⟩= some (.int .i64 n)
 cu:∀ i,i < 8->w.cell? ⟨b,1+i,none⟩= some (.int .u8 (mask (R i)))
 cd:∀ i,i < 8->w.cell? ⟨b,9+i,none⟩= some (.int .u8 (mask (fun a=>R a i)))
 cj:∀ i j,i < 8->j < 8->w.cell? ⟨b,17+i*8+j,none⟩= some (.int .i8 (J i j))
 cm:∀ i j,i < 8->j < 8->w.cell? ⟨b,81+i*8+j,none⟩= some (.int .i8 (M i j))
theorem z2p (b:Nat) (n:Nat) (a:Int) (w:World) (hn:w.cell? ⟨b,0,none⟩= some (.int .i64 n)):
  Calls Tryz.prog 32 #[.pointer (some ⟨b,0,none⟩),.int .i64 a] w fun e w'=>e= .returned (.bool (isL n a))/\w= w':=by
 go_enter Tryz.func32,Tryz.ntmps32
 go_wp2
 all_goals (go_ret;refine⟨z6 ?_,rfl⟩;unfold isL;simp;try omega)
theorem zgw (bk:Nat) (n:Nat) (R:Rel) (J M:Nat->Nat->Int) (x y:Nat) (w:World) (h8:n<=8) (hl:LatAt w bk n R J M)
  (hx:x < n) (hy:y < n):
  Calls Tryz.prog 10 #[.pointer (some ⟨bk,0,none⟩),.int .i64 x,.int .i64 y] w fun e w'=>e= .returned (.bool (R x y))/\w= w':=by
 have hn:=hl.cn
 have hu:=hl.cu x (by omega)
 have hbx:=z1u hx
 have hby:=z1u hy
 go_enter Tryz.func10,Tryz.ntmps10
 go_wp2_with (go_at_call 32;refine(z2p _ _ _ _ hn).mono ?_;rintro e w' ⟨rfl,rfl⟩)
 go_ret
 exact⟨z6 (z3T _ _ (by omega)),rfl⟩
theorem zfS (bk:Nat) (n:Nat) (a b:Int) (w:World) (hn:w.cell? ⟨bk,0,none⟩= some (.int .i64 n))
  (h:(isL n a && isL n b)= false):
  Calls Tryz.prog 10 #[.pointer (some ⟨bk,0,none⟩),.int .i64 a,.int .i64 b] w fun e w'=>e= .returned (.bool false)/\w= w':=by
 cases ha:isL n a with
 |false=>
  clear h
  go_enter Tryz.func10,Tryz.ntmps10
  go_wp2_with (go_at_call 32;refine(z2p _ _ _ _ hn).mono ?_;rintro e w' ⟨rfl,rfl⟩)
  go_ret
  exact⟨rfl,rfl⟩
 |true=>
  have hb:isL n b= false:=by simpa [ha] using h
  clear h
  go_enter Tryz.func10,Tryz.ntmps10
  go_wp2_with (go_at_call 32;refine(z2p _ _ _ _ hn).mono ?_;rintro e w' ⟨rfl,rfl⟩)
  go_ret
  exact⟨rfl,rfl⟩
theorem zeX (bk:Nat) (n:Nat) (R:Rel) (J M:Nat->Nat->Int) (a b:Int) (w:World) (h8:n<=8) (hl:LatAt w bk n R J M):
  Calls Tryz.prog 10 #[.pointer (some ⟨bk,0,none⟩),.int .i64 a,.int .i64 b] w fun e w'=>
   e= .returned (.bool (isL n a && isL n b && R a.toNat b.toNat))/\w= w':=by
 cases h:(isL n a && isL n b) with
 |false=>exact(zfS bk n a b w hl.cn h).mono fun e w' ⟨he,hw⟩=>⟨by simpa using he,hw⟩
 |true=>
  rw[Bool.and_eq_true] at h
  obtain⟨x,rfl,hx⟩:=z0G h.1
  obtain⟨y,rfl,hy⟩:=z0G h.2
  exact(zgw bk n R J M x y w h8 hl hx hy).mono fun e w' ⟨he,hw⟩=>⟨by simpa using he,hw⟩
theorem zdU (bk:Nat) (n:Nat) (a b:Int) (m:Bool) (w:World) (hn:w.cell? ⟨bk,0,none⟩= some (.int .i64 n))
  (h:(isL n a && isL n b)= false):
  Calls Tryz.prog 98 #[.pointer (some ⟨bk,0,none⟩),.int .i64 a,.int .i64 b,.bool m] w fun e w'=>e= .returned (.tuple #[.int .i64 0,.int .i64 3])/\w= w':=by
 cases ha:isL n a with
 |false=>
  clear h
  go_enter Tryz.func98,Tryz.ntmps98
  go_wp2_with (go_at_call 32;refine(z2p _ _ _ _ hn).mono ?_;rintro e w' ⟨rfl,rfl⟩)
  go_ret2
  exact⟨rfl,rfl⟩
 |true=>
  have hb:isL n b= false:=by simpa [ha] using h
  clear h
  go_enter Tryz.func98,Tryz.ntmps98
  go_wp2_with (go_at_call 32;refine(z2p _ _ _ _ hn).mono ?_;rintro e w' ⟨rfl,rfl⟩)
  go_ret2
  exact⟨rfl,rfl⟩
theorem zeS (bk:Nat) (n:Nat) (R:Rel) (J M:Nat->Nat->Int) (x y:Nat) (m:Bool) (w:World) (h8:n<=8) (hl:LatAt w bk n R J M)
  (hx:x < n) (hy:y < n) (bj: -128<=J x y/\J x y<=127) (bm: -128<=M x y/\M x y<=127):
  Calls Tryz.prog 98 #[.pointer (some ⟨bk,0,none⟩),.int .i64 x,.int .i64 y,.bool m] w fun e w'=>
   e= .returned (.tuple #[.int .i64 (if m then M x y else J x y),.int .i64 0])/\w= w':=by
 have hn:=hl.cn
 have hj:=hl.cj x y (by omega) (by omega)
 have hm:=hl.cm x y (by omega) (by omega)
 have hbx:=z1u hx
 have hby:=z1u hy
 obtain⟨bj1,bj2⟩:=bj
 obtain⟨bm1,bm2⟩:=bm
 generalize J x y= jj at*
 generalize M x y= mm at*
 cases m with
 |false=>
  go_enter Tryz.func98,Tryz.ntmps98
  go_wp2_with (go_at_call 32;refine(z2p _ _ _ _ hn).mono ?_;rintro e w' ⟨rfl,rfl⟩)
  go_ret2
  exact⟨rfl,rfl⟩
 |true=>
  go_enter Tryz.func98,Tryz.ntmps98
  go_wp2_with (go_at_call 32;refine(z2p _ _ _ _ hn).mono ?_;rintro e w' ⟨rfl,rfl⟩)
  go_ret2
  exact⟨rfl,rfl⟩
end
section
open Go.RowKit P
def tabR (n:Nat) (T:Nat->Nat->Int) (a b:Int):Int:=if isL n a && isL n b then T a.toNat b.toNat else 0
def tabE (n:Nat) (a b:Int):Int:=if isL n a && isL n b then 0 else 3
theorem zdd (bk:Nat) (n:Nat) (R:Rel) (J M:Nat->Nat->Int) (a b:Int) (m:Bool) (w:World) (h8:n<=8) (hl:LatAt w bk n R J M)
  (bj:∀ x y,x < n->y < n-> -128<=J x y/\J x y<=127) (bm:∀ x y,x < n->y < n-> -128<=M x y/\M x y<=127):
  Calls Tryz.prog 98 #[.pointer (some ⟨bk,0,none⟩),.int .i64 a,.int .i64 b,.bool m] w fun e w'=>
   e= .returned (.tuple #[.int .i64 (tabR n (if m then M else J) a b),.int .i64 (tabE n a b)])/\w= w':=by
 cases h:(isL n a && isL n b) with
 |false=>
  have e1:tabR n (if m then M else J) a b= 0:=by unfold tabR;rw[h];rfl
  have e2:tabE n a b= 3:=by unfold tabE;rw[h];rfl
  rw[e1,e2]
  exact zdU bk n a b m w hl.cn h
 |true=>
  have e1:tabR n (if m then M else J) a b=(if m then M a.toNat b.toNat else J a.toNat b.toNat):=by unfold tabR;rw[h];cases m<;>rfl
  have e2:tabE n a b= 0:=by unfold tabE;rw[h];rfl
  rw[e1,e2]
  rw[Bool.and_eq_true] at h
  obtain⟨x,rfl,hx⟩:=z0G h.1
  obtain⟨y,rfl,hy⟩:=z0G h.2
  exact zeS bk n R J M x y m w h8 hl hx hy (bj x y hx hy) (bm x y hx hy)
theorem zdw (bk:Nat) (n:Nat) (R:Rel) (J M:Nat->Nat->Int) (a b:Int) (w:World) (h8:n<=8) (hl:LatAt w bk n R J M)
  (bj:∀ x y,x < n->y < n-> -128<=J x y/\J x y<=127) (bm:∀ x y,x < n->y < n-> -128<=M x y/\M x y<=127):
  Calls Tryz.prog 60 #[.pointer (some ⟨bk,0,none⟩),.int .i64 a,.int .i64 b] w fun e w'=>
   e= .returned (.tuple #[.int .i64 (tabR n J a b),.int .i64 (tabE n a b)])/\w= w':=by
 have hc:=zdd bk n R J M a b false w h8 hl bj bm
 have HC:=I hc
 clear hc bj bm hl
 go_enter Tryz.func60,Tryz.ntmps60
 go_wp2_with (go_at_call 98;refine HC.o.mono ?_;rintro e w' ⟨rfl,rfl⟩)
 go_ret2
 exact⟨rfl,rfl⟩
theorem z6N (c:UInt8):wrap64 (c.toNat:Int)= c.toNat:=IntWalk.wrap64_in _ ⟨by omega,by have:=c.toNat_lt;omega⟩
theorem zfA (x:Nat) (hx:x < 256) (w:World):
  Calls Tryz.prog 121 #[.int .u8 x] w fun e w'=>e= .returned (.int .i64 (Lib.trailingZeros8 x))/\w= w':=by
 have h:=Lib.ntz8_eq ⟨x,hx⟩
 simp only at h
 rw[← h]
 clear h
 go_enter Tryz.func121,Tryz.ntmps121
 go_wp2
 go_ret
 refine⟨zt (k:= .i64) ?_,rfl⟩
 rw[z6N]
 unfold Lib.ntz8
 have hs:x < Lib.ntz8tab.size:=by assumption
 simp[getElem?_pos Lib.ntz8tab x hs]
theorem zbd (x:Nat) (hx:x < 256) (w:World):
  Calls Tryz.prog 133 #[.int .u8 x] w fun e w'=>e= .returned (.int .i64 (Lib.onesCount x))/\w= w':=by
 have h:=Lib.pop8_eq ⟨x,hx⟩
 simp only at h
 rw[← h]
 clear h
 go_enter Tryz.func133,Tryz.ntmps133
 go_wp2
 go_ret
 refine⟨zt (k:= .i64) ?_,rfl⟩
 rw[z6N]
 unfold Lib.pop8
 have hs:x < Lib.pop8tab.size:=by assumption
 simp[getElem?_pos Lib.pop8tab x hs]
theorem tz8 (f:Nat->Bool) (w:World):
  Calls Tryz.prog 121 #[.int .u8 (mask f)] w fun e w'=>e= .returned (.int .i64 (low f))/\w= w':=
 zfA (mask f) (z0b f) w
theorem ones8 (f:Nat->Bool) (w:World):
  Calls Tryz.prog 133 #[.int .u8 (mask f)] w fun e w'=>e= .returned (.int .i64 (Lib.onesCount (mask f)))/\w= w':=
 zbd (mask f) (z0b f) w
end
section
open Go.RowKit P
def zu (S:Nat->Bool) (c:Nat):Nat->Bool:=fun i=>S i && decide (c<=i)
theorem zbY (S:Nat->Bool):mask (zu S 0)= mask S:=z1x fun i _=>by simp[zu]
theorem zb8 (S:Nat->Bool) (c:Nat) (h:mask (zu S c)≠0):
  c<=low (zu S c)/\low (zu S c) < 8/\S (low (zu S c))= true/\(∀ i,c<=i->i < low (zu S c)->S i= false)/\
  bits .and .u8 (mask (zu S c)) ((mask (zu S c):Int) - 1)=(mask (zu S (low (zu S c)+1)):Nat)/\
  mask (zu S (low (zu S c)+1)) < mask (zu S c):=by
 obtain⟨h1,h2,h3,h4⟩:=zfq _ h
 have hs:S (low (zu S c))= true/\c<=low (zu S c):=by
  have:=h2;unfold zu at this ⊢;simpa using this
 have hm:mask (zu S c) &&& (mask (zu S c) - 1)= mask (zu S (low (zu S c)+1)):=by
  rw[h4]
  refine z1x fun i _=> ?_
  by_cases hi:low (zu S c) < i
  ·have hci:c<=i:=by omega
   have hi':low (zu S c)+1<=i:=hi
   simp only[zu] at hi' hi ⊢
   simp[hi,hi',hci]
  ·have hi': ¬ low (zu S c)+1<=i:=by omega
   simp only[zu] at hi' hi ⊢
   simp[hi,hi']
 refine⟨hs.2,h1,hs.1,?_,?_,?_⟩
 ·intro i hi hl
  have:=h3 i hl
  unfold zu at this
  simpa [hi] using this
 ·have e:((mask (zu S c):Int) - 1)=((mask (zu S c) - 1:Nat):Int):=by omega
  have hl:=z0b (zu S c)
  rw[e,(bits_nat .u8 8 (by decide) wraps_u8 _ _ hl (by simp;omega)).1,hm]
 ·rw[← hm]
  have:=Nat.and_le_right (n:=mask (zu S c)) (m:=mask (zu S c) - 1)
  omega
theorem zd7 (S:Nat->Bool) (c:Nat) (h:mask (zu S c)= 0) (i:Nat) (hc:c<=i) (hi:i < 8):S i= false:=by
 have:=zcd _ h i hi
 unfold zu at this
 simpa [hc] using this
theorem z6J (b o:Nat) (S:Nat->Bool) (R:Rel) (w:World) (hc:∀ i,i < 8->w.cell? ⟨b,o+i,none⟩= some (.int .u8 (mask (R i)))):
  Calls Tryz.prog 83 #[.int .u8 (mask S),.pointer (some ⟨b,o,none⟩)] w fun e w'=>e= .returned (.int .i8 (leastOf S R))/\w= w':=by
 have HC:=I hc
 clear hc
 go_enter Tryz.func83,Tryz.ntmps83
 go_wp2
 go_loop [5] (fun r=>∃ c:Nat,c<=8/\r= .int .u8 (mask (zu S c))/\leastOf S R= z00 S R (8 - c) c)
  (fun r=>(intOf r).toNat)
 case atStart=>exact⟨0,by omega,by rw[zbY],rfl⟩
 case round=>
  obtain⟨c,hc8,rfl,hq⟩:=hrel
  have HQ:=I hq
  clear hq
  by_cases hz:mask (zu S c)= 0
  ·have HZ:=I hz
   have ht:((mask (zu S c):Int) !=0)= false:=by simp[hz]
   clear hz
   go_wp2
   go_ret
   exact⟨zt (by rw[HQ.o,z6b S R c hc8 (zd7 S c HZ.o)]),rfl⟩
  ·obtain⟨h1,h2,h3,h4,h5,h6⟩:=zb8 S c hz
   have ht:((mask (zu S c):Int) !=0)= true:=by simp;omega
   have hpos:1<=mask (zu S c):=by omega
   have hlt:=z0b (zu S c)
   have hcell:=HC.o (low (zu S c)) h2
   have H5:=I h5
   have H4:=I h4
   have H3:=I h3
   have tzc:=tz8 (zu S c) w
   have TZ:=I tzc
   have hskip:=z2Z S R c _ h1 (by omega) h4
   have HS:=I hskip
   have hand:=z84 (R (low (zu S c))) S
   have HA:=I hand
   clear tzc h5 h4 h3 hz hskip hand
   generalize hd:low (zu S c)= d at*
   clear hd
   cases hg:good S R d with
   |true=>
    have he:(bits .and .u8 (mask (R d)) (mask S) ==(mask S:Int))= true:=by
     rw[HA.o];unfold good at hg;simp at hg;simp[hg.2]
    have HG:=I hg
    clear hg
    go_wp2_with (go_at_call 121;refine TZ.o.mono ?_;rintro e w' ⟨rfl,rfl⟩)
    go_ret
    refine⟨zt (k:= .i8) ?_,rfl⟩
    rw[HQ.o,HS.o,z7x S R d h2 HG.o]
   |false=>
    have he:(bits .and .u8 (mask (R d)) (mask S) ==(mask S:Int))= false:=by
     rw[HA.o]
     have hs3:=H3.o
     unfold good at hg
     simp[hs3] at hg
     simp
     omega
    have HG:=I hg
    clear hg
    go_wp2_with (go_at_call 121;refine TZ.o.mono ?_;rintro e w' ⟨rfl,rfl⟩)
    go_round
    case rel=>exact⟨d+1,by omega,by rw[H5.o],by rw[HQ.o,HS.o,z6k S R d h2 HG.o]⟩
    case measure=>
     have h5:=H5.o
     rw[h5]
     simp[intOf]
     omega
end
section
open Go.RowKit P
def z0X (n:Nat) (f:Rel):Nat->Nat->Nat
 |0,_=>0
 |k+1,a=>if Lib.onesCount (mask (f a))= n then a else z0X n f k (a+1)
def z5K (n:Nat) (f:Rel):Nat:=z0X n f n 0
theorem zdH (b o:Nat) (n:Nat) (f:Rel) (w:World) (h8:n<=8) (hn:w.cell? ⟨b,0,none⟩= some (.int .i64 n))
  (hc:∀ i,i < 8->w.cell? ⟨b,o+i,none⟩= some (.int .u8 (mask (f i)))):
  Calls Tryz.prog 97 #[.pointer (some ⟨b,0,none⟩),.pointer (some ⟨b,o,none⟩)] w fun e w'=>e= .returned (.int .i64 (z5K n f))/\∃ m,w'= w.drewN m:=by
 have HC:=I hc
 clear hc
 go_enter Tryz.func97,Tryz.ntmps97
 go_wp2
 go_loopw [10] (fun i wr=>∃ a m:Nat,a<=n/\i= .int .i64 a/\z5K n f= z0X n f (n - a) a/\wr= w.drewN m)
  (fun i _=>n - (intOf i).toNat)
 case atStart=>exact⟨0,0,by omega,rfl,rfl,rfl⟩
 case round=>
  obtain⟨a,m,ha,rfl,hq,rfl⟩:=hrel
  have HQ:=I hq
  clear hq
  by_cases hlt:a < n
  ·have hcell:=HC.o a (by omega)
   have hi8:(a:Int) < 8:=by omega
   have e:n - a=(n - (a+1))+1:=by omega
   rw[e,z0X] at HQ
   by_cases hg:Lib.onesCount (mask (f a))= n
   ·have hb:((Lib.onesCount (mask (f a)):Int) ==(n:Int))= true:=by simp[hg]
    rw[if_pos hg] at HQ
    clear hg e
    go_wp2
    go_quiet ((go_at_call 133;exact z9z (ones8 _ _)))
    go_wp2
    go_ret
    exact⟨zt (by rw[HQ.o]),_,World.drewN_drewN _ _ _⟩
   ·have hb:((Lib.onesCount (mask (f a)):Int) ==(n:Int))= false:=by simp;omega
    rw[if_neg hg] at HQ
    clear hg e
    go_wp2
    go_quiet ((go_at_call 133;exact z9z (ones8 _ _)))
    go_wp2
    go_roundw
    case rel=>exact⟨a+1,_,by omega,by go_num,HQ.o,rfl⟩
    case measure=>simp[intOf];omega
  ·have e:n - a= 0:=by omega
   rw[e,z0X] at HQ
   clear e
   go_wp2
   go_ret
   exact⟨zt (by rw[HQ.o];rfl),_,rfl⟩
theorem zas (bk:Nat) (n:Nat) (R:Rel) (J M:Nat->Nat->Int) (w:World) (h8:n<=8) (hl:LatAt w bk n R J M):
  Calls Tryz.prog 59 #[.pointer (some ⟨bk,0,none⟩)] w fun e w'=>e= .returned (.int .i64 (z5K n R))/\∃ m,w'= w.drewN m:=by
 have hc:=zdH bk 1 n R w h8 hl.cn hl.cu
 have HC:=I hc
 clear hc hl
 go_enter Tryz.func59,Tryz.ntmps59
 go_wp2_with (go_at_call 97;refine HC.o.mono ?_;rintro e w' ⟨rfl,m,rfl⟩)
 go_ret
 exact⟨rfl,_,rfl⟩
end
end Go.Proofs.YteolfamhmfidbaaGreatDoor
