/- Parts of a proof: LatMem, LatClose. -/
import Derived.Test.YtpmjcbjdcjjplaaGreatDoorPackS15
set_option maxHeartbeats 8000000
set_option maxRecDepth 100000
set_option linter.unusedVariables false
set_option linter.unusedSimpArgs false
namespace Go.Proofs.YtpmjcbjdcjjplaaGreatDoor
section
open Go.RowKit P
def upd {α:Type} (f:Nat->α) (i:Nat) (v:α):Nat->α:=fun x=>if x= i then v else f x
def upd2 {α:Type} (f:Nat->Nat->α) (i j:Nat) (v:α):Nat->Nat->α:=fun x y=>if x= i/\y= j then v else f x y
structure Lm (w:World) (b:Nat) (n:Nat) (U D:Rel) (J M:Nat->Nat->Int):Prop where
 cn:w.cell? ⟨b,0,none⟩= some (.int .i64 n)
 cu:∀ i,i < 8->w.cell? ⟨b,1+i,none⟩= some (.int .u8 (mask (U i)))
 cd:∀ i,i < 8->w.cell? ⟨b,9+i,none⟩= some (.int .u8 (mask (D i)))
 cj:∀ i j,i < 8->j < 8->w.cell? ⟨b,17+i*8+j,none⟩= some (.int .i8 (J i j))
 cm:∀ i j,i < 8->j < 8->w.cell? ⟨b,81+i*8+j,none⟩= some (.int .i8 (M i j))
 fz:∀ i,i < 145->w.frozen? ⟨b,i,none⟩= false
section
variable {w w':World} {b n:Nat} {U D:Rel} {J M:Nat->Nat->Int}
theorem Lm.keep (h:Lm w b n U D J M) (hc:∀ o,w'.cell? ⟨b,o,none⟩= w.cell? ⟨b,o,none⟩) (hf:∀ o,w'.frozen? ⟨b,o,none⟩= w.frozen? ⟨b,o,none⟩):Lm w' b n U D J M:=
 ⟨(hc _).trans h.cn,fun i hi=>(hc _).trans (h.cu i hi),fun i hi=>(hc _).trans (h.cd i hi),fun i j hi hj=>(hc _).trans (h.cj i j hi hj),
  fun i j hi hj=>(hc _).trans (h.cm i j hi hj),fun i hi=>(hf _).trans (h.fz i hi)⟩
theorem Lm.drew (h:Lm w b n U D J M):Lm w.drew b n U D J M:=h.keep (fun _=>rfl) (fun _=>rfl)
theorem Lm.drewN (h:Lm w b n U D J M) (k:Nat):Lm (w.drewN k) b n U D J M:=h.keep (fun _=>rfl) (fun _=>rfl)
theorem Lm.below {B:Nat} (h:Lm w b n U D J M) (hb:Below B w w') (hB:b < B):Lm w' b n U D J M:=
 h.keep (fun o=>hb.cell (p:=⟨b,o,none⟩) hB) (fun o=>hb.frozen (p:=⟨b,o,none⟩) hB)
theorem Lm.congr {U' D':Rel} {J' M':Nat->Nat->Int} (h:Lm w b n U D J M) (hu:∀ i j,i < 8->j < 8->U i j= U' i j) (hd:∀ i j,i < 8->j < 8->D i j= D' i j)
  (hj:∀ i j,i < 8->j < 8->J i j= J' i j) (hm:∀ i j,i < 8->j < 8->M i j= M' i j):Lm w b n U' D' J' M':=
 ⟨h.cn,fun i hi=>by rw[h.cu i hi,z26 (hu i · hi)],fun i hi=>by rw[h.cd i hi,z26 (hd i · hi)],
  fun i j hi hj'=>by rw[h.cj i j hi hj',hj i j hi hj'],fun i j hi hj'=>by rw[h.cm i j hi hj',hm i j hi hj'],h.fz⟩
theorem zL (w:World) (b o p:Nat) (v:Value) (h:p≠o):(w.setCell ⟨b,o,none⟩ v).cell? ⟨b,p,none⟩= w.cell? ⟨b,p,none⟩:=
 World.cell?_setCell_other w ⟨b,o,none⟩ ⟨b,p,none⟩ v (fun e=>h (by injection e with _ e2 _;exact e2.symm))
theorem z1V (w:World) (a p:Addr) (v:Value):(w.setCell a v).frozen? p= w.frozen? p:=by simp
theorem z2u (w:World) (b o:Nat) (u v:Value) (h:w.cell? ⟨b,o,none⟩= some u):(w.setCell ⟨b,o,none⟩ v).cell? ⟨b,o,none⟩= some v:=
 World.cell?_setCell_same w ⟨b,o,none⟩ v h
theorem Lm.setU (h:Lm w b n U D J M) {i:Nat} (hi:i < 8) (f:Nat->Bool):Lm (w.setCell ⟨b,1+i,none⟩ (.int .u8 (mask f))) b n (upd U i f) D J M:=by
 refine⟨?_,fun k hk=> ?_,fun k hk=> ?_,fun k j hk hj=> ?_,fun k j hk hj=> ?_,fun k hk=> ?_⟩
 ·rw[zL _ _ _ _ _ (by omega)];exact h.cn
 ·by_cases e:k= i
  ·subst e;rw[z2u _ _ _ _ _ (h.cu k hk)];simp[upd]
  ·rw[zL _ _ _ _ _ (by omega),h.cu k hk];simp[upd,e]
 ·rw[zL _ _ _ _ _ (by omega)];exact h.cd k hk
 ·rw[zL _ _ _ _ _ (by omega)];exact h.cj k j hk hj
 ·rw[zL _ _ _ _ _ (by omega)];exact h.cm k j hk hj
 ·rw[z1V];exact h.fz k hk
theorem Lm.setD (h:Lm w b n U D J M) {i:Nat} (hi:i < 8) (f:Nat->Bool):Lm (w.setCell ⟨b,9+i,none⟩ (.int .u8 (mask f))) b n U (upd D i f) J M:=by
 refine⟨?_,fun k hk=> ?_,fun k hk=> ?_,fun k j hk hj=> ?_,fun k j hk hj=> ?_,fun k hk=> ?_⟩
 ·rw[zL _ _ _ _ _ (by omega)];exact h.cn
 ·rw[zL _ _ _ _ _ (by omega)];exact h.cu k hk
 ·by_cases e:k= i
  ·subst e;rw[z2u _ _ _ _ _ (h.cd k hk)];simp[upd]
  ·rw[zL _ _ _ _ _ (by omega),h.cd k hk];simp[upd,e]
 ·rw[zL _ _ _ _ _ (by omega)];exact h.cj k j hk hj
 ·rw[zL _ _ _ _ _ (by omega)];exact h.cm k j hk hj
 ·rw[z1V];exact h.fz k hk
theorem Lm.setJ (h:Lm w b n U D J M) {i j:Nat} (hi:i < 8) (hj:j < 8) (v:Int):Lm (w.setCell ⟨b,17+i*8+j,none⟩ (.int .i8 v)) b n U D (upd2 J i j v) M:=by
 refine⟨?_,fun k hk=> ?_,fun k hk=> ?_,fun k l hk hl=> ?_,fun k l hk hl=> ?_,fun k hk=> ?_⟩
 ·rw[zL _ _ _ _ _ (by omega)];exact h.cn
 ·rw[zL _ _ _ _ _ (by omega)];exact h.cu k hk
 ·rw[zL _ _ _ _ _ (by omega)];exact h.cd k hk
 ·by_cases e:k= i/\l= j
  ·obtain⟨rfl,rfl⟩:=e;rw[z2u _ _ _ _ _ (h.cj k l hk hl)];simp[upd2]
  ·rw[zL _ _ _ _ _ (by omega),h.cj k l hk hl];simp only[upd2,if_neg e]
 ·rw[zL _ _ _ _ _ (by omega)];exact h.cm k l hk hl
 ·rw[z1V];exact h.fz k hk
theorem Lm.setM (h:Lm w b n U D J M) {i j:Nat} (hi:i < 8) (hj:j < 8) (v:Int):Lm (w.setCell ⟨b,81+i*8+j,none⟩ (.int .i8 v)) b n U D J (upd2 M i j v):=by
 refine⟨?_,fun k hk=> ?_,fun k hk=> ?_,fun k l hk hl=> ?_,fun k l hk hl=> ?_,fun k hk=> ?_⟩
 ·rw[zL _ _ _ _ _ (by omega)];exact h.cn
 ·rw[zL _ _ _ _ _ (by omega)];exact h.cu k hk
 ·rw[zL _ _ _ _ _ (by omega)];exact h.cd k hk
 ·rw[zL _ _ _ _ _ (by omega)];exact h.cj k l hk hl
 ·by_cases e:k= i/\l= j
  ·obtain⟨rfl,rfl⟩:=e;rw[z2u _ _ _ _ _ (h.cm k l hk hl)];simp[upd2]
  ·rw[zL _ _ _ _ _ (by omega),h.cm k l hk hl];simp only[upd2,if_neg e]
 ·rw[z1V];exact h.fz k hk
theorem Lm.latAt (h:Lm w b n U (fun a c=>U c a) J M):LatAt w b n U J M:=⟨h.cn,h.cu,h.cd,h.cj,h.cm⟩
end
theorem z7B (w:World) (r:Option Nat):w.grownBy w r:=World.grownBy.refl w r
theorem z3b {a w:World} {r:Option Nat} (h:a.grownBy w r):a.grownBy w.drew r:=⟨h.os,h.tape,h.output,h.size,h.block⟩
theorem z3N {a w:World} {g o:Nat} (h:a.grownBy w (some g)) (u:Value):a.grownBy (w.setCell ⟨g,o,none⟩ u) (some g):=
 ⟨h.os,h.tape,h.output,by simpa [World.setCell] using h.size,fun i hi hne=>(Below.heap_setCell w ⟨g,o,none⟩ u i (by
  rintro rfl
  exact hne rfl)).trans (h.block i hi hne)⟩
def viaTo (R:Rel) (k a:Nat):Rel:=fun x=>if x < a then via R k x else R x
theorem zby (R:Rel) (k:Nat):viaTo R k 0= R:=by funext x;simp[viaTo]
theorem zgC (R:Rel) (k a y:Nat):viaTo R k a k y= R k y:=by
 unfold viaTo;split
 ·simp only[via];cases R k y<;>simp
 ·rfl
theorem zbx (R:Rel) (k a:Nat):viaTo R k a a= R a:=by simp[viaTo]
theorem ze1 (R:Rel) (k a i j:Nat) (h:R a k= true):upd (viaTo R k a) a (fun y=>R a y || R k y) i j= viaTo R k (a+1) i j:=by
 unfold upd viaTo via;by_cases e:i= a
 ·subst e;simp[h]
 ·by_cases e2:i < a
  ·have:i < a+1:=by omega
   simp[e,e2,this]
  ·have: ¬ i < a+1:=by omega
   simp[e,e2,this]
theorem zfA (R:Rel) (k a i j:Nat) (h:R a k= false):viaTo R k a i j= viaTo R k (a+1) i j:=by
 unfold viaTo via;by_cases e:i= a
 ·subst e;simp[h]
 ·by_cases e2:i < a
  ·have:i < a+1:=by omega
   simp[e2,this]
  ·have: ¬ i < a+1:=by omega
   simp[e2,this]
end
section
open Go.RowKit P
theorem zad {n:Nat} {R:Rel} (h:Dom n R) {x y:Nat} (hx:n<=x):R x y= false:=by
 cases e:R x y with
 |false=>rfl
 |true=>have:=(h x y e).1;omega
theorem z8l {n:Nat} {R:Rel} (h:Dom n R) {x y:Nat} (hy:n<=y):R x y= false:=by
 cases e:R x y with
 |false=>rfl
 |true=>have:=(h x y e).2;omega
theorem ze0 {R:Rel} {n:Nat} (k:Nat) (hz:Dom n R) (i j:Nat):viaTo R k n i j= via R k i j:=by
 unfold viaTo;by_cases h:i < n
 ·rw[if_pos h]
 ·rw[if_neg h];simp[via,zad hz (show n<=i by omega)]
def dn (R:Rel) (x y:Nat):Rel:=fun i a=>(decide (a < x) ||(decide (a= x) && decide (i < y))) && R a i
theorem zet (R:Rel) (i a:Nat):dn R 0 0 i a= false:=by simp[dn]
theorem zgP (R:Rel) (x y i a:Nat) (h:R x y= true):upd (dn R x y) y (fun a=>dn R x y y a || a ==x) i a= dn R x (y+1) i a:=by
 unfold upd dn;by_cases e:i= y
 ·subst e
  by_cases e2:a= x
  ·subst e2;simp[h]
  ·simp[e2]
 ·by_cases e2:a= x
  ·subst e2
   have:(i < y+1)=(i < y):=by simp;omega
   simp[e,this]
  ·simp[e,e2]
theorem dn_no (R:Rel) (x y i a:Nat) (h:R x y= false):dn R x y i a= dn R x (y+1) i a:=by
 unfold dn;by_cases e2:a= x
 ·subst e2
  by_cases e:i= y
  ·subst e;simp[h]
  ·have:(i < y+1)=(i < y):=by simp;omega
   simp[this]
 ·simp[e2]
theorem zfU {R:Rel} {n:Nat} (x i a:Nat) (hz:Dom n R):dn R x n i a= dn R (x+1) 0 i a:=by
 unfold dn;by_cases e2:a= x
 ·subst e2
  by_cases e:i < n
  ·simp[e]
  ·simp[e,z8l hz (show n<=i by omega)]
 ·have:(a < x+1)=(a < x):=by simp;omega
  simp[e2,this]
theorem zgO {R:Rel} {n:Nat} (i a:Nat) (hz:Dom n R):dn R n 0 i a= R a i:=by
 unfold dn;by_cases e:a < n
 ·simp[e]
 ·simp[e,zad hz (show n<=a by omega)]
theorem z6R (x:Nat) (h:x < 8):((2:Int) ^ x % 256)= 2 ^ x:=by
 match x,h with
 |0,_|1,_|2,_|3,_|4,_|5,_|6,_|7,_=>rfl
theorem zc0 (b n:Nat) (R:Rel) (J M:Nat->Nat->Int) (w:World) (h8:n<=8) (hz:Dom n R)
  (hm:Lm w b n R (fun _ _=>false) J M):
  Calls Tryz.prog 88 #[.pointer (some ⟨b,0,none⟩)] w fun e w'=>e= .returned (.tuple #[])/\Lm w' b n (clo R n) (fun i a=>clo R n a i) J M/\w.grownBy w' (some b):=by
 have a7:=hm.cn;have HM:=I hm;have HZ:=I (fun k=>z4P hz k);clear hm hz;go_enter Tryz.func88,Tryz.ntmps88;go_wp2;clear a7
 go_loopw [10] (fun i wr=>∃ k:Nat,k<=n/\i= .int .i64 k/\Lm wr b n (clo R k) (fun _ _=>false) J M/\w.grownBy wr (some b))
  (fun i _=>n - (intOf i).toNat)
 case atStart=>exact⟨0,by omega,rfl,HM.o,z7B _ _⟩
 case round=>
  obtain⟨k,hk,rfl,hm,A⟩:=hrel;have C:=hm.cn;have a2:=I hm;have a0:=I A;clear hm A;by_cases hlt:k < n
  ·go_wp2
   clear C;obtain⟨N,K⟩:∃ N:World,N= wr:=⟨_,rfl⟩;subst K
   go_loopw [17] (fun i wr=>∃ a:Nat,a<=n/\i= .int .i64 a/\Lm wr b n (viaTo (clo R k) k a) (fun _ _=>false) J M/\w.grownBy wr (some b))
    (fun i _=>n - (intOf i).toNat)
   case atStart=>exact⟨0,by omega,rfl,by rw[zby];exact a2.o,a0.o⟩
   case round=>
    obtain⟨a,ha,rfl,hm,A⟩:=hrel;have C:=hm.cn;have G:=I hm;have O:=I A;by_cases hla:a < n
    ·have ca:=hm.cu a (by omega)
     rw[zbx] at ca;have ck:=hm.cu k (by omega);rw[z26 (fun y _=>zgC (clo R k) k a y)] at ck;have fa:=hm.fz (1+a) (by omega);have a5:(a:Int) < 8:=by omega
     have a6:(k:Int) < 8:=by omega
     clear hm A;have g:=z4e (clo R k a) k (by omega);cases hb:clo R k a k with
     |true=>
      rw[hb] at g;go_wp2;go_region;all_goals go_wp2
      all_goals go_roundw
      case rel=>
       refine⟨a+1,by omega,by go_num,?_,z3b (z3N O.o _)⟩;rw[or_u8];exact((G.o.setU (show a < 8 by omega) _).congr (fun i j _ _=>ze1 _ _ _ _ _ hb) (fun _ _ _ _=>rfl) (fun _ _ _ _=>rfl) (fun _ _ _ _=>rfl)).drew
      case measure=>simp[intOf];omega
     |false=>
      rw[hb] at g;go_wp2
      go_roundw
      case rel=>
       exact⟨a+1,by omega,by go_num,G.o.congr (fun i j _ _=>zfA _ _ _ _ _ hb) (fun _ _ _ _=>rfl) (fun _ _ _ _=>rfl) (fun _ _ _ _=>rfl),O.o⟩
      case measure=>simp[intOf];omega
    ·clear hm A
     go_wp2
     go_roundw
     case rel=>
      obtain rfl:a= n:=by omega
      exact⟨k+1,by omega,by go_num,G.o.congr (fun i j _ _=>ze0 k (HZ.o k) _ _) (fun _ _ _ _=>rfl) (fun _ _ _ _=>rfl) (fun _ _ _ _=>rfl),O.o⟩
     case measure=>simp[intOf];omega
  ·obtain rfl:k= n:=by omega
   have G:=I (a2.o.congr (fun _ _ _ _=>rfl) (fun i j _ _=>(zet (clo R k) i j).symm) (fun _ _ _ _=>rfl) (fun _ _ _ _=>rfl));go_wp2;clear C;obtain⟨N,K⟩:∃ N:World,N= wr:=⟨_,rfl⟩;subst K
   go_loopw [52] (fun i wr=>∃ x:Nat,x<=k/\i= .int .i64 x/\Lm wr b k (clo R k) (dn (clo R k) x 0) J M/\w.grownBy wr (some b))
    (fun i _=>k - (intOf i).toNat)
   case atStart=>exact⟨0,by omega,rfl,G.o,a0.o⟩
   case round=>
    obtain⟨x,hx,rfl,hm,A⟩:=hrel;have C:=hm.cn;have a3:=I hm;have a1:=I A;clear hm A;by_cases hlx:x < k
    ·go_wp2
     clear C;obtain⟨N,K⟩:∃ N:World,N= wr:=⟨_,rfl⟩;subst K
     go_loopw [59] (fun i wr=>∃ y:Nat,y<=k/\i= .int .i64 y/\Lm wr b k (clo R k) (dn (clo R k) x y) J M/\w.grownBy wr (some b))
      (fun i _=>k - (intOf i).toNat)
     case atStart=>exact⟨0,by omega,rfl,a3.o,a1.o⟩
     case round=>
      obtain⟨y,hy,rfl,hm,A⟩:=hrel;have C:=hm.cn;have Y:=I hm;have X:=I A;by_cases hly:y < k
      ·have ca:=hm.cu x (by omega)
       have cd:=hm.cd y (by omega);have fa:=hm.fz (9+y) (by omega);have a5:(x:Int) < 8:=by omega
       have a6:(y:Int) < 8:=by omega
       clear hm A;have g:=z4e (clo R k x) y (by omega);cases hb:clo R k x y with
       |true=>
        rw[hb] at g;go_wp2;go_region;all_goals go_wp2
        all_goals go_roundw
        case rel=>
         refine⟨y+1,by omega,by go_num,?_,z3b (z3N X.o _)⟩;rw[z6R x (by omega),zcL _ x (by omega)];exact((Y.o.setD (show y < 8 by omega) _).congr (fun _ _ _ _=>rfl) (fun i j _ _=>zgP _ _ _ _ _ hb) (fun _ _ _ _=>rfl) (fun _ _ _ _=>rfl)).drew
        case measure=>simp[intOf];omega
       |false=>
        rw[hb] at g;go_wp2
        go_roundw
        case rel=>
         exact⟨y+1,by omega,by go_num,Y.o.congr (fun _ _ _ _=>rfl) (fun i j _ _=>dn_no _ _ _ _ _ hb) (fun _ _ _ _=>rfl) (fun _ _ _ _=>rfl),X.o⟩
        case measure=>simp[intOf];omega
      ·clear hm A
       go_wp2
       go_roundw
       case rel=>
        obtain rfl:y= k:=by omega
        exact⟨x+1,by omega,by go_num,Y.o.congr (fun _ _ _ _=>rfl) (fun i j _ _=>zfU _ _ _ (HZ.o y)) (fun _ _ _ _=>rfl) (fun _ _ _ _=>rfl),X.o⟩
       case measure=>simp[intOf];omega
    ·go_wp2
     go_end0
     obtain rfl:x= k:=by omega
     exact⟨rfl,a3.o.congr (fun _ _ _ _=>rfl) (fun i j _ _=>zgO _ _ (HZ.o x)) (fun _ _ _ _=>rfl) (fun _ _ _ _=>rfl),a1.o⟩
end
end Go.Proofs.YtpmjcbjdcjjplaaGreatDoor
