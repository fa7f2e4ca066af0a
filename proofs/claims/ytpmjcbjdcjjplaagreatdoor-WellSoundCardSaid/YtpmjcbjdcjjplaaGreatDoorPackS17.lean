/- Parts of a proof: LatTab, LatMake, LatR. -/
import Derived.StillTailTactics
import Derived.Deep.DeepCutAuto
import Derived.Test.YtpmjcbjdcjjplaaGreatDoorPackS16
set_option maxHeartbeats 8000000
set_option maxRecDepth 100000
set_option linter.unusedVariables false
set_option linter.unusedSimpArgs false
namespace Go.Proofs.YtpmjcbjdcjjplaaGreatDoor
section
open Go.RowKit P
theorem z65 (S:Nat->Bool) (R:Rel) (k:Nat):∀ c,z0c S R k c= z1h (good S R) k c:=by
 induction k with
 |zero=>intro c;rfl
 |succ k ih=>intro c;rw[z0c,z1h,ih]
theorem zeS (S:Nat->Bool) (R:Rel) (c:Nat):good S R c= true↔S c= true/\∀ i,i < 8->S i= true->R c i= true:=by
 unfold good;rw[Bool.and_eq_true,beq_iff_eq];refine and_congr_right fun _=>⟨fun h i hi hs=> ?_,fun h=>z26 fun i hi=> ?_⟩
 ·have:=zf3 h i hi
  rw[hs] at this;simpa using this
 ·cases hs:S i with
  |false=>simp
  |true=>simp[h i hi hs]
theorem z66 {n:Nat} {L:Rel} (h8:n<=8) (hd:Dom n L) (a b:Nat):P.leastOf (fun c=>L a c && L b c) L= jn n L a b:=by
 unfold P.leastOf jn;rw[z65];show z1A 8 _= _;rw[z9H h8 fun i hi _=>by show(L a i && L b i && _)= false;rw[z8l hd hi];rfl];refine z8t fun c _=> ?_;rw[Bool.eq_iff_iff,zeS,zcq];simp only[Bool.and_eq_true];exact⟨fun⟨⟨h1,h2⟩,h3⟩=>⟨h1,h2,fun d hd' k1 k2=>h3 d (by omega) ⟨k1,k2⟩⟩,fun⟨h1,h2,h3⟩=>⟨⟨h1,h2⟩,fun d _ k=>h3 d (hd _ _ k.1).2 k.1 k.2⟩⟩
theorem zgg {n:Nat} {L:Rel} (hd:Dom n L):Dom n (opp L):=fun a b k=>⟨(hd b a k).2,(hd b a k).1⟩
theorem zaZ {n:Nat} {L:Rel} (h8:n<=8) (hd:Dom n L) (a b:Nat):P.leastOf (fun c=>opp L a c && opp L b c) (opp L)= mt n L a b:=
 z66 h8 (zgg hd) a b
theorem z8C (n:Nat) (L:Rel) (a b:Nat) (h8:n<=8): -1<=jn n L a b/\jn n L a b<=7:=by
 unfold jn;rcases z1i n (isLub n L a b) with ⟨h,_⟩|⟨d,h1,h,_⟩<;>omega
def part (n:Nat) (T:Nat->Nat->Int) (x y:Nat):Nat->Nat->Int:=fun a b=>if a < n/\b < n/\(a < x\/(a= x/\b < y)) then T a b else 0
def tab (n:Nat) (T:Nat->Nat->Int):Nat->Nat->Int:=fun a b=>if a < n/\b < n then T a b else 0
theorem z6d (n:Nat) (T:Nat->Nat->Int) (a b:Nat):part n T 0 0 a b= 0:=by unfold part;rw[if_neg (by omega)]
theorem z7E (n:Nat) (T:Nat->Nat->Int) (x y:Nat) (hx:x < n) (hy:y < n) (a b:Nat):upd2 (part n T x y) x y (T x y) a b= part n T x (y+1) a b:=by
 unfold upd2 part;by_cases e:a= x/\b= y
 ·obtain⟨rfl,rfl⟩:=e;rw[if_pos ⟨rfl,rfl⟩,if_pos (by omega)]
 ·rw[if_neg e]
  by_cases e2:a < n/\b < n/\(a < x\/(a= x/\b < y))
  ·rw[if_pos e2,if_pos (by omega)]
  ·rw[if_neg e2,if_neg (by omega)]
theorem z7D (n:Nat) (T:Nat->Nat->Int) (x:Nat) (a b:Nat):part n T x n a b= part n T (x+1) 0 a b:=by
 unfold part;by_cases e2:a < n/\b < n/\(a < x\/(a= x/\b < n))
 ·rw[if_pos e2,if_pos (by omega)]
 ·rw[if_neg e2,if_neg (by omega)]
theorem z8U (n:Nat) (T:Nat->Nat->Int) (a b:Nat):part n T n 0 a b= tab n T a b:=by
 unfold part tab;by_cases e2:a < n/\b < n
 ·rw[if_pos (by omega),if_pos e2]
 ·rw[if_neg (by omega),if_neg e2]
theorem zar (n:Nat) (T:Nat->Nat->Int) {x y:Nat} (hx:x < n) (hy:y < n):part n T x (y+1) x y= T x y:=by
 unfold part;rw[if_pos (by omega)]
def zfH (w:World) (b n:Nat) (L:Rel) (e:Ending) (w':World):Prop:=
 e= .returned (.bool (isLat n L))/\w.grownBy w' (some b)/\(isLat n L= true->Lm w' b n L (opp L) (tab n (jn n L)) (tab n (mt n L)))
theorem z5v {n:Nat} {L:Rel} {x y:Nat} (hx:x < n) (hy:y < n) (h:badAt n L x y= true):isLat n L= false:=by
 cases e:isLat n L with
 |false=>rfl
 |true=>have:=z1F.1 (z1F.1 e x hx) y hy;rw[h] at this;cases this
theorem zcp {n:Nat} {L:Rel} (h:∀ x y,x < n->y < n->badAt n L x y= false):isLat n L= true:=
 z1F.2 fun x hx=>z1F.2 fun y hy=>by rw[h x y hx hy];rfl
theorem zbl (b n:Nat) (L:Rel) (w:World) (h8:n<=8) (hd:Dom n L)
  (hm:Lm w b n L (opp L) (fun _ _=>0) (fun _ _=>0)):
  Calls Tryz.prog 89 #[.pointer (some ⟨b,0,none⟩)] w (zfH w b n L):=by
 have d0:=hm.cn;have HM:=I (hm.congr (fun _ _ _ _=>rfl) (fun _ _ _ _=>rfl) (fun i j _ _=>(z6d n (jn n L) i j).symm) (fun i j _ _=>(z6d n (mt n L) i j).symm));have HD:=I hd;clear hm hd;go_enter Tryz.func89,Tryz.ntmps89;go_wp2;go_step3;go_wp2;go_step3;go_wp2;clear d0;go_loopg [3,11] n (fun g ok i wr=>∃ x:Nat,x+g= n/\ok= .bool true/\i= .int .i64 x/\(∀ a c,a < x->c < n->badAt n L a c= false)/\
  Lm wr b n L (opp L) (part n (jn n L) x 0) (part n (mt n L) x 0)/\w.grownBy wr (some b))
 case atStart=>exact⟨0,by omega,rfl,rfl,fun a c ha _=>absurd ha (by omega),HM.o,z7B _ _⟩
 case round=>
  obtain⟨x,hx,rfl,rfl,A,hm,O⟩:=hrel;have K:=hm.cn;have a3:=I A;have a6:=I hm;have a5:=I O;clear A hm O;cases gk with
  |zero=>
   have d2: ¬ ((x:Int) <(n:Int)):=by omega
   obtain rfl:x= n:=by omega
   have HY:=I (zcp (n:=x) a3.o);go_wp2;first|rw[Exit.noGoto_ret]|skip
   go_ret;exact⟨z8 HY.o.symm,a5.o,fun _=>a6.o.congr (fun _ _ _ _=>rfl) (fun _ _ _ _=>rfl) (fun i j _ _=>z8U _ _ i j) (fun i j _ _=>z8U _ _ i j)⟩
  |succ g=>
   have d2:(x:Int) <(n:Int):=by omega
   go_wp2;clear K;obtain⟨wo,d1⟩:∃ wo:World,wo= wr:=⟨_,rfl⟩;subst d1;go_loopg [3,18] n (fun g ok i wr=>∃ y:Nat,y+g= n/\ok= .bool true/\i= .int .i64 y/\(∀ c,c < y->badAt n L x c= false)/\
    Lm wr b n L (opp L) (part n (jn n L) x y) (part n (mt n L) x y)/\w.grownBy wr (some b))
   case atStart=>exact⟨0,by omega,rfl,rfl,fun c hc=>absurd hc (by omega),a6.o,a5.o⟩
   case round=>
    obtain⟨y,hy,rfl,rfl,A,hm,O⟩:=hrel;have K:=hm.cn;have a4:=I A;have b7:=I hm;have b5:=I O;clear A;cases gk with
    |zero=>
     have d3: ¬ ((y:Int) <(n:Int)):=by omega
     clear hm O;obtain rfl:y= n:=by omega
     go_wp2;go_roundg g;case measure=>omega
     case rel=>
      refine⟨x+1,by omega,rfl,by go_num,fun a c ha hc=> ?_,b7.o.congr (fun _ _ _ _=>rfl) (fun _ _ _ _=>rfl) (fun i j _ _=>z7D _ _ _ i j) (fun i j _ _=>z7D _ _ _ i j),b5.o⟩;by_cases e:a= x
      ·subst e;exact a4.o c hc
      ·exact a3.o a c (by omega) hc
    |succ g2=>
     have d3:(y:Int) <(n:Int):=by omega
     have e0:(x:Int) < 8:=by omega
     have e2:(y:Int) < 8:=by omega
     have ux:=hm.cu x (by omega);have uy:=hm.cu y (by omega);have dx:=hm.cd x (by omega);have dy:=hm.cd y (by omega);have fj:=hm.fz (17+x*8+y) (by omega);have fm:=hm.fz (81+x*8+y) (by omega);have oj:=hm.cj x y (by omega) (by omega);have om:=hm.cm x y (by omega) (by omega);have Y:=z7x b 1 (fun c=>L x c && L y c) L wr.drew (fun i hi=>hm.cu i hi);rw[← z85,z66 h8 HD.o] at Y;have CL:=I (Y.mono fun e w' ⟨h1,h2⟩=>(⟨h1,h2.symm⟩:_/\w'= wr.drew));have b8:=I (((hm.setJ (show x < 8 by omega) (show y < 8 by omega) (jn n L x y)).congr (fun _ _ _ _=>rfl) (fun _ _ _ _=>rfl) (fun i j _ _=>z7E n (jn n L) x y (by omega) (by omega) i j) (fun _ _ _ _=>rfl)).drew);have b6:=I (z3b (z3N (o:=17+x*8+y) O (.int .i8 (jn n L x y))));clear Y hm O;go_wp2;refine wp_region_still_tail 24 (by kernel_rfl) (by kernel_rfl) ?_;simp only[List.take_succ_cons,List.take_zero,List.drop_succ_cons,List.drop_zero];change wpStill _ _ wr.drew (fun a'=>wpList _ _ _ _ _ wr.drew) _ _
     repeat still_step
     still_call CL.o
     repeat still_step
     refine wpStill_nil ?_;clear CL;go_wp2;clear ux uy dx dy fj fm oj om K;generalize hW1:(wr.setCell ⟨b,17+x*8+y,none⟩ (.int .i8 (jn n L x y))).drew= W1 at*;clear hW1;have hm:=b8.o;have O:=b6.o;have K:=hm.cn;have dx:=hm.cd x (by omega);have dy:=hm.cd y (by omega);have fm:=hm.fz (81+x*8+y) (by omega);have om:=hm.cm x y (by omega) (by omega);have Y:=z7x b 9 (fun c=>opp L x c && opp L y c) (opp L) W1.drew (fun i hi=>hm.cd i hi);rw[← z85,zaZ h8 HD.o] at Y;have CL:=I (Y.mono fun e w' ⟨h1,h2⟩=>(⟨h1,h2.symm⟩:_/\w'= W1.drew));have a7:=I (((hm.setM (show x < 8 by omega) (show y < 8 by omega) (mt n L x y)).congr (fun _ _ _ _=>rfl) (fun _ _ _ _=>rfl) (fun _ _ _ _=>rfl) (fun i j _ _=>z7E n (mt n L) x y (by omega) (by omega) i j)).drew);have X:=I (z3b (z3N (o:=81+x*8+y) O (.int .i8 (mt n L x y))));clear Y hm O;refine wp_region_still_tail 24 (by kernel_rfl) (by kernel_rfl) ?_;simp only[List.take_succ_cons,List.take_zero,List.drop_succ_cons,List.drop_zero];change wpStill _ _ W1.drew (fun a'=>wpList _ _ _ _ _ W1.drew) _ _
     repeat still_step
     still_call CL.o
     repeat still_step
     refine wpStill_nil ?_;clear CL;go_upto_region 10 with (fail);clear dx dy fm om K;generalize hW2:(W1.setCell ⟨b,81+x*8+y,none⟩ (.int .i8 (mt n L x y))).drew= W2 at*;clear hW2;have hm:=a7.o;have ux:=hm.cu x (by omega);have uy:=hm.cu y (by omega);have cj:=hm.cj x y (by omega) (by omega);have cm:=hm.cm x y (by omega) (by omega);rw[zar n (jn n L) (by omega) (by omega)] at cj;rw[zar n (mt n L) (by omega) (by omega)] at cm;have a9:=z4e (L x) y (by omega);have b0:=z4e (L y) x (by omega);obtain⟨j1,j2⟩:=z8C n L x y h8;obtain⟨m1,m2⟩:=z8C n (opp L) x y h8;have C:badAt n L x y=((x !=y && L x y && L y x) || decide (jn n L x y < 0) || decide (mt n L x y < 0)):=rfl;have G:=I C;change -1<=mt n L x y at m1;change mt n L x y<=7 at m2;clear hm C;generalize jn n L x y= jv at*;generalize mt n L x y= mv at*;generalize L x y= p at*;generalize L y x= q at*;obtain⟨tw,a0⟩:∃ tw,(x !=y && p && q)= tw:=⟨_,rfl⟩;have a8:=I a0;rw[a0] at G;clear a0;go_cut [6] (fun v wz=>v= .bool tw/\wz= W2);case first=>
      clear cj cm;by_cases e:x= y
      ·have e1:((x:Int) !=(y:Int))= false:=by simp[e]
       have ht:tw= false:=by have:=a8.o;simp[e] at this;exact this
       have HT:=I ht;clear ht e ux uy a9 b0;go_wp2;go_meet;case rel=>exact⟨by rw[HT.o],rfl⟩
      ·have e1:((x:Int) !=(y:Int))= true:=by simp;omega
       have e3:(x !=y)= true:=by simpa using e
       have ht:tw=(p && q):=by have:=a8.o;rw[e3] at this;simpa using this.symm
       clear e3;have HT:=I ht;clear ht;cases p with
       |false=>
        go_wp2;go_meet;case rel=>exact⟨by rw[HT.o];rfl,rfl⟩
       |true=>
        go_wp2;go_meet;case rel=>exact⟨by rw[HT.o];rfl,rfl⟩
     case rest=>
      obtain⟨rfl,rfl⟩:=hcut;clear ux uy a9 b0;cases tw with
      |true=>
       have N:=I (z5v (show x < n by omega) (show y < n by omega) G.o);clear cj cm;go_wp2;first|rw[Exit.noGoto_ret]|skip
       go_ret;exact⟨z8 N.o.symm,X.o,fun h=>absurd (N.o.symm.trans h) (by simp)⟩
      |false=>
       by_cases hj:jv < 0
       ·have N:=I (z5v (show x < n by omega) (show y < n by omega) (G.o.trans (by simp[hj])))
        have c8:decide (0<=jv)= false:=by simp;omega
        go_wp2;first|rw[Exit.noGoto_ret]|skip
        go_ret;exact⟨z8 N.o.symm,X.o,fun h=>absurd (N.o.symm.trans h) (by simp)⟩
       ·have c8:decide (0<=jv)= true:=by simp;omega
        by_cases hk:mv < 0
        ·have N:=I (z5v (show x < n by omega) (show y < n by omega) (G.o.trans (by simp[hk])))
         have c9:decide (0<=mv)= false:=by simp;omega
         go_wp2;first|rw[Exit.noGoto_ret]|skip
         go_ret;exact⟨z8 N.o.symm,X.o,fun h=>absurd (N.o.symm.trans h) (by simp)⟩
        ·have N:=I (G.o.trans (show(false || decide (jv < 0) || decide (mv < 0))= false by simp;omega))
         have c9:decide (0<=mv)= true:=by simp;omega
         go_wp2;go_roundg g2;case measure=>omega
         case rel=>
          refine⟨y+1,by omega,rfl,by go_num,fun c hc=> ?_,a7.o,X.o⟩;by_cases e:c= y
          ·subst e;exact N.o
          ·exact a4.o c (by omega)
end
section
open Go.RowKit P
def Pairs (w:World) (B:Nat) (A:Option Addr) (ps:List (Int × Int)):Prop:=
 ps.length<=9223372036854775807/\(0 < ps.length->∃ b o,A= some ⟨b,o,none⟩/\b < B/\∀ i p,ps[i]?= some p->
  w.cell? ⟨b,o+i*2,none⟩= some (.int .i64 p.1)/\w.cell? ⟨b,o+i*2+1,none⟩= some (.int .i64 p.2)/\(Lit.int .i64 p.1).wf= true/\(Lit.int .i64 p.2).wf= true)
def zlat:Array Value:=(.int .i64 0::(List.replicate 16 (.int .u8 0) ++ List.replicate 128 (.int .i8 0))).toArray
def nlat (k:Nat):Array Value:=zlat.setIfInBounds 0 (.int .i64 k)
theorem zeb (w:World):(zeroValue 143).run Tryz.prog w= .ok (.agg zlat) w:=by kernel_rfl
theorem zgJ:(zlat= #[])= False:=by
 rw[eq_iff_iff,iff_false];intro h;have:=congrArg Array.size h;simp[zlat] at this
theorem z2V (k i:Nat):(nlat k)[i]?= if i= 0 then some (.int .i64 k) else if i < 17 then some (.int .u8 0) else if i < 145 then some (.int .i8 0) else none:=by
 unfold nlat zlat;by_cases h0:i= 0
 ·subst h0;simp
 ·rw[if_neg h0,Array.getElem?_setIfInBounds_ne (by omega)]
  obtain⟨j,rfl⟩:∃ j,i= j+1:=⟨i - 1,by omega⟩;simp only[List.getElem?_toArray,List.getElem?_cons_succ];by_cases h1:j < 16
  ·rw[List.getElem?_append_left (by simpa using h1),if_pos (by omega)];rw[List.getElem?_replicate,if_pos h1]
  ·rw[List.getElem?_append_right (by simp;omega),if_neg (by omega)]
   simp only[List.length_replicate,List.getElem?_replicate];by_cases h2:j - 16 < 128
   ·rw[if_pos h2,if_pos (by omega)]
   ·rw[if_neg h2,if_neg (by omega)]
theorem z1G (w:World) (cs:Array Value) (T:TypeId) (i:Nat):(w.alloc (.cells cs T)).cell? ⟨w.heap.size,i,none⟩= cs[i]?:=
 cell_of_row _ w.heap.size i cs T (0,0) (heap_alloc_new w _)
theorem z61 (w:World) (cs:Array Value) (T:TypeId) (i:Nat):(w.alloc (.cells cs T)).frozen? ⟨w.heap.size,i,none⟩= false:=by
 have h:=heap_alloc_new w (.cells cs T);unfold World.frozen?;rw[h];simp
theorem zf0 (w:World) (k:Nat) (T:TypeId):Lm (w.alloc (.cells (nlat k) T)) w.heap.size k (fun _ _=>false) (fun _ _=>false) (fun _ _=>0) (fun _ _=>0):=by
 refine⟨?_,fun i hi=> ?_,fun i hi=> ?_,fun i j hi hj=> ?_,fun i j hi hj=> ?_,fun i hi=>z61 _ _ _ _⟩
 ·rw[z1G,z2V];rfl
 ·rw[z1G,z2V,if_neg (by omega),if_pos (by omega),z69];rfl
 ·rw[z1G,z2V,if_neg (by omega),if_pos (by omega),z69];rfl
 ·rw[z1G,z2V,if_neg (by omega),if_neg (by omega),if_pos (by omega)]
 ·rw[z1G,z2V,if_neg (by omega),if_neg (by omega),if_pos (by omega)]
theorem Lm.alloc {w:World} {b n:Nat} {U D:Rel} {J M:Nat->Nat->Int} (h:Lm w b n U D J M) (hb:b < w.heap.size) (o:Obj):Lm (w.alloc o) b n U D J M:=
 h.below ((Below.refl w.heap.size w).alloc (Nat.le_refl _) o) hb
theorem z97 (w:World) (a:Addr) (v:Value):(w.setCell a v).heap.size= w.heap.size:=by simp[World.setCell]
def diag (x:Nat):Rel:=fun a b=>decide (a < x) && (a ==b)
theorem zc8 (a b:Nat):(false:Bool)= diag 0 a b:=by simp[diag]
theorem zc7 (x a b:Nat):upd (diag x) x (fun i=>i ==x) a b= diag (x+1) a b:=by
 unfold upd diag;by_cases e:a= x
 ·subst e;simp[Bool.beq_comm]
 ·have:(a < x+1)=(a < x):=by simp;omega
  simp[e,this]
theorem zer (k a b:Nat) (_ha:a < 8) (_hb:b < 8):diag k a b= rel0 k [] a b:=by
 unfold diag rel0;by_cases e:a= b
 ·subst e;simp
 ·have e':(a ==b)= false:=beq_eq_false_iff_ne.2 e
  simp[e']
theorem zf7 (x:Nat) (hx:x < 8):((2:Int) ^ x % 256)=((mask (fun i=>i ==x):Nat):Int):=by
 rw[z6R x hx,← z8L x hx];simp
theorem zcV (k:Nat) (ps:List (Int × Int)) (x y:Nat) (hx:x < k) (hy:y < k) (a b:Nat):
  upd (rel0 k ps) x (fun i=>rel0 k ps x i || i ==y) a b= rel0 k (ps ++ [((x:Int),(y:Int))]) a b:=by
 unfold upd rel0;rw[List.any_append];by_cases e:a= x
 ·subst e
  by_cases e2:b= y
  ·subst e2;simp[hx,hy]
  ·have e3:((y:Int) ==(b:Int))= false:=beq_eq_false_iff_ne.2 (by omega)
   have e4:(b ==y)= false:=beq_eq_false_iff_ne.2 e2;simp[e3,e4]
 ·have e3:((x:Int) ==(a:Int))= false:=beq_eq_false_iff_ne.2 (by omega)
  simp[e,e3]
theorem z8Q (n:Int) (ps:List (Int × Int)) (p:Int × Int):z0P n (ps ++ [p])=(z0P n ps && (isLb n p.1 && isLb n p.2)):=by
 unfold z0P;simp[List.all_append]
theorem z8R {n:Int} {ps:List (Int × Int)} {i:Nat} {p:Int × Int} (h:ps[i]?= some p) (hb:(isLb n p.1 && isLb n p.2)= false):z0P n ps= false:=by
 cases e:z0P n ps with
 |false=>rfl
 |true=>
  unfold z0P at e;rw[List.all_eq_true] at e;rw[e p (List.mem_of_getElem? h)] at hb;cases hb
theorem z7N {α:Type} {ps:List α} {i:Nat} {p:α} (h:ps[i]?= some p):ps.take (i+1)= ps.take i ++ [p]:=by
 rw[List.take_add_one,h];rfl
structure LatR (w:World) (b n:Nat) (L:Rel):Prop where
 at_:LatAt w b n L (tab n (jn n L)) (tab n (mt n L))
 lat:Lat n L
 le8:n<=8
 lt:b < w.heap.size
def z3y (w:World) (n:Int) (ps:List (Int × Int)) (e:Ending) (w':World):Prop:=
 Below w.heap.size w w'/\((makeE n ps≠0/\e= .returned (.tuple #[.pointer none,.int .i64 (makeE n ps)]))\/
  (makeE n ps= 0/\∃ k:Nat,n= k/\e= .returned (.tuple #[.pointer (some ⟨w.heap.size,0,none⟩),.int .i64 0])/\LatR w' w.heap.size k (ordOf k ps)))
theorem z3z {B b:Nat} {u w w':World} (h:Below B u w) (hb:B<=b) (hB:B<=w.heap.size) (hg:w.grownBy w' (some b)):Below B u w':=
 h.grown hg hB (fun k hk=>by injection hk with hk;omega)
theorem z6a {w w':World} {B:Nat} {n:Int} {ps:List (Int × Int)} {v:Int} (hb:Below B w w') (hB:w.heap.size= B) (h:makeE n ps= v) (hv:v≠0):
  z3y w n ps (.returned (.tuple #[.pointer none,.int .i64 v])) w':=by
 subst hB;subst h;exact⟨hb,.inl ⟨hv,rfl⟩⟩
theorem zgb {w w':World} {B k:Nat} {ps:List (Int × Int)} (hb:Below B w w') (hB:w.heap.size= B) (h:makeE k ps= 0) (hl:LatR w' B k (ordOf k ps)):
  z3y w k ps (.returned (.tuple #[.pointer (some ⟨B,0,none⟩),.int .i64 0])) w':=by
 subst hB;exact⟨hb,.inr ⟨h,k,rfl,rfl,hl⟩⟩
theorem zg7 (k : Nat) (A : Option Addr) (c : Nat) (ps : List (Int × Int)) (w : World) (hp : Pairs w w.heap.size A ps) (h1 : 1 <= k) (h8 : k <= 8) (hl : ps.length <= 64) :
    Calls Tryz.prog 57 #[.int .i64 k, .slice A ps.length c] w (z3y w k ps) := by
  have t1 : decide ((k : Int) < 1) = false := by simp; omega
  have t2 : decide ((8 : Int) < k) = false := by simp; omega
  have t3 : decide ((64 : Int) < ps.length) = false := by simp; omega
  have hz := zeb;have c6 := zgJ;have HP := I hp;clear hp;go_enter Tryz.func57, Tryz.ntmps57;go_wp2;clear hz c6;have HM := I (zf0 w k 143);have HB := I ((Below.refl w.heap.size w).alloc (Nat.le_refl _) (.cells (nlat k) 143));have HS : w.heap.size < (w.alloc (.cells (nlat k) 143)).heap.size := by simp
  change Hid (Lm (w.alloc (.cells (zlat.setIfInBounds 0 (.int .i64 k)) 143)) _ _ _ _ _ _) at HM;change Hid (Below _ _ (w.alloc (.cells (zlat.setIfInBounds 0 (.int .i64 k)) 143))) at HB;change _ < (w.alloc (.cells (zlat.setIfInBounds 0 (.int .i64 k)) 143)).heap.size at HS;generalize w.alloc (.cells (zlat.setIfInBounds 0 (.int .i64 k)) 143) = W0 at *;have e6 : w.heap.size <= w.heap.size := Nat.le_refl _;generalize hB : w.heap.size = B at *;have a2 := I hB;clear hB;go_loopg [25] k (fun g i wr => ∃ x : Nat, x + g = k /\ i = .int .i64 x /\ Lm wr B k (diag x) (fun _ _ => false) (fun _ _ => 0) (fun _ _ => 0) /\ Below B w wr /\ B < wr.heap.size);case atStart => exact ⟨0, by omega, rfl, HM.o.congr (fun _ _ _ _ => zc8 _ _) (fun _ _ _ _ => rfl) (fun _ _ _ _ => rfl) (fun _ _ _ _ => rfl), HB.o, HS⟩
  case round =>
    obtain ⟨x, hx, rfl, hm, G, hs⟩ := hrel;have a9 := I hm;have a7 := I G;have b0 := hs;cases gk with
    | succ g =>
      have c4 : (x : Int) < (k : Int) := by omega
      have e8 : (x : Int) < 8 := by omega
      have cu := hm.cu x (by omega);have fu := hm.fz (1 + x) (by omega);clear hm G hs;go_wp2;go_region;all_goals go_wp2
      all_goals go_roundg g
      case measure => omega
      case rel =>
        rw [zf7 x (by omega)];refine ⟨x + 1, by omega, by go_num, ((a9.o.setU (show x < 8 by omega) _).congr (fun _ _ _ _ => zc7 _ _ _) (fun _ _ _ _ => rfl) (fun _ _ _ _ => rfl) (fun _ _ _ _ => rfl)).drew, ?_, by simpa [World.setCell] using b0⟩;exact (a7.o.setCell (by simp) _).drew
    | zero =>
      have e7 : ¬ ((x : Int) < (k : Int)) := by omega
      obtain rfl : x = k := by omega
      clear hm G hs;have b6 := I (a9.o.congr (fun a b ha G => zer _ a b ha G) (fun _ _ _ _ => rfl) (fun _ _ _ _ => rfl) (fun _ _ _ _ => rfl));go_wp2;go_loopg [38] ps.length (fun g i wr => ∃ j : Nat, j + g = ps.length /\ i = .int .i64 j /\ z0P x (ps.take j) = true /\ Lm wr B x (rel0 x (ps.take j)) (fun _ _ => false) (fun _ _ => 0) (fun _ _ => 0) /\ Below B w wr /\ B < wr.heap.size);case atStart => exact ⟨0, by omega, rfl, rfl, b6.o, a7.o, b0⟩
      case round =>
        obtain ⟨j, hj, rfl, b2, hm, G, hs⟩ := hrel;have K := I hm;have a1 := I G;have b8 := hs;have X := I b2;clear b2;cases gk with
        | succ g =>
          have c4 : (j : Int) < (ps.length : Int) := by omega
          obtain ⟨p, hp⟩ : ∃ p, ps[j]? = some p := ⟨_, List.getElem?_eq_getElem (by omega)⟩;obtain ⟨b, o, rfl, b1, N⟩ := HP.o.2 (by omega);obtain ⟨c0, c1, c8, c9⟩ := N j p hp;have d0 := (G.cell (p := ⟨b, o + j * 2, none⟩) b1).trans c0;have d1 := (G.cell (p := ⟨b, o + j * 2 + 1, none⟩) b1).trans c1;clear c0 c1 N hm G hs;obtain ⟨p0, p1⟩ := p;have a3 := I hp;clear hp;simp only at d0 d1 c8 c9;cases hr : (isLb x p0 && isLb x p1) with
          | false =>
            have HR := I hr;have b3 : p0 < 0 \/ (x : Int) <= p0 \/ p1 < 0 \/ (x : Int) <= p1 := by
              unfold isLb at hr; simp at hr; omega
            have b7 := I b3;clear hr b3;go_wp2;all_goals first
              | (exfalso; have := b7.o; omega)
              | (go_ret2
                 have h2 : makeE x ps = 2 := by
                   unfold makeE;rw [if_neg (by omega), if_pos (z8R a3.o HR.o)]
                 exact z6a (a1.o.alloc (by omega) _) a2.o h2 (by decide))
          | true =>
            obtain ⟨a, e, rfl, rfl, ha, G⟩ : ∃ a e : Nat, p0 = a /\ p1 = e /\ a < x /\ e < x := by
              unfold isLb at hr; simp at hr;exact ⟨p0.toNat, p1.toNat, by omega, by omega, by omega, by omega⟩
            have cu := K.o.cu a (by omega);have fu := K.o.fz (1 + a) (by omega);clear hr;go_wp2;all_goals
              go_region;go_wp2;go_roundg g;case measure => omega
              case rel =>
                rw [z6R e (by omega), zcL _ e (by omega)];have c7 : B < (wr.setCell ⟨B, 1 + a, none⟩ (.int .u8 (mask (fun i => rel0 x (ps.take j) a i || i == e)))).heap.size := by rw [z97]; exact b8
                refine ⟨j + 1, by omega, by go_num, ?_, (Lm.alloc ((K.o.setU (show a < 8 by omega) _).congr (fun i b _ _ => ?_) (fun _ _ _ _ => rfl) (fun _ _ _ _ => rfl) (fun _ _ _ _ => rfl)) c7 _).drew, ?_, ?_⟩
                · rw [z7N a3.o, z8Q, X.o]; unfold isLb; simp; omega
                · rw [zcV _ _ _ _ ha G, z7N a3.o]
                · exact ((a1.o.setCell (by simp) _).alloc (by rw [z97]; omega) _).drew
                · simp [World.setCell]; omega
        | zero =>
          obtain rfl : j = ps.length := by omega
          rw [List.take_length] at K X;have d7 : ¬ ((ps.length : Int) < (ps.length : Int)) := by omega
          clear hm G hs;have CC := I (zc0 B x (rel0 x ps) _ _ wr h8 (z3S x ps) K.o);have HL := I (fun h => z7C (n := x) (ps := ps) h1 h);go_wp2_with (go_at_call 88; refine CC.o.mono ?_; rintro e w1 ⟨rfl, a5, a4⟩);have e0 := I a5;have a8 := I (z3z a1.o (Nat.le_refl B) (by omega) a4);have e3 : B < w1.heap.size := by have := a4.size; omega
          have CT := I (zbl B x (clo (rel0 x ps) x) w1 h8 (z4P (z3S x ps) x) a5);clear a5 a4 CC;cases hlat : isLat x (ordOf x ps) with
          | false =>
            have C : isLat x (clo (rel0 x ps) x) = false := hlat;have h16 : makeE x ps = 16 := by
              unfold makeE;rw [if_neg (by omega), if_neg (by rw [X.o]; decide), Int.toNat_natCast, hlat]; rfl
            have b4 := I h16;have O := I C;clear h16 hlat C;go_wp2_with (go_at_call 89; refine CT.o.mono ?_; rintro e w2 ⟨rfl, Y, _⟩; rw [O.o]);go_ret2;exact z6a (z3z a8.o (Nat.le_refl B) (by omega) Y) a2.o b4.o (by decide)
          | true =>
            have C : isLat x (clo (rel0 x ps) x) = true := hlat;have h0 : makeE x ps = 0 := by
              unfold makeE;rw [if_neg (by omega), if_neg (by rw [X.o]; decide), Int.toNat_natCast, hlat]; rfl
            have H0 := I h0;have O := I C;have b5 := I (HL.o hlat);clear h0 hlat C;go_wp2_with (go_at_call 89; refine CT.o.mono ?_; rintro e w2 ⟨rfl, Y, c5⟩; rw [O.o]);go_ret2;exact zgb (z3z a8.o (Nat.le_refl B) (by omega) Y) a2.o H0.o ⟨(c5 O.o).latAt, b5.o, h8, by have := Y.size; omega⟩
end
section
open Go.RowKit P
theorem zf1 (n:Int) (A:Option Addr) (l c:Nat) (w:World) (h:n < 1\/8 < n):
  Calls Tryz.prog 57 #[.int .i64 n,.slice A l c] w fun e w'=>e= .returned (.tuple #[.pointer none,.int .i64 2])/\w= w':=by
 rcases h with h|h
 ·go_enter Tryz.func57,Tryz.ntmps57
  go_wp2;go_ret2;exact⟨rfl,rfl⟩
 ·have h2:decide (n < 1)= false:=by simp;omega
  go_enter Tryz.func57,Tryz.ntmps57;go_wp2;go_ret2;exact⟨rfl,rfl⟩
theorem zcw (n:Int) (A:Option Addr) (l c:Nat) (w:World) (h1:1<=n) (h2:n<=8) (hl:64 < l):
  Calls Tryz.prog 57 #[.int .i64 n,.slice A l c] w fun e w'=>e= .returned (.tuple #[.pointer none,.int .i64 2])/\w= w':=by
 have t3:decide ((64:Int) < l)= true:=by simp;omega
 go_enter Tryz.func57,Tryz.ntmps57;go_wp2;go_ret2;exact⟨rfl,rfl⟩
theorem z8J (n:Int) (A:Option Addr) (l c:Nat) (ps:List (Int × Int)) (w:World) (hl:ps.length= l) (hp:Pairs w w.heap.size A ps):
  Calls Tryz.prog 57 #[.int .i64 n,.slice A l c] w (z3y w n ps):=by
 subst hl;rcases z9K n ps with ⟨h,e⟩|⟨k,rfl,h1,h8,hl,_⟩
 ·by_cases hn:n < 1\/8 < n
  ·exact(zf1 n A _ c w hn).mono fun e' w' ⟨he,hw⟩=>by subst he hw;exact z6a (Below.refl _ _) rfl e (by decide)
  ·exact(zcw n A _ c w (by omega) (by omega) (by omega)).mono fun e' w' ⟨he,hw⟩=>by subst he hw;exact z6a (Below.refl _ _) rfl e (by decide)
 ·exact zg7 k A c ps w hp h1 h8 hl
def lqI (n:Nat) (L:Rel) (a b:Int):Bool:=isL n a && isL n b && L a.toNat b.toNat
theorem LatAt.cells {w w':World} {b n:Nat} {R:Rel} {J M:Nat->Nat->Int} (h:LatAt w b n R J M) (hc:∀ o,w'.cell? ⟨b,o,none⟩= w.cell? ⟨b,o,none⟩):LatAt w' b n R J M:=
 ⟨(hc _).trans h.cn,fun i hi=>(hc _).trans (h.cu i hi),fun i hi=>(hc _).trans (h.cd i hi),fun i j hi hj=>(hc _).trans (h.cj i j hi hj),fun i j hi hj=>(hc _).trans (h.cm i j hi hj)⟩
section
variable {w w':World} {b n:Nat} {L:Rel}
theorem LatR.below {B:Nat} (h:LatR w b n L) (hb:Below B w w') (hB:b < B):LatR w' b n L:=
 ⟨h.at_.cells fun o=>hb.cell (p:=⟨b,o,none⟩) hB,h.lat,h.le8,Nat.lt_of_lt_of_le h.lt hb.size⟩
theorem LatR.here (h:LatR w b n L) (hb:Below w.heap.size w w'):LatR w' b n L:=h.below hb h.lt
theorem LatR.drew (h:LatR w b n L):LatR w.drew b n L:=⟨h.at_.cells fun _=>rfl,h.lat,h.le8,h.lt⟩
theorem LatR.drewN (h:LatR w b n L) (k:Nat):LatR (w.drewN k) b n L:=⟨h.at_.cells fun _=>rfl,h.lat,h.le8,h.lt⟩
theorem LatR.alloc (h:LatR w b n L) (o:Obj):LatR (w.alloc o) b n L:=h.here ((Below.refl w.heap.size w).alloc (Nat.le_refl _) o)
theorem LatR.grown (h:LatR w b n L) {row:Option Nat} (hg:w.grownBy w' row) (hr:row≠some b):LatR w' b n L:=
 ⟨h.at_.cells fun _=>World.cell?_of_block (hg.block b h.lt (fun e=>hr e.symm)),h.lat,h.le8,Nat.lt_of_lt_of_le h.lt hg.size⟩
theorem leq_r (h:LatR w b n L) (x y:Int):
  Calls Tryz.prog 60 #[.pointer (some ⟨b,0,none⟩),.int .i64 x,.int .i64 y] w fun e w'=>e= .returned (.bool (lqI n L x y))/\w= w':=
 zg4 b n L _ _ x y w h.le8 h.at_
end
end
end Go.Proofs.YtpmjcbjdcjjplaaGreatDoor
