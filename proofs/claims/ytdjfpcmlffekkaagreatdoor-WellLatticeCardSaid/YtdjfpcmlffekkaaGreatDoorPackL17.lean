/- Parts of a proof: LatTab, LatMake, LatR. -/
import Derived.StillTailTactics
import Derived.Deep.LoopGhost
import Derived.WalkMore
import Derived.Deep.Cut
import Derived.Deep.DeepCutAuto
import Derived.Outline
import Derived.Test.YtdjfpcmlffekkaaGreatDoorPackL16
set_option maxHeartbeats 8000000
set_option maxRecDepth 100000
set_option linter.unusedVariables false
set_option linter.unusedSimpArgs false
namespace Go.Proofs.YtdjfpcmlffekkaaGreatDoor
section
open Go.RowKit P
theorem z5n (S:Nat->Bool) (R:Rel) (k:Nat):∀ c,z05 S R k c= z17 (good S R) k c:=by
 induction k with
 |zero=>intro c;rfl
 |succ k ih=>intro c;rw[z05,z17,ih]
theorem zdH (S:Nat->Bool) (R:Rel) (c:Nat):good S R c= true↔S c= true/\∀ i,i < 8->S i= true->R c i= true:=by
 unfold good
 rw[Bool.and_eq_true,beq_iff_eq]
 refine and_congr_right fun _=>⟨fun h i hi hs=> ?_,fun h=>z1I fun i hi=> ?_⟩
 ·have:=zdZ h i hi
  rw[hs] at this;simpa using this
 ·cases hs:S i with
  |false=>simp
  |true=>simp[h i hi hs]
theorem z5v {n:Nat} {L:Rel} (h8:n<=8) (hd:Dom n L) (a b:Nat):P.leastOf (fun c=>L a c && L b c) L= jn n L a b:=by
 unfold P.leastOf jn
 rw[z5n]
 show z1g 8 _= _
 rw[z8C h8 fun i hi _=>by show(L a i && L b i && _)= false;rw[z7v hd hi];rfl]
 refine z7b fun c _=> ?_
 rw[Bool.eq_iff_iff,zdH,zcd]
 simp only[Bool.and_eq_true]
 exact⟨fun⟨⟨h1,h2⟩,h3⟩=>⟨h1,h2,fun d hd' k1 k2=>h3 d (by omega) ⟨k1,k2⟩⟩,fun⟨h1,h2,h3⟩=>⟨⟨h1,h2⟩,fun d _ k=>h3 d (hd _ _ k.1).2 k.1 k.2⟩⟩
theorem zeD {n:Nat} {L:Rel} (hd:Dom n L):Dom n (opp L):=fun a b k=>⟨(hd b a k).2,(hd b a k).1⟩
theorem zar {n:Nat} {L:Rel} (h8:n<=8) (hd:Dom n L) (a b:Nat):P.leastOf (fun c=>opp L a c && opp L b c) (opp L)= mt n L a b:=
 z5v h8 (zeD hd) a b
theorem z7Z (n:Nat) (L:Rel) (a b:Nat) (h8:n<=8): -1<=jn n L a b/\jn n L a b<=7:=by
 unfold jn
 rcases z18 n (isLub n L a b) with ⟨h,_⟩|⟨d,h1,h,_⟩<;>omega
def part (n:Nat) (T:Nat->Nat->Int) (x y:Nat):Nat->Nat->Int:=fun a b=>if a < n/\b < n/\(a < x\/(a= x/\b < y)) then T a b else 0
def tab (n:Nat) (T:Nat->Nat->Int):Nat->Nat->Int:=fun a b=>if a < n/\b < n then T a b else 0
theorem z5C (n:Nat) (T:Nat->Nat->Int) (a b:Nat):part n T 0 0 a b= 0:=by unfold part;rw[if_neg (by omega)]
theorem z6z (n:Nat) (T:Nat->Nat->Int) (x y:Nat) (hx:x < n) (hy:y < n) (a b:Nat):upd2 (part n T x y) x y (T x y) a b= part n T x (y+1) a b:=by
 unfold upd2 part
 by_cases e:a= x/\b= y
 ·obtain⟨rfl,rfl⟩:=e;rw[if_pos ⟨rfl,rfl⟩,if_pos (by omega)]
 ·rw[if_neg e]
  by_cases e2:a < n/\b < n/\(a < x\/(a= x/\b < y))
  ·rw[if_pos e2,if_pos (by omega)]
  ·rw[if_neg e2,if_neg (by omega)]
theorem z6w (n:Nat) (T:Nat->Nat->Int) (x:Nat) (a b:Nat):part n T x n a b= part n T (x+1) 0 a b:=by
 unfold part
 by_cases e2:a < n/\b < n/\(a < x\/(a= x/\b < n))
 ·rw[if_pos e2,if_pos (by omega)]
 ·rw[if_neg e2,if_neg (by omega)]
theorem z7o (n:Nat) (T:Nat->Nat->Int) (a b:Nat):part n T n 0 a b= tab n T a b:=by
 unfold part tab
 by_cases e2:a < n/\b < n
 ·rw[if_pos (by omega),if_pos e2]
 ·rw[if_neg (by omega),if_neg e2]
theorem z9m (n:Nat) (T:Nat->Nat->Int) {x y:Nat} (hx:x < n) (hy:y < n):part n T x (y+1) x y= T x y:=by
 unfold part;rw[if_pos (by omega)]
def zeY (w:World) (b n:Nat) (L:Rel) (e:Ending) (w':World):Prop:=
 e= .returned (.bool (isLat n L))/\w.grownBy w' (some b)/\(isLat n L= true->Lm w' b n L (opp L) (tab n (jn n L)) (tab n (mt n L)))
theorem z4Z {n:Nat} {L:Rel} {x y:Nat} (hx:x < n) (hy:y < n) (h:badAt n L x y= true):isLat n L= false:=by
 cases e:isLat n L with
 |false=>rfl
 |true=>have:=z1r.1 (z1r.1 e x hx) y hy;rw[h] at this;cases this
theorem zaN {n:Nat} {L:Rel} (h:∀ x y,x < n->y < n->badAt n L x y= false):isLat n L= true:=
 z1r.2 fun x hx=>z1r.2 fun y hy=>by rw[h x y hx hy];rfl
theorem zak (b n:Nat) (L:Rel) (w:World) (h8:n<=8) (hd:Dom n L)
  (hm:Lm w b n L (opp L) (fun _ _=>0) (fun _ _=>0)):
  Calls Tryz.prog 27 #[.pointer (some ⟨b,0,none⟩)] w (zeY w b n L):=by
 have hn0:=hm.cn
 have HM:=I (hm.congr (fun _ _ _ _=>rfl) (fun _ _ _ _=>rfl) (fun i j _ _=>(z5C n (jn n L) i j).symm) (fun i j _ _=>(z5C n (mt n L) i j).symm))
 have HD:=I hd
 clear hm hd
 go_enter Tryz.func27,Tryz.ntmps27
 go_wp2
 go_step3
 go_wp2
 go_step3
 go_wp2
 clear hn0
 go_loopg [3,11] n (fun g ok i wr=>∃ x:Nat,x+g= n/\ok= .bool true/\i= .int .i64 x/\(∀ a c,a < x->c < n->badAt n L a c= false)/\
  Lm wr b n L (opp L) (part n (jn n L) x 0) (part n (mt n L) x 0)/\w.grownBy wr (some b))
 case atStart=>exact⟨0,by omega,rfl,rfl,fun a c ha _=>absurd ha (by omega),HM.o,z72 _ _⟩
 case round=>
  obtain⟨x,hx,rfl,rfl,hbad,hm,hg⟩:=hrel
  have hn1:=hm.cn
  have HB1:=I hbad
  have HM1:=I hm
  have HG1:=I hg
  clear hbad hm hg
  cases gk with
  |zero=>
   have hxn: ¬ ((x:Int) <(n:Int)):=by omega
   obtain rfl:x= n:=by omega
   have HY:=I (zaN (n:=x) HB1.o)
   go_wp2
   first|rw[Exit.noGoto_ret]|skip
   go_ret
   exact⟨zb HY.o.symm,HG1.o,fun _=>HM1.o.congr (fun _ _ _ _=>rfl) (fun _ _ _ _=>rfl) (fun i j _ _=>z7o _ _ i j) (fun i j _ _=>z7o _ _ i j)⟩
  |succ g=>
   have hxn:(x:Int) <(n:Int):=by omega
   go_wp2
   clear hn1
   obtain⟨wo,hwo⟩:∃ wo:World,wo= wr:=⟨_,rfl⟩
   subst hwo
   go_loopg [3,18] n (fun g ok i wr=>∃ y:Nat,y+g= n/\ok= .bool true/\i= .int .i64 y/\(∀ c,c < y->badAt n L x c= false)/\
    Lm wr b n L (opp L) (part n (jn n L) x y) (part n (mt n L) x y)/\w.grownBy wr (some b))
   case atStart=>exact⟨0,by omega,rfl,rfl,fun c hc=>absurd hc (by omega),HM1.o,HG1.o⟩
   case round=>
    obtain⟨y,hy,rfl,rfl,hbad,hm,hg⟩:=hrel
    have hn1:=hm.cn
    have HB2:=I hbad
    have HM2:=I hm
    have HG2:=I hg
    clear hbad
    cases gk with
    |zero=>
     have hyn: ¬ ((y:Int) <(n:Int)):=by omega
     clear hm hg
     obtain rfl:y= n:=by omega
     go_wp2
     go_roundg g
     case measure=>omega
     case rel=>
      refine⟨x+1,by omega,rfl,by go_num,fun a c ha hc=> ?_,HM2.o.congr (fun _ _ _ _=>rfl) (fun _ _ _ _=>rfl) (fun i j _ _=>z6w _ _ _ i j) (fun i j _ _=>z6w _ _ _ i j),HG2.o⟩
      by_cases e:a= x
      ·subst e;exact HB2.o c hc
      ·exact HB1.o a c (by omega) hc
    |succ g2=>
     have hyn:(y:Int) <(n:Int):=by omega
     have hx8:(x:Int) < 8:=by omega
     have hy8:(y:Int) < 8:=by omega
     have ux:=hm.cu x (by omega)
     have uy:=hm.cu y (by omega)
     have dx:=hm.cd x (by omega)
     have dy:=hm.cd y (by omega)
     have fj:=hm.fz (17+x*8+y) (by omega)
     have fm:=hm.fz (81+x*8+y) (by omega)
     have oj:=hm.cj x y (by omega) (by omega)
     have om:=hm.cm x y (by omega) (by omega)
     have cL:=z6V b 1 (fun c=>L x c && L y c) L wr.drew (fun i hi=>hm.cu i hi)
     rw[← z7n,z5v h8 HD.o] at cL
     have CL:=I (cL.mono fun e w' ⟨h1,h2⟩=>(⟨h1,h2.symm⟩:_/\w'= wr.drew))
     have HM3:=I (((hm.setJ (show x < 8 by omega) (show y < 8 by omega) (jn n L x y)).congr (fun _ _ _ _=>rfl) (fun _ _ _ _=>rfl) (fun i j _ _=>z6z n (jn n L) x y (by omega) (by omega) i j) (fun _ _ _ _=>rfl)).drew)
     have HG3:=I (z2M (z32 (o:=17+x*8+y) hg (.int .i8 (jn n L x y))))
     clear cL hm hg
     go_wp2
     refine wp_region_still_tail 24 (by kernel_rfl) (by kernel_rfl) ?_
     simp only[List.take_succ_cons,List.take_zero,List.drop_succ_cons,List.drop_zero]
     change wpStill _ _ wr.drew (fun a'=>wpList _ _ _ _ _ wr.drew) _ _
     repeat still_step
     still_call CL.o
     repeat still_step
     refine wpStill_nil ?_
     clear CL
     go_wp2
     clear ux uy dx dy fj fm oj om hn1
     generalize hW1:(wr.setCell ⟨b,17+x*8+y,none⟩ (.int .i8 (jn n L x y))).drew= W1 at*
     clear hW1
     have hm:=HM3.o
     have hg:=HG3.o
     have hn1:=hm.cn
     have dx:=hm.cd x (by omega)
     have dy:=hm.cd y (by omega)
     have fm:=hm.fz (81+x*8+y) (by omega)
     have om:=hm.cm x y (by omega) (by omega)
     have cL:=z6V b 9 (fun c=>opp L x c && opp L y c) (opp L) W1.drew (fun i hi=>hm.cd i hi)
     rw[← z7n,zar h8 HD.o] at cL
     have CL:=I (cL.mono fun e w' ⟨h1,h2⟩=>(⟨h1,h2.symm⟩:_/\w'= W1.drew))
     have HM4:=I (((hm.setM (show x < 8 by omega) (show y < 8 by omega) (mt n L x y)).congr (fun _ _ _ _=>rfl) (fun _ _ _ _=>rfl) (fun _ _ _ _=>rfl) (fun i j _ _=>z6z n (mt n L) x y (by omega) (by omega) i j)).drew)
     have HG4:=I (z2M (z32 (o:=81+x*8+y) hg (.int .i8 (mt n L x y))))
     clear cL hm hg
     refine wp_region_still_tail 24 (by kernel_rfl) (by kernel_rfl) ?_
     simp only[List.take_succ_cons,List.take_zero,List.drop_succ_cons,List.drop_zero]
     change wpStill _ _ W1.drew (fun a'=>wpList _ _ _ _ _ W1.drew) _ _
     repeat still_step
     still_call CL.o
     repeat still_step
     refine wpStill_nil ?_
     clear CL
     go_upto_region 10 with (fail)
     clear dx dy fm om hn1
     generalize hW2:(W1.setCell ⟨b,81+x*8+y,none⟩ (.int .i8 (mt n L x y))).drew= W2 at*
     clear hW2
     have hm:=HM4.o
     have ux:=hm.cu x (by omega)
     have uy:=hm.cu y (by omega)
     have cj:=hm.cj x y (by omega) (by omega)
     have cm:=hm.cm x y (by omega) (by omega)
     rw[z9m n (jn n L) (by omega) (by omega)] at cj
     rw[z9m n (mt n L) (by omega) (by omega)] at cm
     have bxy:=z3V (L x) y (by omega)
     have byx:=z3V (L y) x (by omega)
     obtain⟨j1,j2⟩:=z7Z n L x y h8
     obtain⟨m1,m2⟩:=z7Z n (opp L) x y h8
     have hbadxy:badAt n L x y=((x !=y && L x y && L y x) || decide (jn n L x y < 0) || decide (mt n L x y < 0)):=rfl
     have HBX:=I hbadxy
     change -1<=mt n L x y at m1
     change mt n L x y<=7 at m2
     clear hm hbadxy
     generalize jn n L x y= jv at*
     generalize mt n L x y= mv at*
     generalize L x y= p at*
     generalize L y x= q at*
     obtain⟨tw,htw⟩:∃ tw,(x !=y && p && q)= tw:=⟨_,rfl⟩
     have HTW:=I htw
     rw[htw] at HBX
     clear htw
     go_cut [6] (fun v wz=>v= .bool tw/\wz= W2)
     case first=>
      clear cj cm
      by_cases e:x= y
      ·have e1:((x:Int) !=(y:Int))= false:=by simp[e]
       have ht:tw= false:=by have:=HTW.o;simp[e] at this;exact this
       have HT:=I ht
       clear ht e ux uy bxy byx
       go_wp2
       go_meet
       case rel=>exact⟨by rw[HT.o],rfl⟩
      ·have e1:((x:Int) !=(y:Int))= true:=by simp;omega
       have e3:(x !=y)= true:=by simpa using e
       have ht:tw=(p && q):=by have:=HTW.o;rw[e3] at this;simpa using this.symm
       clear e3
       have HT:=I ht
       clear ht
       cases p with
       |false=>
        go_wp2
        go_meet
        case rel=>exact⟨by rw[HT.o];rfl,rfl⟩
       |true=>
        go_wp2
        go_meet
        case rel=>exact⟨by rw[HT.o];rfl,rfl⟩
     case rest=>
      obtain⟨rfl,rfl⟩:=hcut
      clear ux uy bxy byx
      cases tw with
      |true=>
       have HN:=I (z4Z (show x < n by omega) (show y < n by omega) HBX.o)
       clear cj cm
       go_wp2
       first|rw[Exit.noGoto_ret]|skip
       go_ret
       exact⟨zb HN.o.symm,HG4.o,fun h=>absurd (HN.o.symm.trans h) (by simp)⟩
      |false=>
       by_cases hj:jv < 0
       ·have HN:=I (z4Z (show x < n by omega) (show y < n by omega) (HBX.o.trans (by simp[hj])))
        have hj2:decide (0<=jv)= false:=by simp;omega
        go_wp2
        first|rw[Exit.noGoto_ret]|skip
        go_ret
        exact⟨zb HN.o.symm,HG4.o,fun h=>absurd (HN.o.symm.trans h) (by simp)⟩
       ·have hj2:decide (0<=jv)= true:=by simp;omega
        by_cases hk:mv < 0
        ·have HN:=I (z4Z (show x < n by omega) (show y < n by omega) (HBX.o.trans (by simp[hk])))
         have hk2:decide (0<=mv)= false:=by simp;omega
         go_wp2
         first|rw[Exit.noGoto_ret]|skip
         go_ret
         exact⟨zb HN.o.symm,HG4.o,fun h=>absurd (HN.o.symm.trans h) (by simp)⟩
        ·have HN:=I (HBX.o.trans (show(false || decide (jv < 0) || decide (mv < 0))= false by simp;omega))
         have hk2:decide (0<=mv)= true:=by simp;omega
         go_wp2
         go_roundg g2
         case measure=>omega
         case rel=>
          refine⟨y+1,by omega,rfl,by go_num,fun c hc=> ?_,HM4.o,HG4.o⟩
          by_cases e:c= y
          ·subst e;exact HN.o
          ·exact HB2.o c (by omega)
end
section
open Go.RowKit P
def Pairs (w:World) (B:Nat) (A:Option Addr) (ps:List (Int × Int)):Prop:=
 ps.length<=9223372036854775807/\(0 < ps.length->∃ b o,A= some ⟨b,o,none⟩/\b < B/\∀ i p,ps[i]?= some p->
  w.cell? ⟨b,o+i*2,none⟩= some (.int .i64 p.1)/\w.cell? ⟨b,o+i*2+1,none⟩= some (.int .i64 p.2)/\(Lit.int .i64 p.1).wf= true/\(Lit.int .i64 p.2).wf= true)
def zlat:Array Value:=(.int .i64 0::(List.replicate 16 (.int .u8 0) ++ List.replicate 128 (.int .i8 0))).toArray
def nlat (k:Nat):Array Value:=zlat.setIfInBounds 0 (.int .i64 k)
theorem zbp (w:World):(zeroValue 80).run Tryz.prog w= .ok (.agg zlat) w:=by kernel_rfl
theorem zeA:(zlat= #[])= False:=by
 rw[eq_iff_iff,iff_false];intro h;have:=congrArg Array.size h;simp[zlat] at this
theorem z2x (k i:Nat):(nlat k)[i]?= if i= 0 then some (.int .i64 k) else if i < 17 then some (.int .u8 0) else if i < 145 then some (.int .i8 0) else none:=by
 unfold nlat zlat
 by_cases h0:i= 0
 ·subst h0;simp
 ·rw[if_neg h0,Array.getElem?_setIfInBounds_ne (by omega)]
  obtain⟨j,rfl⟩:∃ j,i= j+1:=⟨i - 1,by omega⟩
  simp only[List.getElem?_toArray,List.getElem?_cons_succ]
  by_cases h1:j < 16
  ·rw[List.getElem?_append_left (by simpa using h1),if_pos (by omega)];rw[List.getElem?_replicate,if_pos h1]
  ·rw[List.getElem?_append_right (by simp;omega),if_neg (by omega)]
   simp only[List.length_replicate,List.getElem?_replicate]
   by_cases h2:j - 16 < 128
   ·rw[if_pos h2,if_pos (by omega)]
   ·rw[if_neg h2,if_neg (by omega)]
theorem z1n (w:World) (cs:Array Value) (T:TypeId) (i:Nat):(w.alloc (.cells cs T)).cell? ⟨w.heap.size,i,none⟩= cs[i]?:=
 cell_of_row _ w.heap.size i cs T (0,0) (heap_alloc_new w _)
theorem z5j (w:World) (cs:Array Value) (T:TypeId) (i:Nat):(w.alloc (.cells cs T)).frozen? ⟨w.heap.size,i,none⟩= false:=by
 have h:=heap_alloc_new w (.cells cs T)
 unfold World.frozen?
 rw[h]
 simp
theorem zdx (w:World) (k:Nat) (T:TypeId):Lm (w.alloc (.cells (nlat k) T)) w.heap.size k (fun _ _=>false) (fun _ _=>false) (fun _ _=>0) (fun _ _=>0):=by
 refine⟨?_,fun i hi=> ?_,fun i hi=> ?_,fun i j hi hj=> ?_,fun i j hi hj=> ?_,fun i hi=>z5j _ _ _ _⟩
 ·rw[z1n,z2x];rfl
 ·rw[z1n,z2x,if_neg (by omega),if_pos (by omega),z5l];rfl
 ·rw[z1n,z2x,if_neg (by omega),if_pos (by omega),z5l];rfl
 ·rw[z1n,z2x,if_neg (by omega),if_neg (by omega),if_pos (by omega)]
 ·rw[z1n,z2x,if_neg (by omega),if_neg (by omega),if_pos (by omega)]
theorem Lm.alloc {w:World} {b n:Nat} {U D:Rel} {J M:Nat->Nat->Int} (h:Lm w b n U D J M) (hb:b < w.heap.size) (o:Obj):Lm (w.alloc o) b n U D J M:=
 h.below ((Below.refl w.heap.size w).alloc (Nat.le_refl _) o) hb
theorem z7u (w:World) (a:Addr) (v:Value):(w.setCell a v).heap.size= w.heap.size:=by simp[World.setCell]
def diag (x:Nat):Rel:=fun a b=>decide (a < x) && (a ==b)
theorem zaG (a b:Nat):(false:Bool)= diag 0 a b:=by simp[diag]
theorem zcf (x a b:Nat):upd (diag x) x (fun i=>i ==x) a b= diag (x+1) a b:=by
 unfold upd diag
 by_cases e:a= x
 ·subst e;simp[Bool.beq_comm]
 ·have:(a < x+1)=(a < x):=by simp;omega
  simp[e,this]
theorem zcN (k a b:Nat) (_ha:a < 8) (_hb:b < 8):diag k a b= rel0 k [] a b:=by
 unfold diag rel0
 by_cases e:a= b
 ·subst e;simp
 ·have e':(a ==b)= false:=beq_eq_false_iff_ne.2 e
  simp[e']
theorem zd9 (x:Nat) (hx:x < 8):((2:Int) ^ x % 256)=((mask (fun i=>i ==x):Nat):Int):=by
 rw[z67 x hx,← z86 x hx];simp
theorem zbD (k:Nat) (ps:List (Int × Int)) (x y:Nat) (hx:x < k) (hy:y < k) (a b:Nat):
  upd (rel0 k ps) x (fun i=>rel0 k ps x i || i ==y) a b= rel0 k (ps ++ [((x:Int),(y:Int))]) a b:=by
 unfold upd rel0
 rw[List.any_append]
 by_cases e:a= x
 ·subst e
  by_cases e2:b= y
  ·subst e2;simp[hx,hy]
  ·have e3:((y:Int) ==(b:Int))= false:=beq_eq_false_iff_ne.2 (by omega)
   have e4:(b ==y)= false:=beq_eq_false_iff_ne.2 e2
   simp[e3,e4]
 ·have e3:((x:Int) ==(a:Int))= false:=beq_eq_false_iff_ne.2 (by omega)
  simp[e,e3]
theorem z89 (n:Int) (ps:List (Int × Int)) (p:Int × Int):z0F n (ps ++ [p])=(z0F n ps && (isLb n p.1 && isLb n p.2)):=by
 unfold z0F;simp[List.all_append]
theorem z7h {n:Int} {ps:List (Int × Int)} {i:Nat} {p:Int × Int} (h:ps[i]?= some p) (hb:(isLb n p.1 && isLb n p.2)= false):z0F n ps= false:=by
 cases e:z0F n ps with
 |false=>rfl
 |true=>
  unfold z0F at e
  rw[List.all_eq_true] at e
  rw[e p (List.mem_of_getElem? h)] at hb;cases hb
theorem z6M {α:Type} {ps:List α} {i:Nat} {p:α} (h:ps[i]?= some p):ps.take (i+1)= ps.take i ++ [p]:=by
 rw[List.take_add_one,h];rfl
structure LatR (w:World) (b n:Nat) (L:Rel):Prop where
 at_:LatAt w b n L (tab n (jn n L)) (tab n (mt n L))
 lat:Lat n L
 le8:n<=8
 lt:b < w.heap.size
def z30 (w:World) (n:Int) (ps:List (Int × Int)) (e:Ending) (w':World):Prop:=
 Below w.heap.size w w'/\((makeE n ps≠0/\e= .returned (.tuple #[.pointer none,.int .i64 (makeE n ps)]))\/
  (makeE n ps= 0/\∃ k:Nat,n= k/\e= .returned (.tuple #[.pointer (some ⟨w.heap.size,0,none⟩),.int .i64 0])/\LatR w' w.heap.size k (ordOf k ps)))
theorem z3w {B b:Nat} {u w w':World} (h:Below B u w) (hb:B<=b) (hB:B<=w.heap.size) (hg:w.grownBy w' (some b)):Below B u w':=
 h.grown hg hB (fun k hk=>by injection hk with hk;omega)
theorem z5y {w w':World} {B:Nat} {n:Int} {ps:List (Int × Int)} {v:Int} (hb:Below B w w') (hB:w.heap.size= B) (h:makeE n ps= v) (hv:v≠0):
  z30 w n ps (.returned (.tuple #[.pointer none,.int .i64 v])) w':=by
 subst hB;subst h
 exact⟨hb,.inl ⟨hv,rfl⟩⟩
theorem zeh {w w':World} {B k:Nat} {ps:List (Int × Int)} (hb:Below B w w') (hB:w.heap.size= B) (h:makeE k ps= 0) (hl:LatR w' B k (ordOf k ps)):
  z30 w k ps (.returned (.tuple #[.pointer (some ⟨B,0,none⟩),.int .i64 0])) w':=by
 subst hB
 exact⟨hb,.inr ⟨h,k,rfl,rfl,hl⟩⟩
theorem zey (k : Nat) (A : Option Addr) (c : Nat) (ps : List (Int × Int)) (w : World) (hp : Pairs w w.heap.size A ps) (h1 : 1 <= k) (h8 : k <= 8) (hl : ps.length <= 64) :
    Calls Tryz.prog 9 #[.int .i64 k, .slice A ps.length c] w (z30 w k ps) := by
  have t1 : decide ((k : Int) < 1) = false := by simp; omega
  have t2 : decide ((8 : Int) < k) = false := by simp; omega
  have t3 : decide ((64 : Int) < ps.length) = false := by simp; omega
  have hz := zbp
  have hne := zeA
  have HP := I hp
  clear hp
  go_enter Tryz.func9, Tryz.ntmps9
  go_wp2
  clear hz hne
  have HM := I (zdx w k 80)
  have HB := I ((Below.refl w.heap.size w).alloc (Nat.le_refl _) (.cells (nlat k) 80))
  have HS : w.heap.size < (w.alloc (.cells (nlat k) 80)).heap.size := by simp
  change Hid (Lm (w.alloc (.cells (zlat.setIfInBounds 0 (.int .i64 k)) 80)) _ _ _ _ _ _) at HM
  change Hid (Below _ _ (w.alloc (.cells (zlat.setIfInBounds 0 (.int .i64 k)) 80))) at HB
  change _ < (w.alloc (.cells (zlat.setIfInBounds 0 (.int .i64 k)) 80)).heap.size at HS
  generalize w.alloc (.cells (zlat.setIfInBounds 0 (.int .i64 k)) 80) = W0 at *
  have hBS : w.heap.size <= w.heap.size := Nat.le_refl _
  generalize hB : w.heap.size = B at *
  have HBE := I hB
  clear hB
  go_loopg [25] k (fun g i wr => ∃ x : Nat, x + g = k /\ i = .int .i64 x /\ Lm wr B k (diag x) (fun _ _ => false) (fun _ _ => 0) (fun _ _ => 0) /\ Below B w wr /\ B < wr.heap.size)
  case atStart => exact ⟨0, by omega, rfl, HM.o.congr (fun _ _ _ _ => zaG _ _) (fun _ _ _ _ => rfl) (fun _ _ _ _ => rfl) (fun _ _ _ _ => rfl), HB.o, HS⟩
  case round =>
    obtain ⟨x, hx, rfl, hm, hb, hs⟩ := hrel
    have HM1 := I hm
    have HB1 := I hb
    have HS1 := hs
    cases gk with
    | succ g =>
      have hlt : (x : Int) < (k : Int) := by omega
      have hx8 : (x : Int) < 8 := by omega
      have cu := hm.cu x (by omega)
      have fu := hm.fz (1 + x) (by omega)
      clear hm hb hs
      go_wp2
      go_region
      all_goals go_wp2
      all_goals go_roundg g
      case measure => omega
      case rel =>
        rw [zd9 x (by omega)]
        refine ⟨x + 1, by omega, by go_num, ((HM1.o.setU (show x < 8 by omega) _).congr (fun _ _ _ _ => zcf _ _ _) (fun _ _ _ _ => rfl) (fun _ _ _ _ => rfl) (fun _ _ _ _ => rfl)).drew, ?_, by simpa [World.setCell] using HS1⟩
        exact (HB1.o.setCell (by simp) _).drew
    | zero =>
      have hge : ¬ ((x : Int) < (k : Int)) := by omega
      obtain rfl : x = k := by omega
      clear hm hb hs
      have HM2 := I (HM1.o.congr (fun a b ha hb => zcN _ a b ha hb) (fun _ _ _ _ => rfl) (fun _ _ _ _ => rfl) (fun _ _ _ _ => rfl))
      go_wp2
      go_loopg [38] ps.length (fun g i wr => ∃ j : Nat, j + g = ps.length /\ i = .int .i64 j /\ z0F x (ps.take j) = true /\ Lm wr B x (rel0 x (ps.take j)) (fun _ _ => false) (fun _ _ => 0) (fun _ _ => 0) /\ Below B w wr /\ B < wr.heap.size)
      case atStart => exact ⟨0, by omega, rfl, rfl, HM2.o, HB1.o, HS1⟩
      case round =>
        obtain ⟨j, hj, rfl, hok, hm, hb, hs⟩ := hrel
        have HM3 := I hm
        have HB3 := I hb
        have HS3 := hs
        have HO3 := I hok
        clear hok
        cases gk with
        | succ g =>
          have hlt : (j : Int) < (ps.length : Int) := by omega
          obtain ⟨p, hp⟩ : ∃ p, ps[j]? = some p := ⟨_, List.getElem?_eq_getElem (by omega)⟩
          obtain ⟨b, o, rfl, hbl, hcell⟩ := HP.o.2 (by omega)
          obtain ⟨c0, c1, wf0, wf1⟩ := hcell j p hp
          have d0 := (hb.cell (p := ⟨b, o + j * 2, none⟩) hbl).trans c0
          have d1 := (hb.cell (p := ⟨b, o + j * 2 + 1, none⟩) hbl).trans c1
          clear c0 c1 hcell hm hb hs
          obtain ⟨p0, p1⟩ := p
          have HPJ := I hp
          clear hp
          simp only at d0 d1 wf0 wf1
          cases hr : (isLb x p0 && isLb x p1) with
          | false =>
            have HR := I hr
            have hr2 : p0 < 0 \/ (x : Int) <= p0 \/ p1 < 0 \/ (x : Int) <= p1 := by
              unfold isLb at hr; simp at hr; omega
            have HR2 := I hr2
            clear hr hr2
            go_wp2
            all_goals first
              | (exfalso; have := HR2.o; omega)
              | (go_ret2
                 have h2 : makeE x ps = 2 := by
                   unfold makeE
                   rw [if_neg (by omega), if_pos (z7h HPJ.o HR.o)]
                 exact z5y (HB3.o.alloc (by omega) _) HBE.o h2 (by decide))
          | true =>
            obtain ⟨a, e, rfl, rfl, ha, hb⟩ : ∃ a e : Nat, p0 = a /\ p1 = e /\ a < x /\ e < x := by
              unfold isLb at hr; simp at hr
              exact ⟨p0.toNat, p1.toNat, by omega, by omega, by omega, by omega⟩
            have cu := HM3.o.cu a (by omega)
            have fu := HM3.o.fz (1 + a) (by omega)
            clear hr
            go_wp2
            all_goals
              go_region
              go_wp2
              go_roundg g
              case measure => omega
              case rel =>
                rw [z67 e (by omega), zaT _ e (by omega)]
                have hsz : B < (wr.setCell ⟨B, 1 + a, none⟩ (.int .u8 (mask (fun i => rel0 x (ps.take j) a i || i == e)))).heap.size := by rw [z7u]; exact HS3
                refine ⟨j + 1, by omega, by go_num, ?_, (Lm.alloc ((HM3.o.setU (show a < 8 by omega) _).congr (fun i b _ _ => ?_) (fun _ _ _ _ => rfl) (fun _ _ _ _ => rfl) (fun _ _ _ _ => rfl)) hsz _).drew, ?_, ?_⟩
                · rw [z6M HPJ.o, z89, HO3.o]; unfold isLb; simp; omega
                · rw [zbD _ _ _ _ ha hb, z6M HPJ.o]
                · exact ((HB3.o.setCell (by simp) _).alloc (by rw [z7u]; omega) _).drew
                · simp [World.setCell]; omega
        | zero =>
          obtain rfl : j = ps.length := by omega
          rw [List.take_length] at HM3 HO3
          have hge2 : ¬ ((ps.length : Int) < (ps.length : Int)) := by omega
          clear hm hb hs
          have CC := I (zba B x (rel0 x ps) _ _ wr h8 (z3v x ps) HM3.o)
          have HL := I (fun h => z6x (n := x) (ps := ps) h1 h)
          go_wp2_with (go_at_call 26; refine CC.o.mono ?_; rintro e w1 ⟨rfl, hm1, hg1⟩)
          have HM4 := I hm1
          have HB4 := I (z3w HB3.o (Nat.le_refl B) (by omega) hg1)
          have HS4 : B < w1.heap.size := by have := hg1.size; omega
          have CT := I (zak B x (clo (rel0 x ps) x) w1 h8 (z48 (z3v x ps) x) hm1)
          clear hm1 hg1 CC
          cases hlat : isLat x (ordOf x ps) with
          | false =>
            have hlat2 : isLat x (clo (rel0 x ps) x) = false := hlat
            have h16 : makeE x ps = 16 := by
              unfold makeE
              rw [if_neg (by omega), if_neg (by rw [HO3.o]; decide), Int.toNat_natCast, hlat]; rfl
            have H16 := I h16
            have HLT := I hlat2
            clear h16 hlat hlat2
            go_wp2_with (go_at_call 27; refine CT.o.mono ?_; rintro e w2 ⟨rfl, hg2, _⟩; rw [HLT.o])
            go_ret2
            exact z5y (z3w HB4.o (Nat.le_refl B) (by omega) hg2) HBE.o H16.o (by decide)
          | true =>
            have hlat2 : isLat x (clo (rel0 x ps) x) = true := hlat
            have h0 : makeE x ps = 0 := by
              unfold makeE
              rw [if_neg (by omega), if_neg (by rw [HO3.o]; decide), Int.toNat_natCast, hlat]; rfl
            have H0 := I h0
            have HLT := I hlat2
            have HLA := I (HL.o hlat)
            clear h0 hlat hlat2
            go_wp2_with (go_at_call 27; refine CT.o.mono ?_; rintro e w2 ⟨rfl, hg2, hm2⟩; rw [HLT.o])
            go_ret2
            exact zeh (z3w HB4.o (Nat.le_refl B) (by omega) hg2) HBE.o H0.o ⟨(hm2 HLT.o).latAt, HLA.o, h8, by have := hg2.size; omega⟩
end
section
open Go.RowKit P
theorem zds (n:Int) (A:Option Addr) (l c:Nat) (w:World) (h:n < 1\/8 < n):
  Calls Tryz.prog 9 #[.int .i64 n,.slice A l c] w fun e w'=>e= .returned (.tuple #[.pointer none,.int .i64 2])/\w= w':=by
 rcases h with h|h
 ·go_enter Tryz.func9,Tryz.ntmps9
  go_wp2
  go_ret2
  exact⟨rfl,rfl⟩
 ·have h2:decide (n < 1)= false:=by simp;omega
  go_enter Tryz.func9,Tryz.ntmps9
  go_wp2
  go_ret2
  exact⟨rfl,rfl⟩
theorem zbs (n:Int) (A:Option Addr) (l c:Nat) (w:World) (h1:1<=n) (h2:n<=8) (hl:64 < l):
  Calls Tryz.prog 9 #[.int .i64 n,.slice A l c] w fun e w'=>e= .returned (.tuple #[.pointer none,.int .i64 2])/\w= w':=by
 have t3:decide ((64:Int) < l)= true:=by simp;omega
 go_enter Tryz.func9,Tryz.ntmps9
 go_wp2
 go_ret2
 exact⟨rfl,rfl⟩
theorem z3p (n:Int) (A:Option Addr) (l c:Nat) (ps:List (Int × Int)) (w:World) (hl:ps.length= l) (hp:Pairs w w.heap.size A ps):
  Calls Tryz.prog 9 #[.int .i64 n,.slice A l c] w (z30 w n ps):=by
 subst hl
 rcases z8P n ps with ⟨h,e⟩|⟨k,rfl,h1,h8,hl,_⟩
 ·by_cases hn:n < 1\/8 < n
  ·exact(zds n A _ c w hn).mono fun e' w' ⟨he,hw⟩=>by subst he hw;exact z5y (Below.refl _ _) rfl e (by decide)
  ·exact(zbs n A _ c w (by omega) (by omega) (by omega)).mono fun e' w' ⟨he,hw⟩=>by subst he hw;exact z5y (Below.refl _ _) rfl e (by decide)
 ·exact zey k A c ps w hp h1 h8 hl
def lqI (n:Nat) (L:Rel) (a b:Int):Bool:=isL n a && isL n b && L a.toNat b.toNat
theorem LatAt.cells {w w':World} {b n:Nat} {R:Rel} {J M:Nat->Nat->Int} (h:LatAt w b n R J M) (hc:∀ o,w'.cell? ⟨b,o,none⟩= w.cell? ⟨b,o,none⟩):LatAt w' b n R J M:=
 ⟨(hc _).trans h.cn,fun i hi=>(hc _).trans (h.cu i hi),fun i hi=>(hc _).trans (h.cd i hi),fun i j hi hj=>(hc _).trans (h.cj i j hi hj),fun i j hi hj=>(hc _).trans (h.cm i j hi hj)⟩
section
variable {w w':World} {b n:Nat} {L:Rel}
theorem LatR.below {B:Nat} (h:LatR w b n L) (hb:Below B w w') (hB:b < B):LatR w' b n L:=
 ⟨h.at_.cells fun o=>hb.cell (p:=⟨b,o,none⟩) hB,h.lat,h.le8,Nat.lt_of_lt_of_le h.lt hb.size⟩
theorem LatR.here (h:LatR w b n L) (hb:Below w.heap.size w w'):LatR w' b n L:=h.below hb h.lt
theorem LatR.drew (h:LatR w b n L):LatR w.drew b n L:=⟨h.at_.cells fun _=>rfl,h.lat,h.le8,h.lt⟩
theorem LatR.drewN (h:LatR w b n L) (k:Nat):LatR (w.drewN k) b n L:=⟨h.at_.cells fun _=>rfl,h.lat,h.le8,h.lt⟩
theorem LatR.alloc (h:LatR w b n L) (o:Obj):LatR (w.alloc o) b n L:=h.here ((Below.refl w.heap.size w).alloc (Nat.le_refl _) o)
theorem LatR.grown (h:LatR w b n L) {row:Option Nat} (hg:w.grownBy w' row) (hr:row≠some b):LatR w' b n L:=
 ⟨h.at_.cells fun _=>World.cell?_of_block (hg.block b h.lt (fun e=>hr e.symm)),h.lat,h.le8,Nat.lt_of_lt_of_le h.lt hg.size⟩
theorem leq_r (h:LatR w b n L) (x y:Int):
  Calls Tryz.prog 44 #[.pointer (some ⟨b,0,none⟩),.int .i64 x,.int .i64 y] w fun e w'=>e= .returned (.bool (lqI n L x y))/\w= w':=
 zea b n L _ _ x y w h.le8 h.at_
end
end
end Go.Proofs.YtdjfpcmlffekkaaGreatDoor
