/- Parts of a proof: E10X, E10Y, E10V, E10W, E10Z. -/
import Derived.Lib.AppendZeros
import Derived.Test.YtpmjcbjdcjjplaaGreatDoorPackS34
set_option maxHeartbeats 8000000
set_option maxRecDepth 100000
set_option linter.unusedVariables false
set_option linter.unusedSimpArgs false
namespace Go.Proofs.YtpmjcbjdcjjplaaGreatDoor
section
open Go Go.RowKit
theorem zeT (w:World) (n:Nat) (i:TypeInfo) (z:Value) (hz6:z.cells.size= 6) (h0:n<=1000):World.ownsRow (w.drew.alloc (.cells (Builtin.zeroCells z.cells n ++ Builtin.zeroCells z.cells (grownCap w n 0 39 - n)) 39)) w.heap.size 39 6 (.slice (some ⟨w.heap.size,0,none⟩) 0 (grownCap w n 0 39)) 0 []:=by
 refine⟨rfl,.inr ⟨w.heap.size,_,_,rfl,Nat.le_refl _,heap_alloc_new w.drew _,Nat.zero_le _,grownCap_le_maxLen _ _ _ _ (by unfold maxLen;omega),?_,by simp⟩⟩;have h1:=grownCap_ge w n 0 39;rw[Array.size_append,size_zeroCells,size_zeroCells,hz6,← Nat.add_mul]
 congr 1
 omega
theorem zcO {w:World} {base:Nat} {e:TypeId} {size:Nat} {v:Value} {n:Nat} {xs:List Value} (h:w.ownsRow base e size v n xs) {j:Nat} (hj:v.ownBlock= some j):base<=j:=by
 rcases h.2 with ⟨rfl,_⟩|⟨g,cap,cur,rfl,hg,_⟩
 ·cases hj
 ·have:g= j:=by simpa [Value.ownBlock] using hj
  omega
theorem z5q (w:World) (o:Obj):Below w.heap.size w (w.drew.alloc o):=(Below.refl w.heap.size w).drew.trans (zc w.drew o)
theorem grow0 (w:World):Calls Tryz.prog 160 #[.slice none 0 0,.int .i64 0] w fun e w'=>e= .returned (.slice none 0 0)/\w'= w:=by
 go_enter Tryz.func160,Tryz.ntmps160;go_wp2;go_ret;exact⟨rfl,rfl⟩
theorem growN (n:Nat) (h0:0 < n) (hn:n<=1000) (w:World):Calls Tryz.prog 160 #[.slice none 0 0,.int .i64 n] w fun e w'=>∃ v,e= .returned v/\w'.ownsRow w.heap.size 39 6 v 0 []/\Below w.heap.size w w':=by
 obtain⟨j0,O,g,A,C⟩:=zX z1Y;have a0:=I O;have a1:=I g;have a2:=I A;have a3:=I C;have N:Hid (∀ ty,(Builtin.append_ #[28,3] ty #[.slice none 0 0,.int .i64 n]).run Tryz.prog w= .ok (.slice (some ⟨w.heap.size,0,none⟩) n (grownCap w n 0 39)) (w.drew.alloc (.cells (Builtin.zeroCells (Value.agg #[.int .i64 0,.int .i64 0,.float .f64 0,.string ⟨#[]⟩,.slice none 0 0,.slice none 0 0]).cells n ++ Builtin.zeroCells (Value.agg #[.int .i64 0,.int .i64 0,.float .f64 0,.string ⟨#[]⟩,.slice none 0 0,.slice none 0 0]).cells (grownCap w n 0 39 - n)) 39))):=I fun ty=>Lib.run_append_nil_zeros w 28 3 ty 39 j0 _ .i64 .i64 Tryz.underlying28 Tryz.underlying3 O g n h0 (by rw[A];decide) (by omega) (by rw[C];omega);have K:=I (zeT w n j0 (Value.agg #[.int .i64 0,.int .i64 0,.float .f64 0,.string ⟨#[]⟩,.slice none 0 0,.slice none 0 0]) rfl hn);have G:=I (z5q w (.cells (Builtin.zeroCells (Value.agg #[.int .i64 0,.int .i64 0,.float .f64 0,.string ⟨#[]⟩,.slice none 0 0,.slice none 0 0]).cells n ++ Builtin.zeroCells (Value.agg #[.int .i64 0,.int .i64 0,.float .f64 0,.string ⟨#[]⟩,.slice none 0 0,.slice none 0 0]).cells (grownCap w n 0 39 - n)) 39));have Y:(0:Int) <(n:Int):=by omega
 have X: ¬ ((n:Int) < 0):=by omega
 clear O g A C;generalize w.drew.alloc (.cells (Builtin.zeroCells (Value.agg #[.int .i64 0,.int .i64 0,.float .f64 0,.string ⟨#[]⟩,.slice none 0 0,.slice none 0 0]).cells n ++ Builtin.zeroCells (Value.agg #[.int .i64 0,.int .i64 0,.float .f64 0,.string ⟨#[]⟩,.slice none 0 0,.slice none 0 0]).cells (grownCap w n 0 39 - n)) 39)= W at*;generalize grownCap w n 0 39= cap at*;go_enter Tryz.func160,Tryz.ntmps160;go_wp2_with (at_builtin;(refine Lib.wpList_append_run _ rfl _ _ _ _ rfl _ _ rfl rfl _ _ (N.o _) ?_));go_ret;exact⟨_,rfl,K.o,G.o⟩
theorem z5O (hb:Nat) (A B:Option Addr) (la lb ca cb:Nat) (xa xb:List Value) (w:World) (hla:xa.length= la*6) (hlb:xb.length= lb*6)
  (hca:0 < la->∃ b ob,A= some ⟨b,ob,none⟩/\b < w.heap.size/\∀ j u,xa[j]?= some u->w.cell? ⟨b,ob+j,none⟩= some u) (hcb:0 < lb->∃ b ob,B= some ⟨b,ob,none⟩/\b < w.heap.size/\∀ j u,xb[j]?= some u->w.cell? ⟨b,ob+j,none⟩= some u)
  (h1a:∀ u∈xa,u.oneCell'= true) (h1b:∀ u∈xb,u.oneCell'= true) (e0:w.cell? ⟨hb,0,none⟩= some (.slice A la ca)) (e1:w.cell? ⟨hb,1,none⟩= some (.slice B lb cb)) (hlt:hb < w.heap.size) (hn:la+lb<=1000):
  Calls Tryz.prog 128 #[.slice (some ⟨hb,0,none⟩) 2 2] w fun e w'=>∃ v,e= .returned v/\w'.ownsRow w.heap.size 39 6 v (la+lb) (xa ++ xb)/\Below w.heap.size w w':=by
 have b8:=I hla;have b9:=I hlb;have b6:=I hca;have b7:=I hcb;have b3:=I h1a;have b4:=I h1b;have a1:=I e0;have a2:=I e1;have a4:=I hlt;have O:=I hn;have HG:Hid (Calls Tryz.prog 160 #[.slice none 0 0,.int .i64 ((la:Int)+ (lb:Int))] w fun e w'=>∃ v,e= .returned v/\w'.ownsRow w.heap.size 39 6 v 0 []/\Below w.heap.size w w'):=I (by
  rcases Nat.eq_zero_or_pos (la+lb) with h0|h0
  ·have e:((la:Int)+ (lb:Int))= 0:=by omega
   rw[e];exact(grow0 w).mono fun e w' h=>⟨_,h.1,by rw[h.2];exact⟨rfl,.inl ⟨rfl,rfl⟩⟩,by rw[h.2];exact Below.refl _ _⟩
  ·have:=growN (la+lb) h0 hn w
   rwa [Int.natCast_add] at this)
 obtain⟨j0,hi,b0,b1,b2⟩:=zX z1Y;have a3:=I hi;have a5:=I b0;have a6:=I b1;have a7:=I b2;clear hla hlb hca hcb h1a h1b e0 e1 hlt hi b0 b1 b2;go_enter Tryz.func128,Tryz.ntmps128;go_upto_region 3 with (fail);go_loopg [3,11] 2 (fun q x y u=>u= w/\((q= 2/\x= .int .i64 0/\y= .int .i64 0)\/(q= 1/\x= .int .i64 la/\y= .int .i64 1)\/(q= 0/\x= .int .i64 ((la:Int)+ (lb:Int))/\y= .int .i64 2)));case atStart=>exact⟨rfl,.inl ⟨rfl,rfl,rfl⟩⟩
 case round=>
  obtain⟨rfl,hc⟩:=hrel;rcases hc with ⟨rfl,rfl,rfl⟩|⟨rfl,rfl,rfl⟩|⟨rfl,rfl,rfl⟩
  ·have d0:=a1.o
   have c5: ¬ ((la:Int) < 0):=by omega
   have d2:=O.o;go_wp2;go_roundg 1;case measure=>omega
   case rel=>exact⟨rfl,.inr (.inl ⟨rfl,by go_num,by go_num⟩)⟩
  ·have d1:=a2.o
   have c5: ¬ ((la:Int)+ (lb:Int) < 0):=by omega
   have hw:wrap64 ((la:Int)+ (lb:Int))=(la:Int)+ (lb:Int):=by have:=O.o;unfold wrap64;omega
   have c7:IntKind.i64.wrap ((la:Int)+ (lb:Int))=(la:Int)+ (lb:Int):=by have:=O.o;rw[IntKind.wrap_i64];omega
   go_wp2;go_roundg 0;case measure=>omega
   case rel=>exact⟨rfl,.inr (.inr ⟨rfl,by first|rfl|rw[hw]|rw[c7],by go_num⟩)⟩
  ·obtain⟨w0,c6⟩:∃ w0:World,w0= wr:=⟨_,rfl⟩
   subst c6;go_upto_region 10 with (go_at_call 160;refine HG.o.mono ?_;rintro e z ⟨v,rfl,g,hb⟩;have c4:=I g;have b5:=I hb;clear g hb);go_upto_region 11 with (fail);go_loopg [6,27] 2 (fun q x y u=>Below w0.heap.size w0 u/\((q= 2/\y= .int .i64 0/\u.ownsRow w0.heap.size 39 6 x 0 [])\/(q= 1/\y= .int .i64 1/\u.ownsRow w0.heap.size 39 6 x la xa)\/(q= 0/\y= .int .i64 2/\u.ownsRow w0.heap.size 39 6 x (la+lb) (xa ++ xb))));case atStart=>exact⟨b5.o,.inl ⟨rfl,rfl,c4.o⟩⟩
   case round=>
    obtain⟨a8,hc⟩:=hrel;have C:=I a8;clear a8;rcases hc with ⟨rfl,rfl,K⟩|⟨rfl,rfl,K⟩|⟨rfl,rfl,K⟩
    ·have G:=I K
     have d0:=(C.o.cell (p:=⟨hb,0,none⟩) a4.o).trans a1.o;clear K;go_wp2_with (at_builtin;(refine z7S rfl _ _ 28 rfl w0.heap.size 39 j0 _ 6 88 Tryz.underlying28 a3.o a5.o a6.o a7.o rfl (by decide) _ 0 [] rfl G.o A la ca xa rfl b8.o (fun h0=>by obtain⟨b,ob,e,Y,hc⟩:=b6.o h0;exact⟨_,e,fun j u hj=>by rw[Addr.add_mid];exact(C.o.cell (p:=⟨b,ob+j,none⟩) Y).trans (hc j u hj)⟩) b3.o (by have:=O.o;unfold maxLen;omega) (by have:=O.o;omega) C.o.size ?_;intro v' u8 g hg;have X:=I g;have N:=I (C.o.grown hg C.o.size (fun j hj=>zcO G.o hj));clear g hg));go_roundg 1;case measure=>omega
     case rel=>exact⟨N.o,.inr (.inl ⟨rfl,by go_num,by have:=X.o;rw[Nat.zero_add,List.nil_append] at this;exact this⟩)⟩
    ·have G:=I K
     have d1:=(C.o.cell (p:=⟨hb,1,none⟩) a4.o).trans a2.o;clear K;go_wp2_with (at_builtin;(refine z7S rfl _ _ 28 rfl w0.heap.size 39 j0 _ 6 88 Tryz.underlying28 a3.o a5.o a6.o a7.o rfl (by decide) _ la xa rfl G.o B lb cb xb rfl b9.o (fun h0=>by obtain⟨b,ob,e,Y,hc⟩:=b7.o h0;exact⟨_,e,fun j u hj=>by rw[Addr.add_mid];exact(C.o.cell (p:=⟨b,ob+j,none⟩) Y).trans (hc j u hj)⟩) b4.o (by have:=O.o;unfold maxLen;omega) (by have:=O.o;omega) C.o.size ?_;intro v' u8 g hg;have X:=I g;have N:=I (C.o.grown hg C.o.size (fun j hj=>zcO G.o hj));clear g hg));go_roundg 0;case measure=>omega
     case rel=>exact⟨N.o,.inr (.inr ⟨rfl,by go_num,X.o⟩)⟩
    ·have G:=I K
     clear K;go_wp2;go_ret;exact⟨_,rfl,G.o,C.o⟩
def z83 (r:Except Int Bool) (w:World) (e:Ending) (w':World):Prop:=((∃ b,r= .ok b/\e= .returned (.bool b))\/(∃ n,r= .error n/\e= panE n))/\Below w.heap.size w w'
structure TB (w W:World) (ca cb:List Value):Prop where
 wa:Whole 39 W w.heap.size ca
 wb:Whole 39 W (w.heap.size+1) cb
 bel:Below w.heap.size w W
theorem z41 (w:World) (ca cb:List Value):TB w ((w.alloc (.cells ⟨ca⟩ 39)).alloc (.cells ⟨cb⟩ 39)) ca cb:=by
 have h1:=Whole.new w ca 39;have h2:=zc w (.cells ⟨ca⟩ 39);have g:(w.alloc (.cells ⟨ca⟩ 39)).heap.size= w.heap.size+1:=by simp
 generalize w.alloc (.cells ⟨ca⟩ 39)= W1 at*;have h3:=Whole.new W1 cb 39;have h4:=zc W1 (.cells ⟨cb⟩ 39);rw[g] at h3;exact⟨h1.keep (h4.block _ (by omega)),h3,h2.trans (h4.mono (by omega))⟩
structure BB (w W:World) (ca cb:List Value):Prop where
 wa:Whole 39 W w.heap.size ca
 wb:Whole 39 W (w.heap.size+1) cb
 wr:Whole 39 W (w.heap.size+2) zV6
 bel:Below w.heap.size w W
theorem zef (w:World) (ca cb:List Value):BB w (((w.alloc (.cells ⟨ca⟩ 39)).alloc (.cells ⟨cb⟩ 39)).alloc (.cells zV6.toArray 39)) ca cb:=by
 have h1:=z41 w ca cb;have g:((w.alloc (.cells ⟨ca⟩ 39)).alloc (.cells ⟨cb⟩ 39)).heap.size= w.heap.size+2:=by simp
 generalize (w.alloc (.cells ⟨ca⟩ 39)).alloc (.cells ⟨cb⟩ 39)= W1 at*;have h3:=Whole.new W1 zV6 39;have h4:=zc W1 (.cells zV6.toArray 39);rw[g] at h3;exact⟨h1.wa.keep (h4.block _ (by omega)),h1.wb.keep (h4.block _ (by omega)),h3,h1.bel.trans (h4.mono (by omega))⟩
theorem BB.next {w W W':World} {ca cb:List Value} (h:BB w W ca cb) (hb:Below W.heap.size W W'):BB w W' ca cb:=
 ⟨h.wa.keep (hb.block _ h.wa.lt),h.wb.keep (hb.block _ h.wb.lt),h.wr.keep (hb.block _ h.wr.lt),(beT h.bel hb)⟩
theorem BB.fin {w W Z:World} {ca cb:List Value} (h:BB w W ca cb) (hx:But W Z (w.heap.size+2) (w.heap.size+2)):Below w.heap.size w Z:=h.bel.trans (hx.below (B:=w.heap.size) h.bel.size (by omega) (by omega))
theorem zgU (na nb:Int) (fa fb:Nat) (sa sb:ByteArray) (nsa nsb:List ByteArray) (ia ib:List VT) (ca cb:List Value) (w:World) (eq:Bool) (hv:ValAt w w.heap.size ca (.mk 3 na fa sa nsa ia)) (hv2:ValAt w w.heap.size cb (.mk 3 nb fb sb nsb ib)):
  Calls Tryz.prog 125 #[.bool eq,.agg ⟨ca⟩,.agg ⟨cb⟩] w fun e w'=>e= .returned (.bool (fLess fa fb ||(eq && fEql fa fb)))/\Below w.heap.size w w':=by
 have HL:=I (zce fa fb);have HQ:=I (zaN fa fb);generalize fLess fa fb= x at*;generalize fEql fa fb= y at*;have HV:=I hv;have b8:=I hv2;obtain⟨c7,via,rfl,a9,b4,a6,b5,b3,a8,hi⟩:=ValAt.inv hv;obtain⟨b2,C,a4,rfl,b0⟩:=b3;obtain⟨N,A,c,rfl,hA⟩:=hi;obtain⟨c8,c6,rfl,Y,a2,K,a3,a1,O,a7⟩:=ValAt.inv hv2;obtain⟨a0,G,a5,rfl,b1⟩:=a1;obtain⟨X,B,c2,rfl,hB⟩:=a7;clear a9 b4 a6 b5 b2 b0 a8 N hA Y a2 K a3 a0 b1 O X hB hv hv2;go_enter Tryz.func125,Tryz.ntmps125;go_upto_region 1 with (fail);have g:=I (z41 w [.int .i64 3,.int .i64 na,.float .f64 fa,.string sa,.slice C nsa.length a4,.slice A ia.length c] [.int .i64 3,.int .i64 nb,.float .f64 fb,.string sb,.slice G nsb.length a5,.slice B ib.length c2]);generalize (w.alloc (.cells ⟨[.int .i64 3,.int .i64 na,.float .f64 fa,.string sa,.slice C nsa.length a4,.slice A ia.length c]⟩ 39)).alloc (.cells ⟨[.int .i64 3,.int .i64 nb,.float .f64 fb,.string sb,.slice G nsb.length a5,.slice B ib.length c2]⟩ 39)= W at*;have d0:W.cell? ⟨w.heap.size,0,none⟩= some (.int .i64 3):=g.o.wa.cells 0 rfl;have d2:W.cell? ⟨w.heap.size,2,none⟩= some (.float .f64 fa):=g.o.wa.cells 2 rfl;have d5:W.cell? ⟨w.heap.size+1,2,none⟩= some (.float .f64 fb):=g.o.wb.cells 2 rfl;cases x<;>cases eq<;>(
  go_wp2_with (first|(go_at_call 153;refine ze (HL.o _) ?_)|(go_at_call 149;refine ze (HQ.o _) ?_));go_ret;exact⟨rfl,g.o.bel⟩)
theorem zcu (na nb:Int) (fa fb:Nat) (sa sb:ByteArray) (nsa nsb:List ByteArray) (ia ib:List VT) (ca cb:List Value) (w:World) (r:Int) (eq:Bool) (k:Int) (hk:k= 2\/k= 4) (hv:ValAt w w.heap.size ca (.mk k na fa sa nsa ia)) (hv2:ValAt w w.heap.size cb (.mk k nb fb sb nsb ib)) (hord:ordV (.mk k na fa sa nsa ia) (.mk k nb fb sb nsb ib)= r):
  Calls Tryz.prog 125 #[.bool eq,.agg ⟨ca⟩,.agg ⟨cb⟩] w fun e w'=>e= .returned (.bool (decide (r < 0) ||(eq && (r ==0))))/\Below w.heap.size w w':=by
 have C:=I hord;clear hord;have HV:=I hv;have a9:=I hv2;obtain⟨c9,via,rfl,b3,b8,b0,b9,b7,b2,hi⟩:=ValAt.inv hv;obtain⟨b6,K,a6,rfl,b4⟩:=b7;obtain⟨X,A,c,rfl,hA⟩:=hi;obtain⟨d1,c8,rfl,a1,a4,O,a5,a3,Y,b1⟩:=ValAt.inv hv2;obtain⟨a2,N,a7,rfl,b5⟩:=a3;obtain⟨a0,B,c2,rfl,hB⟩:=b1;clear b3 b8 b0 b9 b6 b4 b2 X hA a1 a4 O a5 a2 b5 Y a0 hB hv hv2;go_enter Tryz.func125,Tryz.ntmps125;go_upto_region 1 with (fail);have g:=I (z41 w [.int .i64 k,.int .i64 na,.float .f64 fa,.string sa,.slice K nsa.length a6,.slice A ia.length c] [.int .i64 k,.int .i64 nb,.float .f64 fb,.string sb,.slice N nsb.length a7,.slice B ib.length c2]);generalize (w.alloc (.cells ⟨[.int .i64 k,.int .i64 na,.float .f64 fa,.string sa,.slice K nsa.length a6,.slice A ia.length c]⟩ 39)).alloc (.cells ⟨[.int .i64 k,.int .i64 nb,.float .f64 fb,.string sb,.slice N nsb.length a7,.slice B ib.length c2]⟩ 39)= W at*;rcases hk with rfl|rfl<;>cases eq<;>cases hb:decide (r < 0)<;>(
  have d0:W.cell? ⟨w.heap.size,0,none⟩= some (.int .i64 _):=g.o.wa.cells 0 rfl;have G:=I (ze2 _ _ _ _ W ((HV.o.under g.o.bel).more g.o.bel.size) ((a9.o.under g.o.bel).more g.o.bel.size));rw[C.o] at G;go_upto_region 7 with (first|((with_reducible refine za tyK39 _ rfl ?_ g.o.wa.range rfl ?_ ?_);exact wA rfl;rfl)|((with_reducible refine za tyK39 _ rfl ?_ g.o.wb.range rfl ?_ ?_);exact wA rfl;rfl)|(go_at_call 154;refine zg G.o ?_;intro z a8));go_wp2;go_ret;exact⟨by first|rfl|(rw[hb];rfl)|(simp[hb];done),(beT g.o.bel a8.o)⟩)
theorem zgV (eq:Bool) (ka kb:Int) (na nb:Int) (fa fb:Nat) (sa sb:ByteArray) (nsa nsb:List ByteArray) (ia ib:List VT) (ca cb:List Value) (w:World) (h2:(ka ==2)= false) (h3:(ka ==3)= false) (h4:(ka ==4)= false) (hv:ValAt w w.heap.size ca (.mk ka na fa sa nsa ia)) (hv2:ValAt w w.heap.size cb (.mk kb nb fb sb nsb ib)):
  Calls Tryz.prog 125 #[.bool eq,.agg ⟨ca⟩,.agg ⟨cb⟩] w fun e w'=>e= panE 6/\Below w.heap.size w w':=by
 have HV:=I hv;have b6:=I hv2;obtain⟨c5,via,rfl,a9,b4,a6,b5,b3,a8,hi⟩:=ValAt.inv hv;obtain⟨b2,C,a4,rfl,b0⟩:=b3;obtain⟨N,A,c,rfl,hA⟩:=hi;obtain⟨c6,c4,rfl,Y,a2,K,a3,a1,O,a7⟩:=ValAt.inv hv2;obtain⟨a0,G,a5,rfl,b1⟩:=a1;obtain⟨X,B,c2,rfl,hB⟩:=a7;clear a9 b4 a6 b5 b2 b0 a8 N hA Y a2 K a3 a0 b1 O X hB hv hv2;go_enter Tryz.func125,Tryz.ntmps125;go_upto_region 1 with (fail);have g:=I (z41 w [.int .i64 ka,.int .i64 na,.float .f64 fa,.string sa,.slice C nsa.length a4,.slice A ia.length c] [.int .i64 kb,.int .i64 nb,.float .f64 fb,.string sb,.slice G nsb.length a5,.slice B ib.length c2]);generalize (w.alloc (.cells ⟨[.int .i64 ka,.int .i64 na,.float .f64 fa,.string sa,.slice C nsa.length a4,.slice A ia.length c]⟩ 39)).alloc (.cells ⟨[.int .i64 kb,.int .i64 nb,.float .f64 fb,.string sb,.slice G nsb.length a5,.slice B ib.length c2]⟩ 39)= W at*;have d0:W.cell? ⟨w.heap.size,0,none⟩= some (.int .i64 ka):=g.o.wa.cells 0 rfl;go_wp2;exact⟨rfl,rfl,g.o.bel⟩
theorem z8G (eq:Bool) (k:Int) (na nb:Int) (fa fb:Nat) (sa sb:ByteArray) (nsa nsb:List ByteArray) (ia ib:List VT) (ca cb:List Value) (w:World) (hv:ValAt w w.heap.size ca (.mk k na fa sa nsa ia)) (hv2:ValAt w w.heap.size cb (.mk k nb fb sb nsb ib)):
  Calls Tryz.prog 125 #[.bool eq,.agg ⟨ca⟩,.agg ⟨cb⟩] w (z83 (lessZ eq (.mk k na fa sa nsa ia) (.mk k nb fb sb nsb ib)) w):=by
 unfold lessZ;dsimp only;by_cases k3:k= 3
 ·subst k3
  rw[if_pos rfl];exact(zgU na nb fa fb sa sb nsa nsb ia ib ca cb w eq hv hv2).mono fun e w' h=>⟨.inl ⟨_,rfl,h.1⟩,h.2⟩
 rw[if_neg k3];by_cases k2:k= 2
 ·subst k2
  rw[if_pos (Or.inl rfl)];exact(zcu na nb fa fb sa sb nsa nsb ia ib ca cb w _ eq 2 (.inl rfl) hv hv2 rfl).mono fun e w' h=>⟨.inl ⟨_,rfl,h.1⟩,h.2⟩
 by_cases k4:k= 4
 ·subst k4
  rw[if_pos (Or.inr rfl)];exact(zcu na nb fa fb sa sb nsa nsb ia ib ca cb w _ eq 4 (.inr rfl) hv hv2 rfl).mono fun e w' h=>⟨.inl ⟨_,rfl,h.1⟩,h.2⟩
 rw[if_neg (by omega)];exact(zgV eq k k na nb fa fb sa sb nsa nsb ia ib ca cb w (by simpa using k2) (by simpa using k3) (by simpa using k4) hv hv2).mono fun e w' h=>⟨.inr ⟨_,rfl,h.1⟩,h.2⟩
end
section
open Go Go.RowKit
theorem z3e (P:Nat->Prop) (v:VT) (cs:List Value) (w:World) (hv:Kept P w cs v):Calls Tryz.prog 74 #[.agg ⟨cs⟩] w (UnPost P (szd v) w):=by
 have HV:=I hv;have C:=I (zm hv.val).1;have N:=I (zm hv.val).2;have a1:=I hv.val;clear hv;go_enter Tryz.func74,Tryz.ntmps74;go_upto_region 1 with (fail);have g:=I (z9e w cs);rw[z0A];generalize (w.alloc (.cells ⟨cs⟩ 39)).alloc (.cells zV6.toArray 39)= W at*;have O:=I (z1T v cs W ((a1.o.under g.o.bel).more g.o.bel.size));obtain⟨b,hb⟩:∃ b,(decide (cntV v 0<=200) && zr v 1)= b:=⟨_,rfl⟩;have HB:Hid (zB v= b):=I hb;rw[hb] at O;clear hb;cases b with
 |true=>
  have G:Hid (szd v= .ok v):=I (by unfold szd;rw[if_pos HB.o]);go_upto_region 2 with (first|((with_reducible refine za tyK39 _ rfl ?_ g.o.wa.range rfl C.o ?_);exact wA rfl)|(go_at_call 35;refine zg O.o ?_;intro z A)|(go_at_call 34;refine ze (zt 3 _) ?_));have X:=I (g.o.wa.keep (A.o.block _ g.o.wa.lt));have a0:=I (g.o.wb.keep (A.o.block _ g.o.wb.lt));have Y:=I X.o.range;go_wp2_with (first|((with_reducible refine za tyK39 _ rfl ?_ Y.o rfl C.o ?_);exact wA rfl)|((with_reducible refine zi 39 _ _ rfl rfl ?_ a0.o (cs) ?_ ?_ ?_ ?_ ?_ ?_);exact wA rfl;rw[C.o];rfl;rfl;rfl;rw[C.o];kernel_rfl;exact N.o;intro Z2 HX a2))
  (try simp only[Exit.inBlock,Exit.then])
  refine bodyPost_ret (zk rfl Tryz.underlying39 rfl _ _ (w.heap.size+1) (cs) (by rw[C.o];kernel_rfl) rfl HX.o.range) rfl ?_;have K:=(beT g.o.bel A.o).trans (a2.o.below (B:=w.heap.size) (Nat.le_trans g.o.bel.size A.o.size) (by omega) (by omega));exact .ok G.o rfl (HV.o.grow K) K
 |false=>
  have G:Hid (szd v= .error 3):=I (by unfold szd;rw[if_neg (by rw[HB.o];decide)]);go_wp2_with (first|((with_reducible refine za tyK39 _ rfl ?_ g.o.wa.range rfl C.o ?_);exact wA rfl)|(go_at_call 35;refine zg O.o ?_;intro z A)|(go_at_call 34;refine ze (zJ 3 _) ?_));exact⟨rfl,.no G.o rfl (beT g.o.bel A.o)⟩
theorem z4r:∀ (KL:List zT) (j:Nat) (u:Value),(flat enc6 KL)[j]?= some u->∃ i k r,KL[i]?= some k/\j= i*6+r/\(enc6 k)[r]?= some u
 |[],j,u,h=>by simp[flat] at h
 |k::KL,j,u,h=>by
  have h1:flat enc6 (k::KL)= enc6 k ++ flat enc6 KL:=rfl
  rw[h1] at h
  by_cases hj:j < 6
  ·rw[List.getElem?_append_left (by rw[z0D];exact hj)] at h
   exact⟨0,k,j,rfl,by omega,h⟩
  ·rw[List.getElem?_append_right (by rw[z0D];omega),z0D] at h
   obtain⟨i,k',r,h2,h3,h4⟩:=z4r KL (j - 6) u h
   exact⟨i+1,k',r,by simpa using h2,by omega,h4⟩
theorem z4q:∀ (K L:List zT),flat enc6 (K ++ L)= flat enc6 K ++ flat enc6 L
 |[],L=>rfl
 |k::K,L=>by
  show enc6 k ++ flat enc6 (K ++ L)=(enc6 k ++ flat enc6 K) ++ flat enc6 L
  rw[z4q K L,List.append_assoc]
theorem z2l:∀ (K:List zT),(flat enc6 K).length= K.length*6
 |[]=>rfl
 |k::K=>by
  show(enc6 k ++ flat enc6 K).length= _
  rw[List.length_append,z0D,z2l K,List.length_cons];omega
theorem z2e {P:Nat->Prop} {w:World} {v:Value} {its:List VT} (h:SlAt (only w P) w.heap.size 6 (ValAt (only w P) w.heap.size) v its):∃ A c,v= .slice A its.length c/\∃ KL:List zT,KL.length= its.length/\
  (∀ (j:Nat) (k:zT) (x:VT),KL[j]?= some k->its[j]?= some x->Kept P w k.1 x)/\(0 < its.length->∃ b ob,A= some ⟨b,ob,none⟩/\b < w.heap.size/\∀ j u,(flat enc6 KL)[j]?= some u->w.cell? ⟨b,ob+j,none⟩= some u)/\(∀ u∈flat enc6 KL,u.oneCell'= true):=by
 obtain⟨_,A,c,rfl,N⟩:=h;refine⟨A,c,rfl,?_⟩;rcases Nat.eq_zero_or_pos its.length with h0|h0
 ·exact⟨[],by simp[h0],fun j k x hk=>by simp at hk,fun h1=>by omega,fun u hu=>by simp[flat] at hu⟩
 ·obtain⟨b,o,rfl,O,X⟩:=N h0
  have G:∀ i:Nat,∃ k:zT,∀ x,its[i]?= some x->(only w P).rangeAt b (o+i*6) k.1/\ValAt (only w P) w.heap.size k.1 x:=fun i=>by
   cases hx:its[i]? with
   |none=>exact⟨⟨[undef,undef,undef,undef,undef,undef],rfl⟩,fun x h=>by cases h⟩
   |some x=>
    obtain⟨ks,hl,hr,hv⟩:=X i x hx;exact⟨⟨ks,hl⟩,fun y hy=>by injection hy with hy;subst hy;exact⟨hr,hv⟩⟩
  obtain⟨f,K⟩:=Classical.skolem.1 G;have g:∀ (j:Nat) (k:zT),((List.range its.length).map f)[j]?= some k->j < its.length/\k= f j:=fun j k hk=>by
   rw[List.getElem?_map,Option.map_eq_some_iff] at hk;obtain⟨i,C,rfl⟩:=hk;obtain⟨h1,h2⟩:=List.getElem?_eq_some_iff.1 C;simp at h1 h2;subst h2;exact⟨h1,rfl⟩
  refine⟨(List.range its.length).map f,by simp,fun j k x hk hx=> ?_,fun _=>⟨b,o,rfl,O,fun j u hu=> ?_⟩,fun u hu=> ?_⟩
  ·obtain⟨_,rfl⟩:=g j k hk
   exact(K j x hx).2
  ·obtain⟨i,k,r,h1,rfl,h3⟩:=z4r _ j u hu
   obtain⟨C,rfl⟩:=g i k h1;have:=(K i its[i] (List.getElem?_eq_getElem C)).1 r u h3;rw[show o+i*6+r= o+ (i*6+r) by omega] at this;exact(zx.1 this).2
  ·obtain⟨j,Y⟩:=List.mem_iff_getElem?.1 hu
   obtain⟨i,k,r,h1,rfl,h3⟩:=z4r _ j u Y;obtain⟨C,rfl⟩:=g i k h1;exact ValAt.one (K i its[i] (List.getElem?_eq_getElem C)).2 u (List.mem_of_getElem? h3)
theorem z93 {Q:Nat->Prop} {w':World} {base:Nat} {v:Value} {KL:List zT} {its:List VT} (ho:OwnSl 39 6 enc6 w' base v KL) (hl:KL.length= its.length) (hm:its.length<=9223372036854775807) (hQ:∀ b,base<=b->Q b)
  (he:∀ (j:Nat) (k:zT) (x:VT),KL[j]?= some k->its[j]?= some x->Kept Q w' k.1 x):SlAt (only w' Q) w'.heap.size 6 (ValAt (only w' Q) w'.heap.size) v its:=by
 refine⟨hm,?_⟩;rcases ho.2 with ⟨rfl,h0⟩|⟨g,G,O,N,X,_,_⟩
 ·exact⟨none,0,by rw[← hl,h0],fun h1=>by omega⟩
 ·refine⟨some ⟨g,0,none⟩,G,by rw[N,hl],fun _=> ?_⟩
  have A:v.ownBlock= some g:=by rw[N];rfl
  refine⟨g,0,rfl,z0y ho A,fun i x hx=> ?_⟩;have K:=(List.getElem?_eq_some_iff.1 hx).1;have C:KL[i]?= some (KL[i]'(by rw[hl];exact K)):=List.getElem?_eq_getElem _;refine⟨_,(KL[i]'(by rw[hl];exact K)).2,fun j c hc=> ?_,he i _ x C hx⟩;refine zx.2 ⟨hQ g X,?_⟩;have:=World.ownsRow.cells ho A (i*6+j) c (z0Z z0D KL i _ C j c hc);rw[Addr.add_mid] at this;rw[show 0+i*6+j= 0+ (i*6+j) by omega];exact this
theorem z56 {n:Int}:wfI n↔(-9223372036854775808<=n/\n<=9223372036854775807):=by
 refine⟨fun h=> ?_,z0k⟩;unfold wfI Lit.wf at h;simp only[Bool.and_eq_true,decide_eq_true_eq] at h;exact h
theorem z6c {m n:Int} (h:okI m= .ok n): -9223372036854775808<=n/\n<=9223372036854775807:=by
 unfold okI at h;split at h
 ·injection h with h;subst h;assumption
 ·cases h
theorem ze5 {k a b n:Int} (ha: -9223372036854775808<=a/\a<=9223372036854775807) (h:z1D k a b= .ok n): -9223372036854775808<=n/\n<=9223372036854775807:=by
 unfold z1D at h;split at h
 ·exact z6c h
 split at h
 ·exact z6c h
 split at h
 ·exact z6c h
 split at h
 ·cases h
 split at h
 ·injection h with h;subst h;exact zay ha
 ·exact z6c h
theorem z5Z (op:BinOp) (a b:Nat):(Lit.float .f64 (fopV op a b)).wf= true:=by
 unfold fopV;split
 ·exact z49 (floatBits_wf (by assumption))
 ·decide
theorem zaO {k:Int} {a b n:Nat} (h:z1a k a b= .ok n):zu n= n/\(Lit.float .f64 n).wf= true:=by
 unfold z1a at h;split at h
 ·injection h with h;subst h;exact⟨z36 _ _ _,z5Z _ _ _⟩
 split at h
 ·injection h with h;subst h;exact⟨z36 _ _ _,z5Z _ _ _⟩
 split at h
 ·injection h with h;subst h;exact⟨z36 _ _ _,z5Z _ _ _⟩
 split at h
 ·injection h with h;subst h;exact⟨z36 _ _ _,z5Z _ _ _⟩
 ·cases h
theorem z8y:(Tryz.prog.info? 28).map (fun i=>(i.zero,i.size,i.bytes))= some (some (.slice none 0 0),1,24):=by kernel_rfl
theorem z9R {P:Program} (w:World) (t e:TypeId) (i:TypeInfo) (z:Value) (A B:Option Addr) (n m c d:Nat) (ht:P.underlying t= some (.slice e)) (hi:P.info? e= some i) (hz:i.zero= some z) (hzc:z.cells.size= 1) (hsz:i.size= 1):
  (Instr.buildSlice t 2 #[(0,.slice A n c),(1,.slice B m d)]).run P w= .ok (.slice (some ⟨w.heap.size,0,none⟩) 2 2) (w.alloc (.cells #[.slice A n c,.slice B m d] e)):=by
 have G:(sizeOf e).run P w= .ok 1 w:=by simp[sizeOf,typeInfo,hi,hsz]
 have g:(zeroValue e).run P w= .ok z w:=by simp[zeroValue,typeInfo,hi,hz]
 have C:∀ cells:Array Value,cells.size= 2*1->Instr.fill (fun i=>some (i*1,1)) cells [(0,.slice A n c),(1,.slice B m d)]= some #[.slice A n c,.slice B m d]:=fun cells hc=>zeM 1 [.slice A n c] [.slice B m d] cells rfl rfl hc;unfold Instr.buildSlice;simp only[Sem.run_bind,run_underlying ht,Result.andThen_ok,G];rw[if_neg (by omega),if_neg (by omega)];simp only[Sem.run_bind,Sem.run_pure,Result.andThen_ok,g];rw[C _ (by simp)];simp[newRow]
theorem z4k {P:Program} {o:Oper} {a:Act} {w:World} (t:TypeId) (x y:Operand) (ho:o.op= .buildSlice t 2 #[(0,x),(1,y)]) (e:TypeId) (i:TypeInfo) (z:Value) (A B:Option Addr) (n m c d:Nat) (hx:a.eval x= .slice A n c) (hy:a.eval y= .slice B m d)
  (ht:P.underlying t= some (.slice e)) (hi:P.info? e= some i) (hz:i.zero= some z) (hzc:z.cells.size= 1) (hsz:i.size= 1):
  (execOp a.eval o).run P w= .ok (.value (.slice (some ⟨w.heap.size,0,none⟩) 2 2)) (w.alloc (.cells #[.slice A n c,.slice B m d] e)):=by
 unfold execOp;have hr:=z9R (P:=P) w t e i z A B n m c d ht hi hz hzc hsz;simp only[ho,List.map_toArray,List.map_cons,List.map_nil,hx,hy,Sem.run_bind,Sem.run_pure,Result.andThen_ok,hr]
theorem zaC (P:Nat->Prop) (k:Int) (a b:VT) (ca cb:List Value) (w:World) (hv:Kept P w ca a) (hv2:Kept P w cb b) (hra:zB a= true) (hrb:zB b= true):
  Calls Tryz.prog 77 #[.int .i64 k,.agg ⟨ca⟩,.agg ⟨cb⟩] w (UnPost P (binV k a b) w):=by
 cases a with
 |mk ka na fa sa nsa ia=>
 cases b with
 |mk kb nb fb sb nsb ib=>
 obtain⟨r,C⟩:∃ r,binV k (.mk ka na fa sa nsa ia) (.mk kb nb fb sb nsb ib)= r:=⟨_,rfl⟩;rw[C];rw[binV] at C;have HV:=I hv;have n8:=I hv2;have i3:=I hv.val;have d7:=I hv2.val;have b7:=I hra;have b8:=I hrb;have n4:=I (zm hv.val).2;have n6:=I (zm hv2.val).2;obtain⟨o5,via,rfl,m0,l1,j6,n0,m8,l9,hi⟩:=ValAt.inv hv;obtain⟨m7,g2,g5,rfl,m4⟩:=m8;have j8:=hi;obtain⟨k0,A,c,rfl,hA⟩:=hi;obtain⟨o6,o4,rfl,k8,h7,g8,l2,l0,k1,j9⟩:=ValAt.inv hv2;obtain⟨k9,g3,g6,rfl,m6⟩:=l0;have h6:=j9;obtain⟨k2,B,c2,rfl,hB⟩:=j9;have i5:=I (And.intro l1 (And.intro j6 (And.intro h7 g8)));have h9:=I j8;have g7:=I h6;clear m0 l1 j6 n0 m7 m4 l9 k0 hA k8 h7 g8 l2 k9 m6 k1 k2 hB hv hv2 hra hrb j8 h6;go_enter Tryz.func77,Tryz.ntmps77;go_upto_region 1 with (fail);have g:=I (zef w [.int .i64 ka,.int .i64 na,.float .f64 fa,.string sa,.slice g2 nsa.length g5,.slice A ia.length c] [.int .i64 kb,.int .i64 nb,.float .f64 fb,.string sb,.slice g3 nsb.length g6,.slice B ib.length c2]);rw[z0A];generalize ((w.alloc (.cells ⟨[.int .i64 ka,.int .i64 na,.float .f64 fa,.string sa,.slice g2 nsa.length g5,.slice A ia.length c]⟩ 39)).alloc (.cells ⟨[.int .i64 kb,.int .i64 nb,.float .f64 fb,.string sb,.slice g3 nsb.length g6,.slice B ib.length c2]⟩ 39)).alloc (.cells zV6.toArray 39)= W at*;by_cases k19:k= 19
 ·subst k19
  rw[if_pos rfl] at C;by_cases h5:ka= 5
  ·subst h5
   by_cases h2:kb= 2
   ·subst h2
    rw[if_pos ⟨rfl,rfl⟩] at C;by_cases hn:0<=nb/\nb <(ia.length:Int)
    ·rw[if_pos hn] at C
     obtain⟨j,k3⟩:∃ j,nb.toNat= j:=⟨_,rfl⟩;have hj:j < ia.length:=by omega
     have j7:ia.getD j v0= ia[j]:=by simp[List.getD,List.getElem?_eq_getElem hj]
     rw[k3,j7] at C;have j1:Hid (nb=(j:Int)):=(I (by omega));clear hn k3 j7;have G:Hid (r= .ok ia[j]):=I C.symm;clear C;have d0:W.cell? ⟨w.heap.size,0,none⟩= some (.int .i64 5):=g.o.wa.cells 0 rfl;have c0:W.cell? ⟨w.heap.size+1,0,none⟩= some (.int .i64 2):=g.o.wb.cells 0 rfl;have j1:=j1.o;subst j1;have n1:W.cell? ⟨w.heap.size+1,1,none⟩= some (.int .i64 (j:Int)):=g.o.wb.cells 1 rfl;have n5:W.cell? ⟨w.heap.size,5,none⟩= some (.slice A ia.length c):=g.o.wa.cells 5 rfl;have o3:(j:Int) <(ia.length:Int):=by omega
     have o2:(0:Int)<=(j:Int):=by omega
     obtain⟨-,A2,c3,j5,hA⟩:=h9.o;simp only[Value.slice.injEq] at j5;obtain⟨rfl, -,rfl⟩:=j5;obtain⟨b,ob,rfl,j4,hc⟩:=hA (by omega);obtain⟨ks,k4,k6,k7⟩:=hc j _ (List.getElem?_eq_getElem hj);have b5:Hid (Kept P w ks ia[j]):=I k7;have g0:=I k4;have l7:Hid (W.rangeAt b (ob+j*6) ks):=I (zb (z0t k6 fun a v h=>(zx.1 h).2) g.o.bel j4);have d6:=I (zm b5.o.val).2;have l8:=I g.o.wr;clear hc k4 k6 k7 hA j4;go_wp2_with (first|(go_at_call 34;refine ze (zt 6 _) ?_)|(go_at_call 34;refine ze (zt 9 _) ?_)|((with_reducible refine za tyK39 _ rfl ?_ l7.o rfl g0.o ?_);exact wA rfl)|((with_reducible refine zi 39 _ _ rfl rfl ?_ l8.o (ks) ?_ ?_ ?_ ?_ ?_ ?_);exact wA rfl;rw[g0.o];rfl;rfl;rfl;rw[g0.o];kernel_rfl;exact d6.o;intro Z2 HX Y))
     (try simp only[Exit.inBlock,Exit.then])
     refine bodyPost_ret (zk rfl Tryz.underlying39 rfl _ _ (w.heap.size+2) (ks) (by rw[g0.o];kernel_rfl) rfl HX.o.range) rfl ?_;have X:=BB.fin g.o Y.o;exact .ok G.o rfl (b5.o.grow X) X
    ·rw[if_neg hn] at C
     by_cases h0:0<=nb
     ·have h1:decide (0<=nb)= true:=(decide_eq_true h0)
      have h2:decide (nb <(ia.length:Int))= false:=(decide_eq_false (by omega));have G:Hid (r= .error 9):=I C.symm;clear C;have d0:W.cell? ⟨w.heap.size,0,none⟩= some (.int .i64 5):=g.o.wa.cells 0 rfl;have c0:W.cell? ⟨w.heap.size+1,0,none⟩= some (.int .i64 2):=g.o.wb.cells 0 rfl;have n1:W.cell? ⟨w.heap.size+1,1,none⟩= some (.int .i64 nb):=g.o.wb.cells 1 rfl;have n5:W.cell? ⟨w.heap.size,5,none⟩= some (.slice A ia.length c):=g.o.wa.cells 5 rfl;go_wp2_with (first|(go_at_call 34;refine ze (zt 6 _) ?_)|(go_at_call 34;refine ze (zJ 9 _) ?_));exact⟨rfl,.no G.o rfl g.o.bel⟩
     ·have h1:decide (0<=nb)= false:=(decide_eq_false h0)
      have G:Hid (r= .error 9):=I C.symm;clear C;have d0:W.cell? ⟨w.heap.size,0,none⟩= some (.int .i64 5):=g.o.wa.cells 0 rfl;have c0:W.cell? ⟨w.heap.size+1,0,none⟩= some (.int .i64 2):=g.o.wb.cells 0 rfl;have n1:W.cell? ⟨w.heap.size+1,1,none⟩= some (.int .i64 nb):=g.o.wb.cells 1 rfl;have n5:W.cell? ⟨w.heap.size,5,none⟩= some (.slice A ia.length c):=g.o.wa.cells 5 rfl;go_wp2_with (first|(go_at_call 34;refine ze (zt 6 _) ?_)|(go_at_call 34;refine ze (zJ 9 _) ?_));exact⟨rfl,.no G.o rfl g.o.bel⟩
   ·rw[if_neg (by simp[h2])] at C
    have h1:(kb ==2)= false:=(by simpa using h2);have G:Hid (r= .error 6):=I C.symm;clear C;have d0:W.cell? ⟨w.heap.size,0,none⟩= some (.int .i64 5):=g.o.wa.cells 0 rfl;have c0:W.cell? ⟨w.heap.size+1,0,none⟩= some (.int .i64 kb):=g.o.wb.cells 0 rfl;go_wp2_with ((go_at_call 34;refine ze (zJ 6 _) ?_));exact⟨rfl,.no G.o rfl g.o.bel⟩
  ·rw[if_neg (by simp[h5])] at C
   have h1:(ka ==5)= false:=(by simpa using h5);have G:Hid (r= .error 6):=I C.symm;clear C;have d0:W.cell? ⟨w.heap.size,0,none⟩= some (.int .i64 ka):=g.o.wa.cells 0 rfl;have c0:W.cell? ⟨w.heap.size+1,0,none⟩= some (.int .i64 kb):=g.o.wb.cells 0 rfl;go_wp2_with ((go_at_call 34;refine ze (zJ 6 _) ?_));exact⟨rfl,.no G.o rfl g.o.bel⟩
 rw[if_neg k19] at C;have e19:(k ==19)= false:=by simpa using k19
 by_cases hkk:ka= kb
 ·subst hkk
  rw[if_neg (by simp)] at C;by_cases k10:k= 10
  ·subst k10
   rw[if_pos rfl] at C;have G:Hid (r= .ok (vB (eqV (.mk ka na fa sa nsa ia) (.mk ka nb fb sb nsb ib)))):=I C.symm;clear C;have d0:W.cell? ⟨w.heap.size,0,none⟩= some (.int .i64 ka):=g.o.wa.cells 0 rfl;have c0:W.cell? ⟨w.heap.size+1,0,none⟩= some (.int .i64 ka):=g.o.wb.cells 0 rfl;have d1:=I (zhh _ _ _ _ W ((i3.o.under g.o.bel).more g.o.bel.size) ((d7.o.under g.o.bel).more g.o.bel.size));obtain⟨x,hx⟩:∃ x,eqV (.mk ka na fa sa nsa ia) (.mk ka nb fb sb nsb ib)= x:=⟨_,rfl⟩;rw[hx] at d1 G;clear hx;go_wp2_with (first|(go_at_call 34;refine ze (zt 6 _) ?_)|((with_reducible refine za tyK39 _ rfl ?_ g.o.wa.range rfl ?_ ?_);exact wA rfl;rfl)|((with_reducible refine za tyK39 _ rfl ?_ g.o.wb.range rfl ?_ ?_);exact wA rfl;rfl)|(go_at_call 124;refine d1.o.mono ?_;rintro e z ⟨rfl,N⟩;have a1:=I (g.o.next N);clear N)|(go_at_call 73;refine(z1n x _).mono ?_;rintro e z ⟨rfl,N⟩;have O:=I (BB.next a1.o N);have a4:=I O.o.wr;clear N)|((with_reducible refine zi 39 _ _ rfl rfl ?_ a4.o (tC x) ?_ ?_ ?_ ?_ ?_ ?_);exact wA rfl;rfl;rfl;rfl;kernel_rfl;exact z2v x;intro Z2 HX Y))
   (try simp only[Exit.inBlock,Exit.then])
   refine bodyPost_ret (zk rfl Tryz.underlying39 rfl _ _ (w.heap.size+2) (tC x) (by kernel_rfl) rfl HX.o.range) rfl ?_;have X:=BB.fin O.o Y.o;exact .ok G.o rfl (z1Q _ _ x) X
  rw[if_neg k10] at C;by_cases k11:k= 11
  ·subst k11
   rw[if_pos (Or.inl rfl)] at C;have G:Hid (r=(lessZ false (.mk ka na fa sa nsa ia) (.mk ka nb fb sb nsb ib)).map vB):=I C.symm;clear C;have d0:W.cell? ⟨w.heap.size,0,none⟩= some (.int .i64 ka):=g.o.wa.cells 0 rfl;have c0:W.cell? ⟨w.heap.size+1,0,none⟩= some (.int .i64 ka):=g.o.wb.cells 0 rfl;have d1:=I (z8G false ka na nb fa fb sa sb nsa nsb ia ib _ _ W ((i3.o.under g.o.bel).more g.o.bel.size) ((d7.o.under g.o.bel).more g.o.bel.size));generalize lessZ false (.mk ka na fa sa nsa ia) (.mk ka nb fb sb nsb ib)= res at*;go_wp2_with (first|(go_at_call 34;refine ze (zt 6 _) ?_)|((with_reducible refine za tyK39 _ rfl ?_ g.o.wa.range rfl ?_ ?_);exact wA rfl;rfl)|((with_reducible refine za tyK39 _ rfl ?_ g.o.wb.range rfl ?_ ?_);exact wA rfl;rfl)|(go_at_call 125;fail));refine d1.o.mono ?_;rintro e z ⟨⟨x,rfl,rfl⟩|⟨n,rfl,rfl⟩,N⟩
   ·have a1:=I (g.o.next N)
    have K:Hid (r= .ok (vB x)):=I G.o;clear N;go_wp2_with (first|(go_at_call 73;refine(z1n x _).mono ?_;rintro e z ⟨rfl,N⟩;have O:=I (BB.next a1.o N);have a4:=I O.o.wr;clear N)|((with_reducible refine zi 39 _ _ rfl rfl ?_ a4.o (tC x) ?_ ?_ ?_ ?_ ?_ ?_);exact wA rfl;rfl;rfl;rfl;kernel_rfl;exact z2v x;intro Z2 HX Y))
    (try simp only[Exit.inBlock,Exit.then])
    refine bodyPost_ret (zk rfl Tryz.underlying39 rfl _ _ (w.heap.size+2) (tC x) (by kernel_rfl) rfl HX.o.range) rfl ?_;have X:=BB.fin O.o Y.o;exact .ok K.o rfl (z1Q _ _ x) X
   ·have a1:=I (g.o.next N)
    have K:Hid (r= .error n):=I G.o;clear N;go_wp2;exact⟨rfl,.no K.o rfl a1.o.bel⟩
  by_cases k12:k= 12
  ·subst k12
   rw[if_pos (Or.inr rfl)] at C;have G:Hid (r=(lessZ true (.mk ka na fa sa nsa ia) (.mk ka nb fb sb nsb ib)).map vB):=I C.symm;clear C;have d0:W.cell? ⟨w.heap.size,0,none⟩= some (.int .i64 ka):=g.o.wa.cells 0 rfl;have c0:W.cell? ⟨w.heap.size+1,0,none⟩= some (.int .i64 ka):=g.o.wb.cells 0 rfl;have d1:=I (z8G true ka na nb fa fb sa sb nsa nsb ia ib _ _ W ((i3.o.under g.o.bel).more g.o.bel.size) ((d7.o.under g.o.bel).more g.o.bel.size));generalize lessZ true (.mk ka na fa sa nsa ia) (.mk ka nb fb sb nsb ib)= res at*;go_wp2_with (first|(go_at_call 34;refine ze (zt 6 _) ?_)|((with_reducible refine za tyK39 _ rfl ?_ g.o.wa.range rfl ?_ ?_);exact wA rfl;rfl)|((with_reducible refine za tyK39 _ rfl ?_ g.o.wb.range rfl ?_ ?_);exact wA rfl;rfl)|(go_at_call 125;fail));refine d1.o.mono ?_;rintro e z ⟨⟨x,rfl,rfl⟩|⟨n,rfl,rfl⟩,N⟩
   ·have a1:=I (g.o.next N)
    have K:Hid (r= .ok (vB x)):=I G.o;clear N;go_wp2_with (first|(go_at_call 73;refine(z1n x _).mono ?_;rintro e z ⟨rfl,N⟩;have O:=I (BB.next a1.o N);have a4:=I O.o.wr;clear N)|((with_reducible refine zi 39 _ _ rfl rfl ?_ a4.o (tC x) ?_ ?_ ?_ ?_ ?_ ?_);exact wA rfl;rfl;rfl;rfl;kernel_rfl;exact z2v x;intro Z2 HX Y))
    (try simp only[Exit.inBlock,Exit.then])
    refine bodyPost_ret (zk rfl Tryz.underlying39 rfl _ _ (w.heap.size+2) (tC x) (by kernel_rfl) rfl HX.o.range) rfl ?_;have X:=BB.fin O.o Y.o;exact .ok K.o rfl (z1Q _ _ x) X
   ·have a1:=I (g.o.next N)
    have K:Hid (r= .error n):=I G.o;clear N;go_wp2;exact⟨rfl,.no K.o rfl a1.o.bel⟩
  rw[if_neg (by omega)] at C;have e10:(k ==10)= false:=by simpa using k10
  have e11:(k ==11)= false:=by simpa using k11
  have e12:(k ==12)= false:=by simpa using k12
  by_cases h2:ka= 2
  ·subst h2
   rw[if_pos rfl] at C;have h19:(k ==19)= false:=e19;have h10:(k ==10)= false:=e10;have h11:(k ==11)= false:=e11;have h12:(k ==12)= false:=e12;have G:Hid (r=(z1D k na nb).map vI):=I C.symm;clear C;have d0:W.cell? ⟨w.heap.size,0,none⟩= some (.int .i64 2):=g.o.wa.cells 0 rfl;have c0:W.cell? ⟨w.heap.size+1,0,none⟩= some (.int .i64 2):=g.o.wb.cells 0 rfl;have n1:W.cell? ⟨w.heap.size+1,1,none⟩= some (.int .i64 nb):=g.o.wb.cells 1 rfl;have n2:W.cell? ⟨w.heap.size,1,none⟩= some (.int .i64 na):=g.o.wa.cells 1 rfl;have i6:=I (ze6 k na nb (z56.1 i5.o.1) (z56.1 i5.o.2.2.1) W);have g1:=I (fun n=>ze5 (k:=k) (a:=na) (b:=nb) (n:=n) (z56.1 i5.o.1));generalize z1D k na nb= res at*;go_wp2_with (first|(go_at_call 34;refine ze (zt 6 _) ?_)|(go_at_call 126;fail));refine i6.o.mono ?_;rintro e z ⟨⟨x,rfl,rfl⟩|⟨n,rfl,rfl⟩,g4⟩
   ·rw[g4]
    clear g4 z;have K:Hid (r= .ok (vI x)):=I G.o;have i7:=I (z56.2 (g1.o x rfl));go_wp2_with (first|(go_at_call 120;refine(z1S x _).mono ?_;rintro e z ⟨rfl,N⟩;have O:=I (BB.next g.o N);have a4:=I O.o.wr;clear N)|((with_reducible refine zi 39 _ _ rfl rfl ?_ a4.o (valC 2 x 0 ⟨#[]⟩) ?_ ?_ ?_ ?_ ?_ ?_);exact wA rfl;rfl;rfl;rfl;kernel_rfl;exact z06 _ _ _ _;intro Z2 HX Y))
    (try simp only[Exit.inBlock,Exit.then])
    refine bodyPost_ret (zk rfl Tryz.underlying39 rfl _ _ (w.heap.size+2) (valC 2 x 0 ⟨#[]⟩) (by kernel_rfl) rfl HX.o.range) rfl ?_;have X:=BB.fin O.o Y.o;exact .ok K.o rfl (z2N _ _ x i7.o) X
   ·rw[g4]
    clear g4 z;have K:Hid (r= .error n):=I G.o;go_wp2;exact⟨rfl,.no K.o rfl g.o.bel⟩
  rw[if_neg h2] at C;by_cases h3:ka= 3
  ·subst h3
   rw[if_pos rfl] at C;have h19:(k ==19)= false:=e19;have h10:(k ==10)= false:=e10;have h11:(k ==11)= false:=e11;have h12:(k ==12)= false:=e12;have G:Hid (r=(z1a k fa fb).map vF):=I C.symm;clear C;have d0:W.cell? ⟨w.heap.size,0,none⟩= some (.int .i64 3):=g.o.wa.cells 0 rfl;have c0:W.cell? ⟨w.heap.size+1,0,none⟩= some (.int .i64 3):=g.o.wb.cells 0 rfl;have n1:W.cell? ⟨w.heap.size+1,2,none⟩= some (.float .f64 fb):=g.o.wb.cells 2 rfl;have n2:W.cell? ⟨w.heap.size,2,none⟩= some (.float .f64 fa):=g.o.wa.cells 2 rfl;have i6:=I (zaQ k fa fb W);have g1:=I (fun n=>zaO (k:=k) (a:=fa) (b:=fb) (n:=n));generalize z1a k fa fb= res at*;go_wp2_with (first|(go_at_call 34;refine ze (zt 6 _) ?_)|(go_at_call 127;fail));refine i6.o.mono ?_;rintro e z ⟨⟨x,rfl,rfl⟩|⟨n,rfl,rfl⟩,N⟩
   ·have a1:=I (g.o.next N)
    have K:Hid (r= .ok (vF (zu x))):=I (by rw[(g1.o x rfl).1];exact G.o);have i7:=I (g1.o x rfl).2;clear N;go_wp2_with (first|(go_at_call 117;refine(z8v x _).mono ?_;rintro e z ⟨rfl,N⟩;have O:=I (BB.next a1.o N);have a4:=I O.o.wr;clear N)|((with_reducible refine zi 39 _ _ rfl rfl ?_ a4.o (valC 3 0 (zu x) ⟨#[]⟩) ?_ ?_ ?_ ?_ ?_ ?_);exact wA rfl;rfl;rfl;rfl;kernel_rfl;exact z06 _ _ _ _;intro Z2 HX Y))
    (try simp only[Exit.inBlock,Exit.then])
    refine bodyPost_ret (zk rfl Tryz.underlying39 rfl _ _ (w.heap.size+2) (valC 3 0 (zu x) ⟨#[]⟩) (by kernel_rfl) rfl HX.o.range) rfl ?_;have X:=BB.fin O.o Y.o;exact .ok K.o rfl (z6N _ _ _ (z49 i7.o)) X
   ·have a1:=I (g.o.next N)
    have K:Hid (r= .error n):=I G.o;clear N;go_wp2;exact⟨rfl,.no K.o rfl a1.o.bel⟩
  rw[if_neg h3] at C;have e2:(ka ==2)= false:=by simpa using h2
  have e3:(ka ==3)= false:=by simpa using h3
  by_cases k5:k= 5
  ·subst k5
   by_cases h4:ka= 4
   ·subst h4
    rw[if_pos ⟨rfl,Or.inl rfl⟩] at C;have G:Hid (r= szd (.mk 4 0 0 (sa ++ sb) [] (ia ++ ib))):=I C.symm;clear C;have d0:W.cell? ⟨w.heap.size,0,none⟩= some (.int .i64 4):=g.o.wa.cells 0 rfl;have c0:W.cell? ⟨w.heap.size+1,0,none⟩= some (.int .i64 4):=g.o.wb.cells 0 rfl;have n3:W.cell? ⟨w.heap.size,3,none⟩= some (.string sa):=g.o.wa.cells 3 rfl;have n5:W.cell? ⟨w.heap.size,5,none⟩= some (.slice A ia.length c):=g.o.wa.cells 5 rfl;have m3:W.cell? ⟨w.heap.size+1,3,none⟩= some (.string sb):=g.o.wb.cells 3 rfl;have m5:W.cell? ⟨w.heap.size+1,5,none⟩= some (.slice B ib.length c2):=g.o.wb.cells 5 rfl;have b9:∀ W:World,(Op.stringOp .add sa sb).run Tryz.prog W= .ok (.string (sa ++ sb)) W:=fun W=>run_string_add_sum W _ _ (by have h1:=z0v b7.o;have h2:=z0v b8.o;simp;omega);have c9:∀ W:World,(binOp .add 9 (.string sa) (.string sb)).run Tryz.prog W= .ok (.string (sa ++ sb)) W:=fun W=>b9 W;have a5:=I g.o.wa.lt;have b6:=I g.o.wb.lt;obtain⟨A',cA,e8,c8,f2,f0,e6,f4⟩:=z2e h9.o;obtain⟨B',cB,e9,d8,f3,f1,e7,f5⟩:=z2e g7.o;simp only[Value.slice.injEq,true_and] at e8 e9;obtain⟨rfl,rfl⟩:=e8;obtain⟨rfl,rfl⟩:=e9;have a0:=I (And.intro f2 (And.intro f0 (And.intro e6 f4)));have a3:=I (And.intro f3 (And.intro f1 (And.intro e7 f5)));clear f2 f0 e6 f4 f3 f1 e7 f5;obtain⟨j0,hi,f7,f8,j3⟩:=zX z8y;have i0:=I hi;have i8:=I f7;have i9:=I f8;clear hi f7 f8 j3;go_upto_region 15 with ((go_at_call 34;refine ze (zt 6 _) ?_));refine z0X 14 [(0,true),(1,true),(2,true),(3,true),(4,true),(5,true),(6,true),(7,true),(8,true),(9,true),(10,true),(11,false),(12,false),(13,true)] (fun z=>Below W.heap.size W z) (by kernel_rfl) (by kernel_rfl) rfl (by intro c a d v w h;cases d<;>exact h) ?_;have hs:Below W.heap.size W W.drew:=(Below.refl _ _).drew;refine z7 97 (.pointer (some ⟨w.heap.size,0,none⟩)) rfl rfl rfl hs (fun z hz=>by go_simp) ?_;go_frame;refine z7 98 (.int .i64 4) rfl rfl rfl hs (fun z hz=>by have e4:=(hz.cell (p:=⟨w.heap.size,0,none⟩) a5.o).trans d0;clear hz;go_simp) ?_;go_frame;refine z7 99 (.pointer (some ⟨w.heap.size,3,none⟩)) rfl rfl rfl hs (fun z hz=>by go_simp) ?_;go_frame;refine z7 100 (.string sa) rfl rfl rfl hs (fun z hz=>by have e4:=(hz.cell (p:=⟨w.heap.size,3,none⟩) a5.o).trans n3;clear hz;go_simp) ?_;go_frame;refine z7 101 (.pointer (some ⟨w.heap.size+1,3,none⟩)) rfl rfl rfl hs (fun z hz=>by go_simp) ?_;go_frame;refine z7 102 (.string sb) rfl rfl rfl hs (fun z hz=>by have e4:=(hz.cell (p:=⟨w.heap.size+1,3,none⟩) b6.o).trans m3;clear hz;go_simp) ?_;go_frame;refine z7 103 (.string (sa ++ sb)) rfl rfl rfl hs (fun z hz=>by go_simp) ?_;go_frame;refine z7 104 (.pointer (some ⟨w.heap.size,5,none⟩)) rfl rfl rfl hs (fun z hz=>by go_simp) ?_;go_frame;refine z7 105 (.slice A ia.length c) rfl rfl rfl hs (fun z hz=>by have e4:=(hz.cell (p:=⟨w.heap.size,5,none⟩) a5.o).trans n5;clear hz;go_simp) ?_;go_frame;refine z7 106 (.pointer (some ⟨w.heap.size+1,5,none⟩)) rfl rfl rfl hs (fun z hz=>by go_simp) ?_;go_frame;refine z7 107 (.slice B ib.length c2) rfl rfl rfl hs (fun z hz=>by have e4:=(hz.cell (p:=⟨w.heap.size+1,5,none⟩) b6.o).trans m5;clear hz;go_simp) ?_;go_frame;have b3:Below W.heap.size W (W.drew.alloc (.cells #[.slice A ia.length c,.slice B ib.length c2] 28)):=hs.trans ((zc W.drew _).mono hs.size);refine z3t (some 108) (.slice (some ⟨W.drew.heap.size,0,none⟩) 2 2) (W.drew.alloc (.cells #[.slice A ia.length c,.slice B ib.length c2] 28)) _ rfl rfl (by exact wA rfl) (z4k 209 _ _ rfl 28 j0 _ A B ia.length ib.length c c2 rfl rfl Tryz.underlying209 i0.o i8.o rfl i9.o) b3 ?_;go_frame;have a9:=I b3;have e0:=zI W.drew #[.slice A ia.length c,.slice B ib.length c2] 28 0;have e1:=zI W.drew #[.slice A ia.length c,.slice B ib.length c2] 28 1;simp only[List.getElem?_toArray,List.getElem?_cons_zero,List.getElem?_cons_succ] at e0 e1;have HE:=I (And.intro e0 e1);have O:Hid (W.drew.heap.size <(W.drew.alloc (.cells #[.slice A ia.length c,.slice B ib.length c2] 28)).heap.size):=I (by simp);clear e0 e1 hs b3 d0 c0 n3 n5 m3 m5 b9 c9;generalize W.drew.alloc (.cells #[.slice A ia.length c,.slice B ib.length c2] 28)= V at*;generalize W.drew.heap.size= N at*;have a6:=I (beT g.o.bel a9.o);have d5:=I (z5O N A B ia.length ib.length c c2 (flat enc6 c8) (flat enc6 d8) V (by rw[z2l,a0.o.1]) (by rw[z2l,a3.o.1])
     (fun h0=>by obtain⟨b,ob,e,a7,hc⟩:=a0.o.2.2.1 h0;exact⟨b,ob,e,Nat.lt_of_lt_of_le a7 a6.o.size,fun j u hj=>(a6.o.cell (p:=⟨b,ob+j,none⟩) a7).trans (hc j u hj)⟩)
     (fun h0=>by obtain⟨b,ob,e,a7,hc⟩:=a3.o.2.2.1 h0;exact⟨b,ob,e,Nat.lt_of_lt_of_le a7 a6.o.size,fun j u hj=>(a6.o.cell (p:=⟨b,ob+j,none⟩) a7).trans (hc j u hj)⟩)
     a0.o.2.2.2 a3.o.2.2.2 HE.o.1 HE.o.2 O.o (by have h1:=(z0i b7.o).1;have h2:=(z0i b8.o).1;omega))
    refine zA 109 128 Tryz.func128 (by kernel_rfl) [.slice (some ⟨N,0,none⟩) 2 2] rfl rfl rfl rfl rfl ?_;refine d5.o.mono ?_;rintro e z ⟨v,rfl,c4,b1⟩;have b4:Below W.heap.size W z:=(beT a9.o b1);refine⟨_,rfl,b4,?_⟩;have c6:=I b4;have l6:=I b1;have ho:OwnSl 39 6 enc6 z V.heap.size v (c8 ++ d8):=by
     unfold OwnSl;rw[z4q,List.length_append,a0.o.1,a3.o.1];exact c4
    obtain⟨VA,vn,vc,rfl⟩:=z5B ho;have e5:w.heap.size+2 < W.heap.size:=g.o.wr.lt;have i4:=I (And.intro e5 c6.o.size);have b5:Hid (Kept (fun b=>(P b/\b < w.heap.size)\/W.heap.size<=b) z [.int .i64 4,.int .i64 0,.float .f64 0,.string (sa ++ sb),.slice none 0 0,.slice VA vn vc] (.mk 4 0 0 (sa ++ sb) [] (ia ++ ib))):=I (by
     have b0:Below w.heap.size w z:=(beT a6.o b1);have m1:=(z0i b7.o).1;have m2:=(z0i b8.o).1;have m9:=z0v b7.o;have b3:=z0v b8.o;refine ValAt.of (z0k (by omega)) (z0k (by omega)) (by decide) (by unfold maxLen;simp;omega) (SlAt.nil _ _ _ _) (by unfold maxLen;simp;omega) (z93 ho (by simp[a0.o.1,a3.o.1]) (by simp;omega) (fun b N=> .inr (Nat.le_trans a9.o.size N)) fun j k x hk hx=> ?_);rcases Nat.lt_or_ge j c8.length with hj|hj
     ·rw[List.getElem?_append_left hj] at hk
      rw[List.getElem?_append_left (by rw[← a0.o.1];exact hj)] at hx;exact(a0.o.2.1 j k x hk hx).to (fun b hp hlt=>⟨.inl ⟨hp,hlt⟩,b0.block b hlt⟩) b0.size
     ·rw[List.getElem?_append_right hj] at hk
      rw[List.getElem?_append_right (by rw[← a0.o.1];exact hj),← a0.o.1] at hx;exact(a3.o.2.1 _ k x hk hx).to (fun b hp hlt=>⟨.inl ⟨hp,hlt⟩,b0.block b hlt⟩) b0.size)
    have i2:=I (z3e (fun b=>(P b/\b < w.heap.size)\/W.heap.size<=b) _ _ z b5.o);have d4:Hid (BB w z [.int .i64 4,.int .i64 na,.float .f64 fa,.string sa,.slice g2 nsa.length g5,.slice A ia.length c] [.int .i64 4,.int .i64 nb,.float .f64 fb,.string sb,.slice g3 nsb.length g6,.slice B ib.length c2]):=I (g.o.next c6.o);have hs:=b4;clear c4 ho e5 b1 b4 g a9 HE d5 b5 O c6;go_frame;refine z7 110 (.agg ⟨[.int .i64 4,.int .i64 0,.float .f64 0,.string (sa ++ sb),.slice none 0 0,.slice VA vn vc]⟩) rfl rfl rfl hs (fun z hz=>by clear hz;go_simp) ?_;go_frame;refine z3Q ?_;clear hs;generalize (.mk 4 0 0 (sa ++ sb) [] (ia ++ ib):VT)= vv at*;generalize sa ++ sb= ss at*;go_wp2_with (go_at_call 74;fail);refine i2.o.mono ?_;rintro e z2 (⟨u,d9,hr,rfl,hk,N⟩|⟨n,hr,rfl,N⟩)
    ·have O:=I (d4.o.next N)
     have a4:=I O.o.wr;have i1:=I hk;have c5:=I (zm hk.val).1;have d6:=I (zm hk.val).2;have K:Hid (r= .ok u):=I (G.o.trans hr);clear hk N hr;go_wp2_with (((with_reducible refine zi 39 _ _ rfl rfl ?_ a4.o (d9) ?_ ?_ ?_ ?_ ?_ ?_);exact wA rfl;rw[c5.o];rfl;rfl;rfl;rw[c5.o];kernel_rfl;exact d6.o;intro Z2 HX Y))
     (try simp only[Exit.inBlock,Exit.then])
     refine bodyPost_ret (zk rfl Tryz.underlying39 rfl _ _ (w.heap.size+2) (d9) (by rw[c5.o];kernel_rfl) rfl HX.o.range) rfl ?_;have X:=BB.fin O.o Y.o;exact .ok K.o rfl (i1.o.to (fun b hp hlt=>by have h1:=i4.o;rcases hp with (⟨h2,h3⟩|h2)|h2;exact⟨.inl h2,Y.o.block b hlt (by omega) (by omega)⟩;exact⟨.inr (by omega),Y.o.block b hlt (by omega) (by omega)⟩;exact⟨.inr (by omega),Y.o.block b hlt (by omega) (by omega)⟩) Y.o.size) X
    ·have a1:=I (d4.o.next N)
     have K:Hid (r= .error n):=I (G.o.trans hr);clear N hr;go_wp2;exact⟨rfl,.no K.o rfl a1.o.bel⟩
   by_cases h5:ka= 5
   ·subst h5
    rw[if_pos ⟨rfl,Or.inr rfl⟩] at C;have G:Hid (r= szd (.mk 5 0 0 (sa ++ sb) [] (ia ++ ib))):=I C.symm;clear C;have d0:W.cell? ⟨w.heap.size,0,none⟩= some (.int .i64 5):=g.o.wa.cells 0 rfl;have c0:W.cell? ⟨w.heap.size+1,0,none⟩= some (.int .i64 5):=g.o.wb.cells 0 rfl;have n3:W.cell? ⟨w.heap.size,3,none⟩= some (.string sa):=g.o.wa.cells 3 rfl;have n5:W.cell? ⟨w.heap.size,5,none⟩= some (.slice A ia.length c):=g.o.wa.cells 5 rfl;have m3:W.cell? ⟨w.heap.size+1,3,none⟩= some (.string sb):=g.o.wb.cells 3 rfl;have m5:W.cell? ⟨w.heap.size+1,5,none⟩= some (.slice B ib.length c2):=g.o.wb.cells 5 rfl;have b9:∀ W:World,(Op.stringOp .add sa sb).run Tryz.prog W= .ok (.string (sa ++ sb)) W:=fun W=>run_string_add_sum W _ _ (by have h1:=z0v b7.o;have h2:=z0v b8.o;simp;omega);have c9:∀ W:World,(binOp .add 9 (.string sa) (.string sb)).run Tryz.prog W= .ok (.string (sa ++ sb)) W:=fun W=>b9 W;have a5:=I g.o.wa.lt;have b6:=I g.o.wb.lt;obtain⟨A',cA,e8,c8,f2,f0,e6,f4⟩:=z2e h9.o;obtain⟨B',cB,e9,d8,f3,f1,e7,f5⟩:=z2e g7.o;simp only[Value.slice.injEq,true_and] at e8 e9;obtain⟨rfl,rfl⟩:=e8;obtain⟨rfl,rfl⟩:=e9;have a0:=I (And.intro f2 (And.intro f0 (And.intro e6 f4)));have a3:=I (And.intro f3 (And.intro f1 (And.intro e7 f5)));clear f2 f0 e6 f4 f3 f1 e7 f5;obtain⟨j0,hi,f7,f8,j3⟩:=zX z8y;have i0:=I hi;have i8:=I f7;have i9:=I f8;clear hi f7 f8 j3;go_upto_region 15 with ((go_at_call 34;refine ze (zt 6 _) ?_));refine z0X 14 [(0,true),(1,true),(2,true),(3,true),(4,true),(5,true),(6,true),(7,true),(8,true),(9,true),(10,true),(11,false),(12,false),(13,true)] (fun z=>Below W.heap.size W z) (by kernel_rfl) (by kernel_rfl) rfl (by intro c a d v w h;cases d<;>exact h) ?_;have hs:Below W.heap.size W W.drew:=(Below.refl _ _).drew;refine z7 97 (.pointer (some ⟨w.heap.size,0,none⟩)) rfl rfl rfl hs (fun z hz=>by go_simp) ?_;go_frame;refine z7 98 (.int .i64 5) rfl rfl rfl hs (fun z hz=>by have e4:=(hz.cell (p:=⟨w.heap.size,0,none⟩) a5.o).trans d0;clear hz;go_simp) ?_;go_frame;refine z7 99 (.pointer (some ⟨w.heap.size,3,none⟩)) rfl rfl rfl hs (fun z hz=>by go_simp) ?_;go_frame;refine z7 100 (.string sa) rfl rfl rfl hs (fun z hz=>by have e4:=(hz.cell (p:=⟨w.heap.size,3,none⟩) a5.o).trans n3;clear hz;go_simp) ?_;go_frame;refine z7 101 (.pointer (some ⟨w.heap.size+1,3,none⟩)) rfl rfl rfl hs (fun z hz=>by go_simp) ?_;go_frame;refine z7 102 (.string sb) rfl rfl rfl hs (fun z hz=>by have e4:=(hz.cell (p:=⟨w.heap.size+1,3,none⟩) b6.o).trans m3;clear hz;go_simp) ?_;go_frame;refine z7 103 (.string (sa ++ sb)) rfl rfl rfl hs (fun z hz=>by go_simp) ?_;go_frame;refine z7 104 (.pointer (some ⟨w.heap.size,5,none⟩)) rfl rfl rfl hs (fun z hz=>by go_simp) ?_;go_frame;refine z7 105 (.slice A ia.length c) rfl rfl rfl hs (fun z hz=>by have e4:=(hz.cell (p:=⟨w.heap.size,5,none⟩) a5.o).trans n5;clear hz;go_simp) ?_;go_frame;refine z7 106 (.pointer (some ⟨w.heap.size+1,5,none⟩)) rfl rfl rfl hs (fun z hz=>by go_simp) ?_;go_frame;refine z7 107 (.slice B ib.length c2) rfl rfl rfl hs (fun z hz=>by have e4:=(hz.cell (p:=⟨w.heap.size+1,5,none⟩) b6.o).trans m5;clear hz;go_simp) ?_;go_frame;have b3:Below W.heap.size W (W.drew.alloc (.cells #[.slice A ia.length c,.slice B ib.length c2] 28)):=hs.trans ((zc W.drew _).mono hs.size);refine z3t (some 108) (.slice (some ⟨W.drew.heap.size,0,none⟩) 2 2) (W.drew.alloc (.cells #[.slice A ia.length c,.slice B ib.length c2] 28)) _ rfl rfl (by exact wA rfl) (z4k 209 _ _ rfl 28 j0 _ A B ia.length ib.length c c2 rfl rfl Tryz.underlying209 i0.o i8.o rfl i9.o) b3 ?_;go_frame;have a9:=I b3;have e0:=zI W.drew #[.slice A ia.length c,.slice B ib.length c2] 28 0;have e1:=zI W.drew #[.slice A ia.length c,.slice B ib.length c2] 28 1;simp only[List.getElem?_toArray,List.getElem?_cons_zero,List.getElem?_cons_succ] at e0 e1;have HE:=I (And.intro e0 e1);have O:Hid (W.drew.heap.size <(W.drew.alloc (.cells #[.slice A ia.length c,.slice B ib.length c2] 28)).heap.size):=I (by simp);clear e0 e1 hs b3 d0 c0 n3 n5 m3 m5 b9 c9;generalize W.drew.alloc (.cells #[.slice A ia.length c,.slice B ib.length c2] 28)= V at*;generalize W.drew.heap.size= N at*;have a6:=I (beT g.o.bel a9.o);have d5:=I (z5O N A B ia.length ib.length c c2 (flat enc6 c8) (flat enc6 d8) V (by rw[z2l,a0.o.1]) (by rw[z2l,a3.o.1])
     (fun h0=>by obtain⟨b,ob,e,a7,hc⟩:=a0.o.2.2.1 h0;exact⟨b,ob,e,Nat.lt_of_lt_of_le a7 a6.o.size,fun j u hj=>(a6.o.cell (p:=⟨b,ob+j,none⟩) a7).trans (hc j u hj)⟩)
     (fun h0=>by obtain⟨b,ob,e,a7,hc⟩:=a3.o.2.2.1 h0;exact⟨b,ob,e,Nat.lt_of_lt_of_le a7 a6.o.size,fun j u hj=>(a6.o.cell (p:=⟨b,ob+j,none⟩) a7).trans (hc j u hj)⟩)
     a0.o.2.2.2 a3.o.2.2.2 HE.o.1 HE.o.2 O.o (by have h1:=(z0i b7.o).1;have h2:=(z0i b8.o).1;omega))
    refine zA 109 128 Tryz.func128 (by kernel_rfl) [.slice (some ⟨N,0,none⟩) 2 2] rfl rfl rfl rfl rfl ?_;refine d5.o.mono ?_;rintro e z ⟨v,rfl,c4,b1⟩;have b4:Below W.heap.size W z:=(beT a9.o b1);refine⟨_,rfl,b4,?_⟩;have c6:=I b4;have l6:=I b1;have ho:OwnSl 39 6 enc6 z V.heap.size v (c8 ++ d8):=by
     unfold OwnSl;rw[z4q,List.length_append,a0.o.1,a3.o.1];exact c4
    obtain⟨VA,vn,vc,rfl⟩:=z5B ho;have e5:w.heap.size+2 < W.heap.size:=g.o.wr.lt;have i4:=I (And.intro e5 c6.o.size);have b5:Hid (Kept (fun b=>(P b/\b < w.heap.size)\/W.heap.size<=b) z [.int .i64 5,.int .i64 0,.float .f64 0,.string (sa ++ sb),.slice none 0 0,.slice VA vn vc] (.mk 5 0 0 (sa ++ sb) [] (ia ++ ib))):=I (by
     have b0:Below w.heap.size w z:=(beT a6.o b1);have m1:=(z0i b7.o).1;have m2:=(z0i b8.o).1;have m9:=z0v b7.o;have b3:=z0v b8.o;refine ValAt.of (z0k (by omega)) (z0k (by omega)) (by decide) (by unfold maxLen;simp;omega) (SlAt.nil _ _ _ _) (by unfold maxLen;simp;omega) (z93 ho (by simp[a0.o.1,a3.o.1]) (by simp;omega) (fun b N=> .inr (Nat.le_trans a9.o.size N)) fun j k x hk hx=> ?_);rcases Nat.lt_or_ge j c8.length with hj|hj
     ·rw[List.getElem?_append_left hj] at hk
      rw[List.getElem?_append_left (by rw[← a0.o.1];exact hj)] at hx;exact(a0.o.2.1 j k x hk hx).to (fun b hp hlt=>⟨.inl ⟨hp,hlt⟩,b0.block b hlt⟩) b0.size
     ·rw[List.getElem?_append_right hj] at hk
      rw[List.getElem?_append_right (by rw[← a0.o.1];exact hj),← a0.o.1] at hx;exact(a3.o.2.1 _ k x hk hx).to (fun b hp hlt=>⟨.inl ⟨hp,hlt⟩,b0.block b hlt⟩) b0.size)
    have i2:=I (z3e (fun b=>(P b/\b < w.heap.size)\/W.heap.size<=b) _ _ z b5.o);have d4:Hid (BB w z [.int .i64 5,.int .i64 na,.float .f64 fa,.string sa,.slice g2 nsa.length g5,.slice A ia.length c] [.int .i64 5,.int .i64 nb,.float .f64 fb,.string sb,.slice g3 nsb.length g6,.slice B ib.length c2]):=I (g.o.next c6.o);have hs:=b4;clear c4 ho e5 b1 b4 g a9 HE d5 b5 O c6;go_frame;refine z7 110 (.agg ⟨[.int .i64 5,.int .i64 0,.float .f64 0,.string (sa ++ sb),.slice none 0 0,.slice VA vn vc]⟩) rfl rfl rfl hs (fun z hz=>by clear hz;go_simp) ?_;go_frame;refine z3Q ?_;clear hs;generalize (.mk 5 0 0 (sa ++ sb) [] (ia ++ ib):VT)= vv at*;generalize sa ++ sb= ss at*;go_wp2_with (go_at_call 74;fail);refine i2.o.mono ?_;rintro e z2 (⟨u,d9,hr,rfl,hk,N⟩|⟨n,hr,rfl,N⟩)
    ·have O:=I (d4.o.next N)
     have a4:=I O.o.wr;have i1:=I hk;have c5:=I (zm hk.val).1;have d6:=I (zm hk.val).2;have K:Hid (r= .ok u):=I (G.o.trans hr);clear hk N hr;go_wp2_with (((with_reducible refine zi 39 _ _ rfl rfl ?_ a4.o (d9) ?_ ?_ ?_ ?_ ?_ ?_);exact wA rfl;rw[c5.o];rfl;rfl;rfl;rw[c5.o];kernel_rfl;exact d6.o;intro Z2 HX Y))
     (try simp only[Exit.inBlock,Exit.then])
     refine bodyPost_ret (zk rfl Tryz.underlying39 rfl _ _ (w.heap.size+2) (d9) (by rw[c5.o];kernel_rfl) rfl HX.o.range) rfl ?_;have X:=BB.fin O.o Y.o;exact .ok K.o rfl (i1.o.to (fun b hp hlt=>by have h1:=i4.o;rcases hp with (⟨h2,h3⟩|h2)|h2;exact⟨.inl h2,Y.o.block b hlt (by omega) (by omega)⟩;exact⟨.inr (by omega),Y.o.block b hlt (by omega) (by omega)⟩;exact⟨.inr (by omega),Y.o.block b hlt (by omega) (by omega)⟩) Y.o.size) X
    ·have a1:=I (d4.o.next N)
     have K:Hid (r= .error n):=I (G.o.trans hr);clear N hr;go_wp2;exact⟨rfl,.no K.o rfl a1.o.bel⟩
   rw[if_neg (by omega)] at C;have h2:(ka ==2)= false:=e2;have h3:(ka ==3)= false:=e3;have h4:(ka ==4)= false:=(by simpa using h4);have h5:(ka ==5)= false:=(by simpa using h5);have G:Hid (r= .error 6):=I C.symm;clear C;have d0:W.cell? ⟨w.heap.size,0,none⟩= some (.int .i64 ka):=g.o.wa.cells 0 rfl;have c0:W.cell? ⟨w.heap.size+1,0,none⟩= some (.int .i64 ka):=g.o.wb.cells 0 rfl;go_wp2_with (go_at_call 34;first|((with_reducible refine ze (zt 6 _) ?_))|((with_reducible refine ze (zJ 6 _) ?_)));exact⟨rfl,.no G.o rfl g.o.bel⟩
  ·rw[if_neg (by omega)] at C
   have h19:(k ==19)= false:=e19;have h10:(k ==10)= false:=e10;have h11:(k ==11)= false:=e11;have h12:(k ==12)= false:=e12;have h2:(ka ==2)= false:=e2;have h3:(ka ==3)= false:=e3;have h5:(k ==5)= false:=(by simpa using k5);have G:Hid (r= .error 6):=I C.symm;clear C;have d0:W.cell? ⟨w.heap.size,0,none⟩= some (.int .i64 ka):=g.o.wa.cells 0 rfl;have c0:W.cell? ⟨w.heap.size+1,0,none⟩= some (.int .i64 ka):=g.o.wb.cells 0 rfl;go_wp2_with (go_at_call 34;first|((with_reducible refine ze (zt 6 _) ?_))|((with_reducible refine ze (zJ 6 _) ?_)));exact⟨rfl,.no G.o rfl g.o.bel⟩
 ·rw[if_pos hkk] at C
  have h0:(k ==19)= false:=e19;have h1:(ka ==kb)= false:=(by simpa using hkk);have G:Hid (r= .error 6):=I C.symm;clear C;have d0:W.cell? ⟨w.heap.size,0,none⟩= some (.int .i64 ka):=g.o.wa.cells 0 rfl;have c0:W.cell? ⟨w.heap.size+1,0,none⟩= some (.int .i64 kb):=g.o.wb.cells 0 rfl;go_wp2_with ((go_at_call 34;refine ze (zJ 6 _) ?_));exact⟨rfl,.no G.o rfl g.o.bel⟩
end
section
open Go Go.RowKit
structure EB (w W:World) (q:Nat):Prop where
 wb:Whole 39 W q zV6
 bel:Below w.heap.size w W
 ge:w.heap.size<=q
 lt:q < W.heap.size
theorem z1I {w W:World} (h:Below w.heap.size w W):EB w (W.alloc (.cells zV6.toArray 39)) W.heap.size:=⟨Whole.new W zV6 39,h.trans ((zc W _).mono h.size),h.size,by simp⟩
theorem EB.next {w W W':World} {q:Nat} (h:EB w W q) (hb:Below W.heap.size W W'):EB w W' q:=⟨h.wb.keep (hb.block _ h.lt),(beT h.bel hb),h.ge,Nat.lt_of_lt_of_le h.lt hb.size⟩
theorem EB.drew {w W:World} {q:Nat} (h:EB w W q):EB w W.drew q:=h.next (Below.refl _ _).drew
theorem EB.fin {w W Z:World} {q:Nat} (h:EB w W q) (hx:But W Z q q):Below w.heap.size w Z:=h.bel.trans (hx.below (B:=w.heap.size) h.bel.size h.ge h.ge)
theorem EB.kept {w W Z:World} {q:Nat} {cs:List Value} {v:VT} (he:EB w W q) (h:Kept (fun b=>q < b) W cs v) (hx:But W Z q q):Kept (fun b=>w.heap.size<=b) Z cs v:=
 h.to (fun b hp hlt=>⟨Nat.le_trans he.ge (Nat.le_of_lt hp),hx.block b hlt (Nat.ne_of_gt hp) (Nat.ne_of_gt hp)⟩) hx.size
theorem EB.keptN {w W:World} {q:Nat} (he:EB w W q) {z:World} {cs:List Value} {v:VT} (h:Kept (fun b=>W.heap.size<=b) z cs v):Kept (fun b=>q < b) z cs v:=h.to (fun b hp hlt=>⟨Nat.lt_of_lt_of_le he.lt hp,rfl⟩) (Nat.le_refl _)
theorem EvPost.ok {r:Res} {w:World} {e:Ending} {w':World} {v:VT} {cs:List Value} (hr:r= .ok v) (he:e= .returned (.agg ⟨cs⟩)) (hk:Kept (fun b=>w.heap.size<=b) w' cs v) (hw:zB v= true) (hb:Below w.heap.size w w'):EvPost r w e w':= .inl ⟨v,cs,hr,he,hk,hw,hb⟩
theorem EvPost.no {r:Res} {w:World} {e:Ending} {w':World} {n:Int} (hr:r= .error n) (he:e= panE n) (hb:Below w.heap.size w w'):EvPost r w e w':= .inr ⟨n,hr,he,hb⟩
theorem zcz (mp:Nat) (va vb:Value) (E:List VarT) (V:List VT) (s:ByteArray) (w:World) (hm:MacAt w mp va vb E V):Calls Tryz.prog 71 #[.pointer (some ⟨mp,0,none⟩),.string s] w (EvPost (nameR E V s) w):=by
 have HM:=I hm;have e0:=hm.vals.1;obtain⟨VB,vc,rfl,b6⟩:=hm.vals.2;have c9:=I b6;have a8:=z7t E s;clear hm b6;go_enter Tryz.func71,Tryz.ntmps71;go_upto_region 1 with (fail);rw[z0A];have A:=I (z1I (zc w (.cells #[.string s] 9)));have c0:=zI w #[.string s] 9 0;simp only[List.getElem?_toArray,List.getElem?_cons_zero] at c0;have a6:=I ((zc (w.alloc (.cells #[.string s] 9)) (.cells zV6.toArray 39)).cell (p:=⟨w.heap.size,0,none⟩) (by simp)|>.trans c0);have b5:(w.alloc (.cells #[.string s] 9)).heap.size= w.heap.size+1:=by simp
 rw[b5] at A;clear c0 b5;generalize (w.alloc (.cells #[.string s] 9)).alloc (.cells zV6.toArray 39)= W at*;have G:=I (HM.o.below A.o.bel);have a9:Hid (w.heap.size < W.heap.size):=I (by have:=A.o.lt;omega);have a0:=I (zaV E s va w.heap.size W G.o.vars G.o.few a6.o a9.o);have m0:W.cell? ⟨mp,0,none⟩= some va:=G.o.cells 0 _ rfl;obtain⟨ix,a1⟩:∃ ix,findV E s= ix:=⟨_,rfl⟩;have K:Hid (nameR E V s= if ix= -1 then .error 11 else match V[ix.toNat]? with|some v=> .ok (z01 v)|none=> .error 11):=I (by unfold nameR;rw[a1];rfl);rw[a1] at a0 a8;generalize nameR E V s= res at*;clear a1;have d2:∀ (fn:Fn) (first cap:Array Value) (w:World),(Instr.makeFunc fn first cap).run Tryz.prog w= .ok (.func fn first cap) w:=fun _ _ _ _=>rfl;go_upto_region 2 with (go_at_call 114;refine zg a0.o ?_;intro z O);have c6:=I (G.o.below O.o);have C:=I (A.o.next O.o);clear m0 d2 a0 G A a6 a9 O;have m1:z.cell? ⟨mp,1,none⟩= some (.slice VB V.length vc):=c6.o.cells 1 _ rfl;rcases a8 with rfl|⟨h0,h1⟩
 ·have g:Hid (res= .error 11):=I (by rw[K.o,if_pos rfl])
  clear m1;go_wp2_with ((go_at_call 34;refine ze (zJ 11 _) ?_));exact⟨rfl,.no g.o rfl C.o.bel⟩
 ·obtain⟨j,rfl⟩:∃ j:Nat,ix=(j:Int):=⟨ix.toNat,by omega⟩
  have d9:(0:Int)<=(j:Int):=by omega
  have a2: ¬ ((j:Int)= -1):=by omega
  have a4:(j:Int).toNat= j:=by omega
  rw[if_neg a2,a4] at K;by_cases hj:j < V.length
  ·have d1:(j:Int) <(V.length:Int):=by omega
   obtain⟨v,hv⟩:∃ v,V[j]?= some v:=⟨_,List.getElem?_eq_getElem hj⟩;have g:Hid (res= .ok (z01 v)):=I (by rw[K.o,hv]);have a3:=HM.o.right v (List.mem_of_getElem? hv);have c8:Hid (zB (z01 v)= true):=I (by rw[z4f];exact a3);obtain⟨b,ob,rfl,d0,hc⟩:=c9.o (by omega);obtain⟨ks,b2,b3,b4⟩:=hc j v hv;have a7:=I b2;have N:=I C.o.bel;have c4:Hid (z.rangeAt b (ob+j*6) ks):=I (zb b3 N.o d0);have b9:=I (z75 v ks z (z7m v a3) ((b4.under N.o).more N.o.size));clear hc b2 b3 b4 a3 hv h0 h1 a2 a4;go_upto_region 3 with ((go_at_call 34;refine ze (zt 11 _) ?_));go_wp2_with (first|((with_reducible refine za tyK39 _ rfl ?_ c4.o rfl a7.o ?_);exact wA rfl)|(go_at_call 43;refine b9.o.mono ?_;rintro e z2 ⟨b1,rfl,hk,hb⟩;have X:=I (zm hk.val).1;have c7:=I (zm hk.val).2;have c5:=I (C.o.keptN hk);have Y:=I (C.o.next hb);clear hk hb)|((with_reducible refine zi 39 _ _ rfl rfl ?_ Y.o.wb (b1) ?_ ?_ ?_ ?_ ?_ ?_);exact wA rfl;rw[X.o];rfl;rfl;rfl;rw[X.o];kernel_rfl;exact c7.o;intro Z2 HX b0))
   (try simp only[Exit.inBlock,Exit.then])
   refine bodyPost_ret (zk rfl Tryz.underlying39 rfl _ _ (w.heap.size+1) (b1) (by rw[X.o];kernel_rfl) rfl HX.o.range) rfl ?_;exact .ok g.o rfl (Y.o.kept c5.o b0.o) (c8.o) (Y.o.fin b0.o)
  ·have d1: ¬ ((j:Int) <(V.length:Int)):=by omega
   have g:Hid (res= .error 11):=I (by rw[K.o,List.getElem?_eq_none (by omega)]);clear h0 h1 a2 a4;go_wp2_with ((go_at_call 34;refine ze (zJ 11 _) ?_));exact⟨rfl,.no g.o rfl C.o.bel⟩
theorem z2n (mp p o:Nat) (r:Res) (w:World) (h:Calls Tryz.prog 37 #[.pointer (some ⟨mp,0,none⟩),.pointer (some ⟨p,o,none⟩)] w (EvPost r w)):Calls Tryz.prog 72 #[.pointer (some ⟨mp,0,none⟩),.pointer (some ⟨p,o,none⟩)] w (z83 (boolR r) w):=by
 have O:=I h;clear h;go_enter Tryz.func72,Tryz.ntmps72;go_wp2_with (go_at_call 37;fail);refine O.o.mono ?_;rintro e z (⟨v,cs,rfl,rfl,K,hr,G⟩|⟨n,rfl,rfl,G⟩)
 ·have a1:=I (zm K.val).1
  have X:=I (zm K.val).2;have N:=I G;cases v with
  |mk kv n f sv ns its=>
  obtain⟨vn,vi,rfl, -, -, -, -, -, -, -⟩:=ValAt.inv K;have C:Hid (boolR (.ok (.mk kv n f sv ns its))= if kv= 1 then .ok (n ==1) else .error 6):=I (by rw[boolR]);clear K hr G O;generalize boolR (.ok (.mk kv n f sv ns its))= res at*;go_upto_region 2 with (first|((with_reducible refine z1f 39 _ _ rfl ?hwx z ?zz [.int .i64 kv,.int .i64 n,.float .f64 f,.string sv,vn,vi] ?hwld ?hz ?hx ?hy ?hi ?h1 ?_);(case hwld=>rfl);(case hx=>rfl);(case hy=>rfl);(case hwx=>(exact wA rfl));(case hz=>rfl);(case hi=>kernel_rfl);(case h1=>exact X.o);intro Z hZ;have Y:=I hZ;clear hZ));have d0:Z.cell? ⟨z.heap.size,0,none⟩= some (.int .i64 kv):=by have:=Y.o.range 0 _ rfl;rwa [Nat.zero_add] at this
  have d1:Z.cell? ⟨z.heap.size,1,none⟩= some (.int .i64 n):=by have:=Y.o.range 1 _ rfl;rwa [Nat.zero_add] at this
  have A:=I (beT N.o Y.o.below);by_cases h1:kv= 1
  ·subst h1
   have g:Hid (res= .ok (n ==1)):=I (by rw[C.o,if_pos rfl]);go_wp2_with ((go_at_call 34;refine ze (zt 6 _) ?_));go_ret;exact⟨.inl ⟨_,g.o,rfl⟩,A.o⟩
  ·have a2:(kv ==1)= false:=by simpa using h1
   have g:Hid (res= .error 6):=I (by rw[C.o,if_neg h1]);clear h1;go_wp2_with ((go_at_call 34;refine ze (zJ 6 _) ?_));exact⟨rfl,.inr ⟨_,g.o,rfl⟩,A.o⟩
 ·have N:=I G
  clear G O;go_wp2;exact⟨rfl,.inr ⟨_,rfl,rfl⟩,N.o⟩
theorem lz_if {a b c:Res}:lazyR 15 [a,b,c]= match boolR a with| .error e=> .error e| .ok x=>if x= true then b else c:=by
 unfold lazyR;rw[show ∀ l:List Res,(a::l).getD 0 (.error 0)= a from fun _=>rfl];cases boolR a with
 |error e=>rfl
 |ok x=>cases x<;>rfl
theorem zh0 {a b:Res}:lazyR 13 [a,b]= match boolR a with| .error e=> .error e| .ok x=>if x= true then(boolR b).map vB else .ok (vB false):=by
 unfold lazyR;rw[show ∀ l:List Res,(a::l).getD 0 (.error 0)= a from fun _=>rfl];cases boolR a with
 |error e=>rfl
 |ok x=>cases x<;>rfl
theorem lz_or {a b:Res}:lazyR 14 [a,b]= match boolR a with| .error e=> .error e| .ok x=>if x= true then .ok (vB true) else(boolR b).map vB:=by
 unfold lazyR;rw[show ∀ l:List Res,(a::l).getD 0 (.error 0)= a from fun _=>rfl];cases boolR a with
 |error e=>rfl
 |ok x=>cases x<;>rfl
def EvAt (mp b o:Nat) (W:World) (r:Res):Prop:=∀ u,Below W.heap.size W u->Calls Tryz.prog 37 #[.pointer (some ⟨mp,0,none⟩),.pointer (some ⟨b,o,none⟩)] u (EvPost r u)
theorem EvAt.later {mp b o:Nat} {W W':World} {r:Res} (h:EvAt mp b o W r) (hb:Below W.heap.size W W'):EvAt mp b o W' r:=fun u hu=>h u (beT hb hu)
section
variable (mp:Nat) (va vb:Value) (E:List VarT) (V:List VT) (p o:Nat) (w:World)
theorem zeE (s:ByteArray) (v:VT) (v0 v1 v2 v3 v4 v5 vn vi:Value) (hr:w.rangeAt p o [.int .i64 1,.string s,v0,v1,v2,v3,v4,v5,vn,vi]) (hp:p < w.heap.size) (hvv:ValAt w w.heap.size [v0,v1,v2,v3,v4,v5] v) (hc:z0l v= true) (hm:MacAt w mp va vb E V):
  Calls Tryz.prog 37 #[.pointer (some ⟨mp,0,none⟩),.pointer (some ⟨p,o,none⟩)] w (EvPost (.ok (z01 v)) w):=by
 have HM:=I hm;have a3:=I hr;have HP:=I hp;have G:zB v= true:=by cases v;unfold z0l at hc;rw[Bool.and_eq_true] at hc;exact hc.2
 have a4:Hid (zB (z01 v)= true):=I (by rw[z4f];exact G);have a6:=I hvv;have a0:=I (z7m v G);clear hm hr hp hvv hc G;go_enter Tryz.func37,Tryz.ntmps37;go_upto_region 1 with (fail);rw[z0A];have g:=I (z1I (Below.refl w.heap.size w));generalize w.alloc (.cells zV6.toArray 39)= W at*;have a9:=I (HM.o.below g.o.bel);have K:Hid (W.rangeAt p o [.int .i64 1,.string s,v0,v1,v2,v3,v4,v5,vn,vi]):=I (zb a3.o g.o.bel HP.o);have d0:W.cell? ⟨p,o,none⟩= some (.int .i64 1):=K.o 0 _ rfl;have a5:Hid (W.rangeAt p (o+2) [v0,v1,v2,v3,v4,v5]):=I (z5S K.o (fun j x h=>match j,h with|0,h=>h|1,h=>h|2,h=>h|3,h=>h|4,h=>h|5,h=>h|j+6,h=>by simp at h));have Y:=I (z75 v [v0,v1,v2,v3,v4,v5] W a0.o ((a6.o.under g.o.bel).more g.o.bel.size));go_upto_region 3 with (fail);clear d0;go_wp2_with (first|((with_reducible refine za tyK39 _ rfl ?_ a5.o rfl ?_ ?_);exact wA rfl;rfl)|(go_at_call 43;refine Y.o.mono ?_;rintro e z2 ⟨O,rfl,X,hb⟩;have A:=I (zm X.val).1;have a2:=I (zm X.val).2;have a1:=I (g.o.keptN X);have C:=I (g.o.next hb);clear X hb)|((with_reducible refine zi 39 _ _ rfl rfl ?_ C.o.wb (O) ?_ ?_ ?_ ?_ ?_ ?_);exact wA rfl;rw[A.o];rfl;rfl;rfl;rw[A.o];kernel_rfl;exact a2.o;intro Z2 HX N))
 (try simp only[Exit.inBlock,Exit.then])
 refine bodyPost_ret (zk rfl Tryz.underlying39 rfl _ _ (w.heap.size) (O) (by rw[A.o];kernel_rfl) rfl HX.o.range) rfl ?_;exact .ok rfl rfl (C.o.kept a1.o N.o) (a4.o) (C.o.fin N.o)
theorem zfZ (s:ByteArray) (v0 v1 v2 v3 v4 v5 vn vi:Value) (hr:w.rangeAt p o [.int .i64 2,.string s,v0,v1,v2,v3,v4,v5,vn,vi]) (hp:p < w.heap.size) (hm:MacAt w mp va vb E V):
  Calls Tryz.prog 37 #[.pointer (some ⟨mp,0,none⟩),.pointer (some ⟨p,o,none⟩)] w (EvPost (nameR E V s) w):=by
 have HM:=I hm;have a3:=I hr;have HP:=I hp;clear hm hr hp;go_enter Tryz.func37,Tryz.ntmps37;go_upto_region 1 with (fail);rw[z0A];have g:=I (z1I (Below.refl w.heap.size w));generalize w.alloc (.cells zV6.toArray 39)= W at*;have a1:=I (HM.o.below g.o.bel);have G:Hid (W.rangeAt p o [.int .i64 2,.string s,v0,v1,v2,v3,v4,v5,vn,vi]):=I (zb a3.o g.o.bel HP.o);have d0:W.cell? ⟨p,o,none⟩= some (.int .i64 2):=G.o 0 _ rfl;have d1:W.cell? ⟨p,o+1,none⟩= some (.string s):=G.o 1 _ rfl;have HN:=I (zcz mp va vb E V s W a1.o);generalize nameR E V s= res at*;go_wp2_with (go_at_call 71;fail);refine HN.o.mono ?_;rintro e z (⟨v,N,rfl,rfl,Y,X,O⟩|⟨n,rfl,rfl,O⟩)
 ·have A:=I (zm Y.val).1
  have a2:=I (zm Y.val).2;have a0:=I (g.o.keptN Y);have C:=I (g.o.next O);have a4:=I X;clear Y O X d0 d1;go_wp2_with (((with_reducible refine zi 39 _ _ rfl rfl ?_ C.o.wb (N) ?_ ?_ ?_ ?_ ?_ ?_);exact wA rfl;rw[A.o];rfl;rfl;rfl;rw[A.o];kernel_rfl;exact a2.o;intro Z2 HX K))
  (try simp only[Exit.inBlock,Exit.then])
  refine bodyPost_ret (zk rfl Tryz.underlying39 rfl _ _ (w.heap.size) (N) (by rw[A.o];kernel_rfl) rfl HX.o.range) rfl ?_;exact .ok rfl rfl (C.o.kept a0.o K.o) (a4.o) (C.o.fin K.o)
 ·have HB:=I O
  clear O d0 d1;go_wp2;exact⟨rfl,.no rfl rfl (g.o.next HB.o).bel⟩
theorem ev_if (s:ByteArray) (v0 v1 v2 v3 v4 v5 vn:Value) (b ob c:Nat) (ra rb rc res:Res) (hres:res= lazyR 15 [ra,rb,rc]) (hr:w.rangeAt p o [.int .i64 15,.string s,v0,v1,v2,v3,v4,v5,vn,.slice (some ⟨b,ob,none⟩) 3 c]) (hp:p < w.heap.size) (ha:EvAt mp b ob w ra) (hb:EvAt mp b (ob+10) w rb) (hc:EvAt mp b (ob+20) w rc) (hm:MacAt w mp va vb E V):
  Calls Tryz.prog 37 #[.pointer (some ⟨mp,0,none⟩),.pointer (some ⟨p,o,none⟩)] w (EvPost res w):=by
 have HM:=I hm;have b5:=I hr;have HP:=I hp;rw[lz_if] at hres;have C:=I hres;have HA:=I ha;have b3:=I hb;have b4:=I hc;clear hm hr hp ha hb hc hres;go_enter Tryz.func37,Tryz.ntmps37;go_upto_region 1 with (fail);rw[z0A];have A:=I (z1I (Below.refl w.heap.size w));generalize w.alloc (.cells zV6.toArray 39)= W at*;have c6:=I (HM.o.below A.o.bel);have b0:Hid (W.rangeAt p o [.int .i64 15,.string s,v0,v1,v2,v3,v4,v5,vn,.slice (some ⟨b,ob,none⟩) 3 c]):=I (zb b5.o A.o.bel HP.o);have d0:W.cell? ⟨p,o,none⟩= some (.int .i64 15):=b0.o 0 _ rfl;have d9:W.cell? ⟨p,o+9,none⟩= some (.slice (some ⟨b,ob,none⟩) 3 c):=b0.o 9 _ rfl;have b2:=I (z2n mp b ob ra W (HA.o W A.o.bel));have a8:=b3.o.later A.o.bel;have a9:=b4.o.later A.o.bel;have b7:=I a8;have b8:=I a9;clear a8 a9;go_wp2_with (go_at_call 72;fail);refine b2.o.mono ?_;rintro e z ⟨⟨x,hx,rfl⟩|⟨n,hx,rfl⟩,a1⟩
 ·have O:=I a1
  have c7:z.cell? ⟨p,o+9,none⟩= some (.slice (some ⟨b,ob,none⟩) 3 c):=(a1.cell (p:=⟨p,o+9,none⟩) (Nat.lt_of_lt_of_le HP.o A.o.bel.size)).trans d9;rw[hx] at C;clear a1 hx d0 d9;cases x with
  |true=>
   have G:Hid (res= rb):=I C.o;go_wp2_with (go_at_call 37;fail);refine(b7.o _ O.o).mono ?_;rintro e z2 (⟨v,a0,hres,rfl,hk,a2,hb⟩|⟨n,hres,rfl,hb⟩)
   ·have X:=I (A.o.next O.o)
    have K:=I (zm hk.val).1;have a5:=I (zm hk.val).2;have a4:=I (X.o.keptN hk);have N:=I (X.o.next hb);have a6:=I a2;have g:=I (G.o.trans hres);clear hk hb a2 hres;go_wp2_with (((with_reducible refine zi 39 _ _ rfl rfl ?_ N.o.wb (a0) ?_ ?_ ?_ ?_ ?_ ?_);exact wA rfl;rw[K.o];rfl;rfl;rfl;rw[K.o];kernel_rfl;exact a5.o;intro Z2 HX Y))
    (try simp only[Exit.inBlock,Exit.then])
    refine bodyPost_ret (zk rfl Tryz.underlying39 rfl _ _ (w.heap.size) (a0) (by rw[K.o];kernel_rfl) rfl HX.o.range) rfl ?_;exact .ok g.o rfl (N.o.kept a4.o Y.o) (a6.o) (N.o.fin Y.o)
   ·have HB:=I hb
    have g:=I (G.o.trans hres);clear hb hres;go_wp2;exact⟨rfl,.no g.o rfl ((A.o.next O.o).next HB.o).bel⟩
  |false=>
   have G:Hid (res= rc):=I C.o;go_wp2_with (go_at_call 37;fail);refine(b8.o _ O.o).mono ?_;rintro e z2 (⟨v,a0,hres,rfl,hk,a2,hb⟩|⟨n,hres,rfl,hb⟩)
   ·have X:=I (A.o.next O.o)
    have K:=I (zm hk.val).1;have a5:=I (zm hk.val).2;have a4:=I (X.o.keptN hk);have N:=I (X.o.next hb);have a6:=I a2;have g:=I (G.o.trans hres);clear hk hb a2 hres;go_wp2_with (((with_reducible refine zi 39 _ _ rfl rfl ?_ N.o.wb (a0) ?_ ?_ ?_ ?_ ?_ ?_);exact wA rfl;rw[K.o];rfl;rfl;rfl;rw[K.o];kernel_rfl;exact a5.o;intro Z2 HX Y))
    (try simp only[Exit.inBlock,Exit.then])
    refine bodyPost_ret (zk rfl Tryz.underlying39 rfl _ _ (w.heap.size) (a0) (by rw[K.o];kernel_rfl) rfl HX.o.range) rfl ?_;exact .ok g.o rfl (N.o.kept a4.o Y.o) (a6.o) (N.o.fin Y.o)
   ·have HB:=I hb
    have g:=I (G.o.trans hres);clear hb hres;go_wp2;exact⟨rfl,.no g.o rfl ((A.o.next O.o).next HB.o).bel⟩
 ·have HB:=I a1
  have g:Hid (res= .error n):=I (by rw[C.o,hx]);clear a1 hx d0 d9;go_wp2;exact⟨rfl,.no g.o rfl (A.o.next HB.o).bel⟩
theorem zgR (s:ByteArray) (v0 v1 v2 v3 v4 v5 vn:Value) (b ob c:Nat) (ra rb res:Res) (hres:res= lazyR 13 [ra,rb]) (hr:w.rangeAt p o [.int .i64 13,.string s,v0,v1,v2,v3,v4,v5,vn,.slice (some ⟨b,ob,none⟩) 2 c]) (hp:p < w.heap.size) (ha:EvAt mp b ob w ra) (hb:EvAt mp b (ob+10) w rb) (hm:MacAt w mp va vb E V):
  Calls Tryz.prog 37 #[.pointer (some ⟨mp,0,none⟩),.pointer (some ⟨p,o,none⟩)] w (EvPost res w):=by
 have HM:=I hm;have a8:=I hr;have HP:=I hp;rw[zh0] at hres;have C:=I hres;have HA:=I ha;have a7:=I hb;clear hm hr hp ha hb hres;go_enter Tryz.func37,Tryz.ntmps37;go_upto_region 1 with (fail);rw[z0A];have G:=I (z1I (Below.refl w.heap.size w));generalize w.alloc (.cells zV6.toArray 39)= W at*;have b5:=I (HM.o.below G.o.bel);have a2:Hid (W.rangeAt p o [.int .i64 13,.string s,v0,v1,v2,v3,v4,v5,vn,.slice (some ⟨b,ob,none⟩) 2 c]):=I (zb a8.o G.o.bel HP.o);have d0:W.cell? ⟨p,o,none⟩= some (.int .i64 13):=a2.o 0 _ rfl;have d9:W.cell? ⟨p,o+9,none⟩= some (.slice (some ⟨b,ob,none⟩) 2 c):=a2.o 9 _ rfl;have a5:=I (z2n mp b ob ra W (HA.o W G.o.bel));have a0:=a7.o.later G.o.bel;have b0:=I a0;clear a0;go_wp2_with (go_at_call 72;fail);refine a5.o.mono ?_;rintro e z ⟨⟨x,hx,rfl⟩|⟨n,hx,rfl⟩,A⟩
 ·have a1:=I A
  have b6:z.cell? ⟨p,o+9,none⟩= some (.slice (some ⟨b,ob,none⟩) 2 c):=(A.cell (p:=⟨p,o+9,none⟩) (Nat.lt_of_lt_of_le HP.o G.o.bel.size)).trans d9;rw[hx] at C;have O:=I (G.o.next a1.o);clear A hx d0 d9;cases x with
  |true=>
   have K:Hid (res=(boolR rb).map vB):=I C.o;have a6:=I (z2n mp b (ob+10) rb z (b0.o z a1.o));go_wp2_with (go_at_call 72;fail);refine a6.o.mono ?_;rintro e z2 ⟨⟨y,hy,rfl⟩|⟨n,hy,rfl⟩,A⟩
   ·rw[hy] at K
    have g:Hid (res= .ok (vB y)):=I K.o;have X:=I (O.o.next A);clear A hy;go_wp2_with (first|(go_at_call 73;refine(z1n y _).mono ?_;rintro e z3 ⟨rfl,hb⟩;have N:=I (X.o.next hb);clear hb)|((with_reducible refine zi 39 _ _ rfl rfl ?_ N.o.wb (tC y) ?_ ?_ ?_ ?_ ?_ ?_);exact wA rfl;rfl;rfl;rfl;kernel_rfl;exact z2v y;intro Z2 HX Y))
    (try simp only[Exit.inBlock,Exit.then])
    refine bodyPost_ret (zk rfl Tryz.underlying39 rfl _ _ (w.heap.size) (tC y) (by kernel_rfl) rfl HX.o.range) rfl ?_;exact .ok g.o rfl (z1Q _ _ y) (z1L y) (N.o.fin Y.o)
   ·rw[hy] at K
    have g:Hid (res= .error n):=I K.o;have X:=I (O.o.next A);clear A hy;go_wp2;exact⟨rfl,.no g.o rfl X.o.bel⟩
  |false=>
   have g:Hid (res= .ok (vB false)):=I C.o;go_wp2_with (first|(go_at_call 73;refine(z1n false _).mono ?_;rintro e z3 ⟨rfl,hb⟩;have N:=I (O.o.next hb);clear hb)|((with_reducible refine zi 39 _ _ rfl rfl ?_ N.o.wb (tC false) ?_ ?_ ?_ ?_ ?_ ?_);exact wA rfl;rfl;rfl;rfl;kernel_rfl;exact z2v false;intro Z2 HX Y))
   (try simp only[Exit.inBlock,Exit.then])
   refine bodyPost_ret (zk rfl Tryz.underlying39 rfl _ _ (w.heap.size) (tC false) (by kernel_rfl) rfl HX.o.range) rfl ?_;exact .ok g.o rfl (z1Q _ _ false) (z1L false) (N.o.fin Y.o)
 ·have HB:=I A
  have g:Hid (res= .error n):=I (by rw[C.o,hx]);clear A hx d0 d9;go_wp2;exact⟨rfl,.no g.o rfl (G.o.next HB.o).bel⟩
theorem ev_or (s:ByteArray) (v0 v1 v2 v3 v4 v5 vn:Value) (b ob c:Nat) (ra rb res:Res) (hres:res= lazyR 14 [ra,rb]) (hr:w.rangeAt p o [.int .i64 14,.string s,v0,v1,v2,v3,v4,v5,vn,.slice (some ⟨b,ob,none⟩) 2 c]) (hp:p < w.heap.size) (ha:EvAt mp b ob w ra) (hb:EvAt mp b (ob+10) w rb) (hm:MacAt w mp va vb E V):
  Calls Tryz.prog 37 #[.pointer (some ⟨mp,0,none⟩),.pointer (some ⟨p,o,none⟩)] w (EvPost res w):=by
 have HM:=I hm;have a8:=I hr;have HP:=I hp;rw[lz_or] at hres;have C:=I hres;have HA:=I ha;have a7:=I hb;clear hm hr hp ha hb hres;go_enter Tryz.func37,Tryz.ntmps37;go_upto_region 1 with (fail);rw[z0A];have G:=I (z1I (Below.refl w.heap.size w));generalize w.alloc (.cells zV6.toArray 39)= W at*;have b5:=I (HM.o.below G.o.bel);have a2:Hid (W.rangeAt p o [.int .i64 14,.string s,v0,v1,v2,v3,v4,v5,vn,.slice (some ⟨b,ob,none⟩) 2 c]):=I (zb a8.o G.o.bel HP.o);have d0:W.cell? ⟨p,o,none⟩= some (.int .i64 14):=a2.o 0 _ rfl;have d9:W.cell? ⟨p,o+9,none⟩= some (.slice (some ⟨b,ob,none⟩) 2 c):=a2.o 9 _ rfl;have a5:=I (z2n mp b ob ra W (HA.o W G.o.bel));have a0:=a7.o.later G.o.bel;have b0:=I a0;clear a0;go_wp2_with (go_at_call 72;fail);refine a5.o.mono ?_;rintro e z ⟨⟨x,hx,rfl⟩|⟨n,hx,rfl⟩,A⟩
 ·have a1:=I A
  have b6:z.cell? ⟨p,o+9,none⟩= some (.slice (some ⟨b,ob,none⟩) 2 c):=(A.cell (p:=⟨p,o+9,none⟩) (Nat.lt_of_lt_of_le HP.o G.o.bel.size)).trans d9;rw[hx] at C;have O:=I (G.o.next a1.o);clear A hx d0 d9;cases x with
  |false=>
   have K:Hid (res=(boolR rb).map vB):=I C.o;have a6:=I (z2n mp b (ob+10) rb z (b0.o z a1.o));go_wp2_with (go_at_call 72;fail);refine a6.o.mono ?_;rintro e z2 ⟨⟨y,hy,rfl⟩|⟨n,hy,rfl⟩,A⟩
   ·rw[hy] at K
    have g:Hid (res= .ok (vB y)):=I K.o;have X:=I (O.o.next A);clear A hy;go_wp2_with (first|(go_at_call 73;refine(z1n y _).mono ?_;rintro e z3 ⟨rfl,hb⟩;have N:=I (X.o.next hb);clear hb)|((with_reducible refine zi 39 _ _ rfl rfl ?_ N.o.wb (tC y) ?_ ?_ ?_ ?_ ?_ ?_);exact wA rfl;rfl;rfl;rfl;kernel_rfl;exact z2v y;intro Z2 HX Y))
    (try simp only[Exit.inBlock,Exit.then])
    refine bodyPost_ret (zk rfl Tryz.underlying39 rfl _ _ (w.heap.size) (tC y) (by kernel_rfl) rfl HX.o.range) rfl ?_;exact .ok g.o rfl (z1Q _ _ y) (z1L y) (N.o.fin Y.o)
   ·rw[hy] at K
    have g:Hid (res= .error n):=I K.o;have X:=I (O.o.next A);clear A hy;go_wp2;exact⟨rfl,.no g.o rfl X.o.bel⟩
  |true=>
   have g:Hid (res= .ok (vB true)):=I C.o;go_wp2_with (first|(go_at_call 73;refine(z1n true _).mono ?_;rintro e z3 ⟨rfl,hb⟩;have N:=I (O.o.next hb);clear hb)|((with_reducible refine zi 39 _ _ rfl rfl ?_ N.o.wb (tC true) ?_ ?_ ?_ ?_ ?_ ?_);exact wA rfl;rfl;rfl;rfl;kernel_rfl;exact z2v true;intro Z2 HX Y))
   (try simp only[Exit.inBlock,Exit.then])
   refine bodyPost_ret (zk rfl Tryz.underlying39 rfl _ _ (w.heap.size) (tC true) (by kernel_rfl) rfl HX.o.range) rfl ?_;exact .ok g.o rfl (z1Q _ _ true) (z1L true) (N.o.fin Y.o)
 ·have HB:=I A
  have g:Hid (res= .error n):=I (by rw[C.o,hx]);clear A hx d0 d9;go_wp2;exact⟨rfl,.no g.o rfl (G.o.next HB.o).bel⟩
end
end
section
open Go Go.RowKit
theorem zda {E:List VarT} {V:List VT} {its:List ET} {j:Nat} {y:ET} (h:its[j]?= some y):seqR (zC E V (its.drop j))= match evalE E V y with| .error e=> .error e| .ok v=>(seqR (zC E V (its.drop (j+1)))).map (v:: ·):=by
 rw[z5r h,zC];cases evalE E V y with
 |error e=>rfl
 |ok v=>
  rw[seqR];all_goals cases seqR (zC E V (its.drop (j+1)))<;>rfl
theorem z9L (r:Except Int (List VT)) (vs:List VT) (v:VT):(r.map (v:: ·)).map (vs ++ ·)= r.map ((vs ++ [v]) ++ ·):=by
 cases r with
 |error e=>rfl
 |ok l=>show Except.ok (vs ++ (v::l))= Except.ok ((vs ++ [v]) ++ l);simp
theorem z5D:∀ (l:List ET),l.length<=szEL l
 |[]=>by simp
 |a::l=>by
  have:=z5D l
  have:=zgr a
  rw[szEL,List.length_cons];omega
theorem z5E:∀ {l:List ET} {x:ET},x∈l->szE x<=szEL l
 |a::l,x,hx=>by
  rw[szEL]
  rcases List.mem_cons.1 hx with rfl|hx
  ·omega
  ·have:=z5E hx;omega
theorem z3G {E:List VarT} {V:List VT} {k:Int} {s:ByteArray} {v:VT} {ns:List ByteArray} {its:List ET} (h: ¬ k= 1/\¬ k= 2/\¬ (k= 13\/k= 14\/k= 15)):evalE E V (.mk k s v ns its)= match seqR (zC E V its) with| .error e=> .error e| .ok l=>combR k s ns l:=by
 rw[evalE,if_neg h.1,if_neg h.2.1,if_neg h.2.2];rfl
theorem zb8 {vs:List VT} {v:VT} (h:∀ z∈vs,zB z= true) (hv:zB v= true):∀ z∈vs ++ [v],zB z= true:=fun z hz=>by
 rcases List.mem_append.1 hz with h1|h1
 ·exact h z h1
 ·have:z= v:=by simpa using h1
  rw[this];exact hv
theorem z0s {α:Type} {T:TypeId} {k base:Nat} {enc:α->List Value} {w:World} {v:Value} {l:List α} (h:OwnSl T k enc w base v l):∃ A c,v= .slice A l.length c:=by
 rcases h.2 with ⟨rfl,h0⟩|⟨g,cap,cur,rfl,_⟩
 ·exact⟨none,0,by rw[h0]⟩
 ·exact⟨_,_,rfl⟩
section
variable (mp:Nat) (va vb:Value) (E:List VarT) (V:List VT) (p o:Nat) (w:World)
theorem z6K (k:Int) (s:ByteArray) (v0 v1 v2 v3 v4 v5 vn:Value) (A:Option Addr) (c:Nat) (ns:List ByteArray) (its:List ET) (e1:(k ==1)= false) (e2:(k ==2)= false) (e15:(k ==15)= false) (e13:(k ==13)= false) (e14:(k ==14)= false)
  (hlen:its.length<=199) (hkl:(k= 16\/k= 17)\/(¬ k= 16/\¬ k= 17/\(its.length= 1\/its.length= 2)))
  (hr:w.rangeAt p o [.int .i64 k,.string s,v0,v1,v2,v3,v4,v5,vn,.slice A its.length c]) (hp:p < w.heap.size) (hns:SlAt w w.heap.size 1 StrR vn ns) (hnl:ns.length<=1000)
  (hA:0 < its.length->∃ b ob,A= some ⟨b,ob,none⟩/\∀ j x,its[j]?= some x->EvAt mp b (ob+j*10) w (evalE E V x)) (hm:MacAt w mp va vb E V) {res:Res}
  (hres:res= match seqR (zC E V its) with| .error e=> .error e| .ok l=>combR k s ns l):
  Calls Tryz.prog 37 #[.pointer (some ⟨mp,0,none⟩),.pointer (some ⟨p,o,none⟩)] w (EvPost res w):=by
 have HM:=I hm;have l8:=I hr;have HP:=I hp;have f6:=I hres;have i5:=I hns;have l5:=I hnl;have HA:=I hA;have b5:=I hlen;have l3:=I hkl;clear hm hr hp hns hnl hA hlen hkl hres;go_enter Tryz.func37,Tryz.ntmps37;go_upto_region 1 with (fail);rw[z0A];have Y:=I (z1I (Below.refl w.heap.size w));generalize w.alloc (.cells zV6.toArray 39)= W at*;have n4:=I (HM.o.below Y.o.bel);have b7:Hid (W.rangeAt p o [.int .i64 k,.string s,v0,v1,v2,v3,v4,v5,vn,.slice A its.length c]):=I (zb l8.o Y.o.bel HP.o);have d0:W.cell? ⟨p,o,none⟩= some (.int .i64 k):=b7.o 0 _ rfl;have d9:W.cell? ⟨p,o+9,none⟩= some (.slice A its.length c):=b7.o 9 _ rfl;have c8:Hid (p < W.heap.size):=I (Nat.lt_of_lt_of_le HP.o Y.o.bel.size);obtain⟨j0,hi,k3,k4,k5⟩:=zX z1Y;have h9:=I hi;have j1:=I k3;have j2:=I k4;have m4:=I k5;clear hi k3 k4 k5;go_upto_region 16 with (fail);clear d0 d9;go_loopg [5,92] its.length (fun q x y u=>∃ (j:Nat) (vs:List VT) (KL:List zT),j+q= its.length/\y= .int .i64 j/\vs.length= j/\seqR (zC E V its)=(seqR (zC E V (its.drop j))).map (vs ++ ·)/\(∀ z∈vs,zB z= true)/\RowInv 39 W u x vs KL);case atStart=>exact⟨0,[],[],by omega,rfl,rfl,by rw[List.drop_zero];cases seqR (zC E V its)<;>rfl,(fun z hz=>by cases hz),RowInv.start _ _⟩
 case round=>
  obtain⟨j,vs,KL,hj,rfl,m7,g1,b6,hI⟩:=hrel;have HI:=I hI;have d3:=I g1;have c9:=I b6;have b2:=I m7;have a7:=I (Y.o.next HI.o.bel);obtain⟨UA,uc,rfl⟩:=z0s hI.own;have c6:=I hI.len;clear hI g1 b6;have d0:wr.cell? ⟨p,o,none⟩= some (.int .i64 k):=(HI.o.bel.cell (p:=⟨p,o,none⟩) c8.o).trans (b7.o 0 _ rfl);have d9:wr.cell? ⟨p,o+9,none⟩= some (.slice A its.length c):=(HI.o.bel.cell (p:=⟨p,o+9,none⟩) c8.o).trans (b7.o 9 _ rfl);cases gk with
  |zero=>
   obtain rfl:j= its.length:=by omega
   have n7: ¬ ((its.length:Int) <(its.length:Int)):=by omega
   have f3:Hid (res= combR k s ns vs):=I (by
    have h1:=d3.o;rw[List.drop_length,zC,seqR] at h1;have h2:seqR (zC E V its)= .ok vs:=by rw[h1];show Except.ok (vs ++ [])= _;rw[List.append_nil]
    rw[f6.o,h2])
   have d4:Hid (vs.length<=maxLen):=I (by have h1:=b2.o;have h2:=b5.o;unfold maxLen;omega);have l4:=l3.o;rcases l4 with (j4|j5)|⟨e5,e6,j7⟩
   ·subst j4
    have g5:Hid (Kept (fun b=>W.heap.size<=b) wr [.int .i64 5,.int .i64 0,.float .f64 0,.string ⟨#[]⟩,.slice none 0 0,.slice UA KL.length uc] (.mk 5 0 0 ⟨#[]⟩ [] vs)):=I (ValAt.of (z0k (by omega)) (z0k (by omega)) (by decide) (by decide) (SlAt.nil _ _ _ _) d4.o (HI.o.row d4.o (Nat.le_refl _) (fun _ _ _=>rfl) (Nat.le_refl _)));have g6:=I (z3e (fun b=>W.heap.size<=b) _ _ wr g5.o);have O:Hid (res= szd (.mk 5 0 0 ⟨#[]⟩ [] vs)):=I (by rw[f3.o];unfold combR;rw[if_pos rfl]);clear d9;go_wp2_with (go_at_call 74;fail);refine g6.o.mono ?_;rintro e z2 (⟨u,C,hr,rfl,hk,X⟩|⟨n,hr,rfl,X⟩)
    ·have N:=I (a7.o.next X)
     have a8:Hid (Kept (fun b=>w.heap.size < b) z2 C u):=I (hk.to (fun b hp b4=>⟨by have h1:=Y.o.lt;have h2:=HI.o.bel.size;rcases hp with h|h<;>omega,rfl⟩) (Nat.le_refl _));have K:=I (zm hk.val).1;have b1:=I (zm hk.val).2;have G:Hid (res= .ok u):=I (O.o.trans hr);have a3:Hid (zB u= true):=I (z4I hr).2;clear hk X hr;go_wp2_with (((with_reducible refine zi 39 _ _ rfl rfl ?_ N.o.wb (C) ?_ ?_ ?_ ?_ ?_ ?_);exact wA rfl;rw[K.o];rfl;rfl;rfl;rw[K.o];kernel_rfl;exact b1.o;intro Z2 HX a0))
     (try simp only[Exit.inBlock,Exit.then])
     refine bodyPost_ret (zk rfl Tryz.underlying39 rfl _ _ (w.heap.size) (C) (by rw[K.o];kernel_rfl) rfl HX.o.range) rfl ?_;exact .ok G.o rfl (N.o.kept a8.o a0.o) (a3.o) (N.o.fin a0.o)
    ·have G:Hid (res= .error n):=I (O.o.trans hr)
     have HB:=I X;clear X hr;go_wp2;exact⟨rfl,.no G.o rfl (a7.o.next HB.o).bel⟩
   ·subst j5
    obtain⟨-,NA,nc,rfl, -⟩:=id i5.o;have d8:wr.cell? ⟨p,o+8,none⟩= some (.slice NA ns.length nc):=(HI.o.bel.cell (p:=⟨p,o+8,none⟩) c8.o).trans (b7.o 8 _ rfl);have i9:=I (beT Y.o.bel HI.o.bel);have h6:=I (z1z wr (.slice NA ns.length nc) ns ((i5.o.below i9.o fun _ _ _ h=>h).more i9.o.size) (by have h1:=l5.o;have h2:reachBytes= 140737488351232:=rfl;omega));go_upto_region 23 with (fail);clear d0 d9;go_wp2_with (first|(go_at_call 75;fail));refine h6.o.mono ?_;rintro e z ⟨v',rfl,d7,g9⟩;obtain⟨-,m6,m8,rfl, -⟩:=id g9;have g5:Hid (Kept (fun b=>W.heap.size<=b) z [.int .i64 6,.int .i64 0,.float .f64 0,.string ⟨#[]⟩,.slice m6 ns.length m8,.slice UA KL.length uc] (.mk 6 0 0 ⟨#[]⟩ ns vs)):=I (ValAt.of (z0k (by omega)) (z0k (by omega)) (by decide) (by decide) (g9.to (fun b hp b4=>⟨Nat.le_trans HI.o.bel.size hp,rfl⟩) (Nat.le_refl _)) d4.o (HI.o.row d4.o (Nat.le_refl _) (fun b _ b4=>d7.block b b4) d7.size));have g6:=I (z3e (fun b=>W.heap.size<=b) _ _ z g5.o);have O:Hid (res= szd (.mk 6 0 0 ⟨#[]⟩ ns vs)):=I (by rw[f3.o];unfold combR;rw[if_neg (by decide),if_pos rfl]);have h8:=I (a7.o.next d7);have m5:=I d7.size;clear d7 g9 d8 h6;go_wp2_with (go_at_call 74;fail);refine g6.o.mono ?_;rintro e z2 (⟨u,C,hr,rfl,hk,X⟩|⟨n,hr,rfl,X⟩)
    ·have N:=I (h8.o.next X)
     have a8:Hid (Kept (fun b=>w.heap.size < b) z2 C u):=I (hk.to (fun b hp b4=>⟨by have h1:=Y.o.lt;have h2:=HI.o.bel.size;have h3:=m5.o;rcases hp with h|h<;>omega,rfl⟩) (Nat.le_refl _));have K:=I (zm hk.val).1;have b1:=I (zm hk.val).2;have G:Hid (res= .ok u):=I (O.o.trans hr);have a3:Hid (zB u= true):=I (z4I hr).2;clear hk X hr;go_wp2_with (((with_reducible refine zi 39 _ _ rfl rfl ?_ N.o.wb (C) ?_ ?_ ?_ ?_ ?_ ?_);exact wA rfl;rw[K.o];rfl;rfl;rfl;rw[K.o];kernel_rfl;exact b1.o;intro Z2 HX a0))
     (try simp only[Exit.inBlock,Exit.then])
     refine bodyPost_ret (zk rfl Tryz.underlying39 rfl _ _ (w.heap.size) (C) (by rw[K.o];kernel_rfl) rfl HX.o.range) rfl ?_;exact .ok G.o rfl (N.o.kept a8.o a0.o) (a3.o) (N.o.fin a0.o)
    ·have G:Hid (res= .error n):=I (O.o.trans hr)
     have HB:=I X;clear X hr;go_wp2;exact⟨rfl,.no G.o rfl (h8.o.next HB.o).bel⟩
   ·have e16:(k ==16)= false:=by simpa using e5
    have e17:(k ==17)= false:=by simpa using e6
    have d2:=I (HI.o.row d4.o (Nat.le_refl _) (fun _ _ _=>rfl) (Nat.le_refl _));have i8:=I (HM.o.tab.next (beT Y.o.bel HI.o.bel));have d1:wr.cell? ⟨p,o+1,none⟩= some (.string s):=(HI.o.bel.cell (p:=⟨p,o+1,none⟩) c8.o).trans (b7.o 1 _ rfl);have i6:Hid (p < wr.heap.size):=I (Nat.lt_of_lt_of_le c8.o HI.o.bel.size);have f1:=I (And.intro e5 e6);clear d9 e5 e6;obtain⟨n,hn⟩:∃ n,KL.length= n:=⟨_,rfl⟩;have hnl:=hn.symm.trans (c6.o.trans b2.o);rw[hn] at d2;rw[hn];rcases j7 with j6|j8
    ·obtain rfl:n= 1:=by omega
     obtain⟨a,rfl⟩:∃ a,vs=[a]:=by
      have h1:=b2.o
      match vs,h1.trans j6 with
      |[a],_=>exact⟨a,rfl⟩
     clear j6 hnl hn;obtain⟨-,RA,rc,e7,d5⟩:=d2.o;simp only[Value.slice.injEq] at e7;obtain⟨rfl, -,rfl⟩:=e7;obtain⟨b0,o0,rfl,f5,b8⟩:=d5 (by simp);obtain⟨ks,a6,b3,e3⟩:=b8 0 a rfl;rw[Nat.zero_mul,Nat.add_zero] at b3;have f0:Hid (Kept (fun b=>W.heap.size<=b) wr ks a):=I e3;have c5:=I a6;have c7:Hid (wr.rangeAt b0 o0 ks):=I (z0t b3 fun a v h=>(zx.1 h).2);have m2:=I (zdZ (fun b=>W.heap.size<=b) k s p o a ks wr d0 d1 i6.o f0.o (c9.o a (by simp)) i8.o);have O:Hid (res= unV k s a):=I (by rw[f3.o];unfold combR;rw[if_neg f1.o.1,if_neg f1.o.2]);have m1:=I (zaw _ _ f0.o.val);have f2:=I (c9.o a (by simp));clear d5 b8 a6 b3 e3 f5 d1;go_wp2_with (first|((with_reducible refine za tyK39 _ rfl ?_ c7.o rfl c5.o ?_);exact wA rfl)|(go_at_call 76;fail));refine m2.o.mono ?_;rintro e z2 (⟨u,C,hr,rfl,hk,X⟩|⟨n,hr,rfl,X⟩)
     ·have N:=I (a7.o.next X)
      have a8:Hid (Kept (fun b=>w.heap.size < b) z2 C u):=I (hk.to (fun b hp b4=>⟨by have h1:=Y.o.lt;have h2:=HI.o.bel.size;rcases hp with h|h<;>omega,rfl⟩) (Nat.le_refl _));have K:=I (zm hk.val).1;have b1:=I (zm hk.val).2;have G:Hid (res= .ok u):=I (O.o.trans hr);have a3:Hid (zB u= true):=I (zdY m1.o f2.o hr);clear hk X hr;go_wp2_with (((with_reducible refine zi 39 _ _ rfl rfl ?_ N.o.wb (C) ?_ ?_ ?_ ?_ ?_ ?_);exact wA rfl;rw[K.o];rfl;rfl;rfl;rw[K.o];kernel_rfl;exact b1.o;intro Z2 HX a0))
      (try simp only[Exit.inBlock,Exit.then])
      refine bodyPost_ret (zk rfl Tryz.underlying39 rfl _ _ (w.heap.size) (C) (by rw[K.o];kernel_rfl) rfl HX.o.range) rfl ?_;exact .ok G.o rfl (N.o.kept a8.o a0.o) (a3.o) (N.o.fin a0.o)
     ·have G:Hid (res= .error n):=I (O.o.trans hr)
      have HB:=I X;clear X hr;go_wp2;exact⟨rfl,.no G.o rfl (a7.o.next HB.o).bel⟩
    ·obtain rfl:n= 2:=by omega
     obtain⟨a,a2,rfl⟩:∃ a a2,vs=[a,a2]:=by
      have h1:=b2.o
      match vs,h1.trans j8 with
      |[a,b],_=>exact⟨a,b,rfl⟩
     clear j8 hnl hn;obtain⟨-,RA,rc,e7,d5⟩:=d2.o;simp only[Value.slice.injEq] at e7;obtain⟨rfl, -,rfl⟩:=e7;obtain⟨b0,o0,rfl,f5,b8⟩:=d5 (by simp);obtain⟨ks,a6,b3,e3⟩:=b8 0 a rfl;obtain⟨b9,f8,e0,f9⟩:=b8 1 a2 rfl;rw[Nat.zero_mul,Nat.add_zero] at b3;rw[Nat.one_mul] at e0;have f0:Hid (Kept (fun b=>W.heap.size<=b) wr ks a):=I e3;have i2:Hid (Kept (fun b=>W.heap.size<=b) wr b9 a2):=I f9;have c5:=I a6;have h5:=I f8;have c7:Hid (wr.rangeAt b0 o0 ks):=I (z0t b3 fun a v h=>(zx.1 h).2);have i1:Hid (wr.rangeAt b0 (o0+6) b9):=I (z0t e0 fun a v h=>(zx.1 h).2);have h4:=I f5;have O:Hid (res= binV k a a2):=I (by rw[f3.o];unfold combR;rw[if_neg f1.o.1,if_neg f1.o.2]);have f2:=I (c9.o a (by simp));have l9:=I (c9.o a2 (by simp));clear d5 b8 a6 b3 e3 f8 e0 f9 f5 d1;go_upto_region 26 with (fail);refine z0X 10 [(0,true),(1,true),(2,true),(3,true),(4,true),(5,true),(6,true),(7,true),(8,true),(9,true)] (fun z=>Below wr.heap.size wr z) (by kernel_rfl) (by kernel_rfl) rfl (by intro c a d v w h;cases d<;>exact h) ?_;have hs:Below wr.heap.size wr wr.drew:=(Below.refl _ _).drew;refine zf 139 (.pointer (some ⟨p,o,none⟩)) rfl rfl rfl rfl hs rfl ?_;go_frame;refine z7 140 (.pointer (some ⟨p,o,none⟩)) rfl rfl rfl hs (fun z hz=>by go_simp) ?_;go_frame;refine z7 141 (.pointer (some ⟨p,o,none⟩)) rfl rfl rfl hs (fun z hz=>by go_simp) ?_;go_frame;refine z7 142 (.int .i64 k) rfl rfl rfl hs (fun z hz=>by have e4:=(hz.cell (p:=⟨p,o,none⟩) i6.o).trans d0;clear hz;go_simp) ?_;go_frame;refine zf 143 (.slice (some ⟨b0,o0,none⟩) 2 uc) rfl rfl rfl rfl hs rfl ?_;go_frame;refine z7 144 (.pointer (some ⟨b0,o0,none⟩)) rfl rfl rfl hs (fun z hz=>by go_simp) ?_;go_frame;refine z7 145 (.agg ⟨ks⟩) rfl rfl rfl hs (fun z hz=>zp 39 rfl b0 o0 ks _ rfl (zb c7.o hz h4.o) Tryz.underlying39 rfl (by rw[c5.o];kernel_rfl)) ?_;go_frame;refine zf 146 (.slice (some ⟨b0,o0,none⟩) 2 uc) rfl rfl rfl rfl hs rfl ?_;go_frame;refine z7 147 (.pointer (some ⟨b0,o0+6,none⟩)) rfl rfl rfl hs (fun z hz=>by go_simp) ?_;go_frame;refine z7 148 (.agg ⟨b9⟩) rfl rfl rfl hs (fun z hz=>zp 39 rfl b0 (o0+6) b9 _ rfl (zb i1.o hz h4.o) Tryz.underlying39 rfl (by rw[h5.o];kernel_rfl)) ?_;go_frame;refine z3Q ?_;have h7:=I a7.o.drew;have l2:Hid (Kept (fun b=>W.heap.size<=b) wr.drew ks a):=I (f0.o.to (fun b hp _=>⟨hp,rfl⟩) (Nat.le_refl _));have i0:Hid (Kept (fun b=>W.heap.size<=b) wr.drew b9 a2):=I (i2.o.to (fun b hp _=>⟨hp,rfl⟩) (Nat.le_refl _));have m3:Hid (W.heap.size<=wr.drew.heap.size):=I HI.o.bel.size;have k9:=I (zaC (fun b=>W.heap.size<=b) k a a2 ks b9 wr.drew l2.o i0.o f2.o l9.o);clear hs d0;generalize wr.drew= wd at*;go_wp2_with (go_at_call 77;fail);refine k9.o.mono ?_;rintro e z2 (⟨u,C,hr,rfl,hk,X⟩|⟨n,hr,rfl,X⟩)
     ·have N:=I (h7.o.next X)
      have a8:Hid (Kept (fun b=>w.heap.size < b) z2 C u):=I (hk.to (fun b hp b4=>⟨by have h1:=Y.o.lt;have h2:=m3.o;rcases hp with h|h<;>omega,rfl⟩) (Nat.le_refl _));have K:=I (zm hk.val).1;have b1:=I (zm hk.val).2;have G:Hid (res= .ok u):=I (O.o.trans hr);have a3:Hid (zB u= true):=I (zaB f2.o hr);clear hk X hr;go_wp2_with (((with_reducible refine zi 39 _ _ rfl rfl ?_ N.o.wb (C) ?_ ?_ ?_ ?_ ?_ ?_);exact wA rfl;rw[K.o];rfl;rfl;rfl;rw[K.o];kernel_rfl;exact b1.o;intro Z2 HX a0))
      (try simp only[Exit.inBlock,Exit.then])
      refine bodyPost_ret (zk rfl Tryz.underlying39 rfl _ _ (w.heap.size) (C) (by rw[K.o];kernel_rfl) rfl HX.o.range) rfl ?_;exact .ok G.o rfl (N.o.kept a8.o a0.o) (a3.o) (N.o.fin a0.o)
     ·have G:Hid (res= .error n):=I (O.o.trans hr)
      have HB:=I X;clear X hr;go_wp2;exact⟨rfl,.no G.o rfl (h7.o.next HB.o).bel⟩
  |succ g=>
   have b4:(j:Int) <(its.length:Int):=by omega
   obtain⟨y,hy⟩:∃ y,its[j]?= some y:=⟨_,List.getElem?_eq_getElem (by omega)⟩;obtain⟨b,ob,rfl,j3⟩:=HA.o (by omega);have g4:=I (j3 j y hy wr (beT Y.o.bel HI.o.bel));have HY:=I hy;have f4:=I (zda (E:=E) (V:=V) hy);clear j3 hy;go_upto_region 18 with (fail);go_wp2_with (go_at_call 37;fail);refine g4.o.mono ?_;rintro e u6 (⟨v,C,hr,rfl,g8,k2,d6⟩|⟨n,hr,rfl,d6⟩)
   ·obtain⟨j9,k1⟩:=zm g8.val
    have l1:=I g8;have c4:=I d6;have a9:=I j9;have l6:=I k1;have a3:=I k2;have i7:Hid (seqR (zC E V its)=(seqR (zC E V (its.drop (j+1)))).map ((vs ++ [v]) ++ ·)):=I (by rw[d3.o,f4.o,hr];exact z9L _ _ _);clear g8 d6 j9 k1 k2 hr g4 f4 d0 d9;have l0:Hid (∀ i u,(enc6 ⟨C,a9.o⟩)[i]?= some u->(u6.alloc (.cells ⟨C⟩ 39)).cell? ⟨u6.heap.size,i,none⟩= some u):=I (z0r u6 C 39);have g3:=I (zc u6 (.cells ⟨C⟩ 39));have m0:Hid (W.heap.size<=(u6.alloc (.cells ⟨C⟩ 39)).heap.size):=I (Nat.le_trans HI.o.bel.size (Nat.le_trans c4.o.size g3.o.size));have l7:Hid (OwnSl 39 6 enc6 (u6.alloc (.cells ⟨C⟩ 39)) W.heap.size (.slice UA KL.length uc) KL):=I (HI.o.own.below (beT c4.o g3.o));have i3:Hid (KL.length+1<=maxLen):=I (by have:=b5.o;have h2:=c6.o;have h3:=b2.o;unfold maxLen;omega);have i4:Hid ((KL.length+1) *88<=140737488355328):=I (by have:=b5.o;have h2:=c6.o;have h3:=b2.o;omega);go_wp2_with (first|((with_reducible refine z0z 28 _ rfl ?_ 39 j0 _ C ?_ Tryz.underlying28 h9.o j1.o ?_ ?_ ?_ ?_);(exact wA rfl);rfl;rw[a9.o];exact j2.o;rw[a9.o];decide;rw[a9.o];decide)|(at_builtin;(refine z2a rfl _ _ 28 rfl W.heap.size 39 j0 _ 6 88 enc6 Tryz.underlying28 h9.o j1.o j2.o m4.o rfl (by decide) z0D (.slice UA KL.length uc) KL rfl l7.o u6.heap.size 1 ⟨C,a9.o⟩ l6.o rfl l0.o i3.o i4.o m0.o ?_;intro v' u8 g0 hg f7;have HN:=I (RowInv.next (k:=⟨C,a9.o⟩) HI.o (Below.refl _ _) c4.o g3.o l1.o g0 hg f7);clear g0 hg f7)));go_roundg g;case measure=>omega
    case rel=>
     have X:=b5.o;have hq:wrap64 ((j:Int)+1)=((j+1:Nat):Int):=by unfold wrap64;omega
     refine⟨j+1,vs ++ [v],KL ++ [⟨C,a9.o⟩],?_,?_,?_,i7.o,zb8 c9.o a3.o,HN.o⟩
     ·omega
     ·first|rw[hq]|rfl
     ·rw[List.length_append,b2.o];rfl
   ·have c4:=I d6
    have O:Hid (res= .error n):=I (by rw[f6.o,d3.o,f4.o,hr];rfl);clear d6 hr g4 f4 d0 d9;go_wp2;exact⟨rfl,.no O.o rfl (a7.o.next c4.o).bel⟩
end
end
section
open Go Go.RowKit
theorem zcH {k:Int} {s:ByteArray} {ns:List ByteArray} {nk:Nat} (h:zR k s ns nk= true):ns.length<=nk:=by
 unfold zR at h;split at h
 ·simp only[Bool.and_eq_true,beq_iff_eq] at h;omega
 split at h
 ·simp only[Bool.and_eq_true,beq_iff_eq] at h;omega
 split at h
 ·simp only[Bool.and_eq_true,beq_iff_eq] at h;omega
 ·simp only[Bool.and_eq_true,beq_iff_eq] at h;omega
theorem lenE2 {l:List ET} (h:l.length= 2):∃ a b,l=[a,b]:=by
 match l,h with
 |[a,b],_=>exact⟨a,b,rfl⟩
theorem lenE3 {l:List ET} (h:l.length= 3):∃ a b c,l=[a,b,c]:=by
 match l,h with
 |[a,b,c],_=>exact⟨a,b,c,rfl⟩
theorem zcr {k:Int} {n:Nat} (h:kidsB (z0V k) n= true):((k= 1\/k= 2)/\n= 0)\/((k= 3\/k= 4\/k= 18\/(20<=k/\k<=23))/\n= 1)\/(((5<=k/\k<=14)\/k= 19)/\n= 2)\/(k= 15/\n= 3)\/(k= 16\/k= 17):=by
 unfold kidsB at h;simp only[Bool.and_eq_true,Bool.not_eq_true',beq_eq_false_iff_ne,Bool.or_eq_true,decide_eq_true_eq,beq_iff_eq] at h;unfold z0V at h
 (repeat' split at h)<;>omega
theorem zcy (mp:Nat) (va vb:Value) (E:List VarT) (V:List VT):∀ (t:ET) (d:Nat) (cs:List Value) (p o:Nat) (w:World),z0h t d= true->szE t<=200->w.rangeAt p o cs->p < w.heap.size->ExpAt w w.heap.size cs t->MacAt w mp va vb E V->
  Calls Tryz.prog 37 #[.pointer (some ⟨mp,0,none⟩),.pointer (some ⟨p,o,none⟩)] w (EvPost (evalE E V t) w):=by
 intro t
 induction t using ET.ind with
 |h k s v ns its ih=>
  intro d cs p o w hr b1 g hp hv Y;rw[z0h] at hr;simp only[Bool.and_eq_true,decide_eq_true_eq] at hr;obtain⟨_,hk,a9,O,a6⟩:=hr;rw[z2g] at a6;rw[szE] at b1;have K:its.length<=199:=by have:=z5D its;omega
  obtain⟨v0,v1,v2,v3,v4,v5,vn,vi,rfl,_,hs,b2,a3,b7,hi⟩:=hv.inv;obtain⟨_,A,c,rfl,hA⟩:=hi;have G:0 < its.length->∃ b X,A= some ⟨b,X,none⟩/\∀ j x,its[j]?= some x->EvAt mp b (X+j*10) w (evalE E V x):=fun h0=>by
   obtain⟨b,X,rfl,hb,hc⟩:=hA h0;refine⟨b,X,rfl,fun j x hx u hu=> ?_⟩;obtain⟨ks,b9,a7,a8⟩:=hc j x hx;have N:=List.mem_of_getElem? hx;exact ih x N (d+1) ks b (X+j*10) u (a6 x N) (by have:=z5E N;omega) (zb a7 hu hb) (Nat.lt_of_lt_of_le hb hu.size) ((a8.under hu).more hu.size) (Y.below hu)
  have a2:ns.length<=1000:=by have:=zcH a9;omega
  rcases zcr hk with ⟨C,_⟩|⟨C,hn⟩|⟨C,hn⟩|⟨C,hn⟩|C
  ·rcases C with rfl|rfl
   ·unfold valB at O
    rw[if_pos rfl] at O;rw[evalE,if_pos rfl];exact zeE mp va vb E V p o w s v v0 v1 v2 v3 v4 v5 vn _ g hp b2 O Y
   ·rw[evalE,if_neg (by decide),if_pos rfl]
    exact zfZ mp va vb E V p o w s v0 v1 v2 v3 v4 v5 vn _ g hp Y
  ·exact z6K mp va vb E V p o w k s v0 v1 v2 v3 v4 v5 vn A c ns its (by simp;omega) (by simp;omega) (by simp;omega) (by simp;omega) (by simp;omega) K (.inr ⟨by omega,by omega,.inl hn⟩) g hp a3 a2 G Y (z3G ⟨by omega,by omega,by omega⟩)
  ·by_cases h13:k= 13\/k= 14
   ·obtain⟨x,y,rfl⟩:=lenE2 hn
    obtain⟨b,X,rfl,he⟩:=G (by simp);have e0:=he 0 x rfl;have e1:=he 1 y rfl;rw[Nat.zero_mul,Nat.add_zero] at e0;rw[Nat.one_mul] at e1;rcases h13 with rfl|rfl
    ·refine zgR mp va vb E V p o w s v0 v1 v2 v3 v4 v5 vn b X c _ _ _ ?_ g hp e0 e1 Y
     rw[evalE,zC,zC,zC,if_neg (by decide),if_neg (by decide),if_pos (by decide)]
    ·refine ev_or mp va vb E V p o w s v0 v1 v2 v3 v4 v5 vn b X c _ _ _ ?_ g hp e0 e1 Y
     rw[evalE,zC,zC,zC,if_neg (by decide),if_neg (by decide),if_pos (by decide)]
   ·exact z6K mp va vb E V p o w k s v0 v1 v2 v3 v4 v5 vn A c ns its (by simp;omega) (by simp;omega) (by simp;omega) (by simp;omega) (by simp;omega) K (.inr ⟨by omega,by omega,.inr hn⟩) g hp a3 a2 G Y (z3G ⟨by omega,by omega,by omega⟩)
  ·subst C
   obtain⟨x,y,z,rfl⟩:=lenE3 hn;obtain⟨b,X,rfl,he⟩:=G (by simp);have e0:=he 0 x rfl;have e1:=he 1 y rfl;have e2:=he 2 z rfl;rw[Nat.zero_mul,Nat.add_zero] at e0;rw[Nat.one_mul] at e1;refine ev_if mp va vb E V p o w s v0 v1 v2 v3 v4 v5 vn b X c _ _ _ _ ?_ g hp e0 e1 e2 Y;rw[evalE,zC,zC,zC,zC,if_neg (by decide),if_neg (by decide),if_pos (by decide)]
  ·exact z6K mp va vb E V p o w k s v0 v1 v2 v3 v4 v5 vn A c ns its (by simp;omega) (by simp;omega) (by simp;omega) (by simp;omega) (by simp;omega) K (.inl C) g hp a3 a2 G Y (z3G ⟨by omega,by omega,by omega⟩)
end
end Go.Proofs.YtpmjcbjdcjjplaaGreatDoor
