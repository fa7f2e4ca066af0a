/- Parts of a proof: E10X, E10Y, E10V, E10W, E10Z. -/
import Derived.Lib.AppendZeros
import Derived.Test.YtdjfpcmlffekkaaGreatDoorPackG2
import Derived.Test.YtdjfpcmlffekkaaGreatDoorPackG8
import Derived.Test.YtdjfpcmlffekkaaGreatDoorPackG10
import Derived.Test.YtdjfpcmlffekkaaGreatDoorPackG11
import Derived.Test.YtdjfpcmlffekkaaGreatDoorPackG27
import Derived.Test.YtdjfpcmlffekkaaGreatDoorPackG30
import Derived.Test.YtdjfpcmlffekkaaGreatDoorPackG31
import Derived.Test.YtdjfpcmlffekkaaGreatDoorPackG34
set_option maxHeartbeats 8000000
set_option maxRecDepth 100000
set_option linter.unusedVariables false
set_option linter.unusedSimpArgs false
namespace Go.Proofs.YtdjfpcmlffekkaaGreatDoor
section
open Go Go.RowKit
theorem zcY (w:World) (n:Nat) (i:TypeInfo) (z:Value) (hz6:z.cells.size= 6) (h0:n<=1000):World.ownsRow (w.drew.alloc (.cells (Builtin.zeroCells z.cells n ++ Builtin.zeroCells z.cells (grownCap w n 0 52 - n)) 52)) w.heap.size 52 6 (.slice (some ⟨w.heap.size,0,none⟩) 0 (grownCap w n 0 52)) 0 []:=by
 refine⟨rfl,.inr ⟨w.heap.size,_,_,rfl,Nat.le_refl _,heap_alloc_new w.drew _,Nat.zero_le _,grownCap_le_maxLen _ _ _ _ (by unfold maxLen;omega),?_,by simp⟩⟩;have h1:=grownCap_ge w n 0 52;rw[Array.size_append,size_zeroCells,size_zeroCells,hz6,← Nat.add_mul]
 congr 1
 omega
theorem zb8 {w:World} {base:Nat} {e:TypeId} {size:Nat} {v:Value} {n:Nat} {xs:List Value} (h:w.ownsRow base e size v n xs) {j:Nat} (hj:v.ownBlock= some j):base<=j:=by
 rcases h.2 with ⟨rfl,_⟩|⟨g,cap,cur,rfl,hg,_⟩
 ·cases hj
 ·have:g= j:=by simpa [Value.ownBlock] using hj
  omega
theorem z4y (w:World) (o:Obj):Below w.heap.size w (w.drew.alloc o):=(Below.refl w.heap.size w).drew.trans (zc w.drew o)
theorem grow0 (w:World):Calls Tryz.prog 184 #[.slice none 0 0,.int .i64 0] w fun e w'=>e= .returned (.slice none 0 0)/\w'= w:=by
 go_enter Tryz.func184,Tryz.ntmps184;go_wp2;go_ret;exact⟨rfl,rfl⟩
theorem growN (n:Nat) (h0:0 < n) (hn:n<=1000) (w:World):Calls Tryz.prog 184 #[.slice none 0 0,.int .i64 n] w fun e w'=>∃ v,e= .returned v/\w'.ownsRow w.heap.size 52 6 v 0 []/\Below w.heap.size w w':=by
 obtain⟨j0,N,g,A,C⟩:=zX z26;have Y:=I N;have a0:=I g;have a1:=I A;have a2:=I C;have K:Hid (∀ ty,(Builtin.append_ #[50,3] ty #[.slice none 0 0,.int .i64 n]).run Tryz.prog w= .ok (.slice (some ⟨w.heap.size,0,none⟩) n (grownCap w n 0 52)) (w.drew.alloc (.cells (Builtin.zeroCells (Value.agg #[.int .i64 0,.int .i64 0,.float .f64 0,.string ⟨#[]⟩,.slice none 0 0,.slice none 0 0]).cells n ++ Builtin.zeroCells (Value.agg #[.int .i64 0,.int .i64 0,.float .f64 0,.string ⟨#[]⟩,.slice none 0 0,.slice none 0 0]).cells (grownCap w n 0 52 - n)) 52))):=I fun ty=>Lib.run_append_nil_zeros w 50 3 ty 52 j0 _ .i64 .i64 Tryz.underlying50 Tryz.underlying3 N g n h0 (by rw[A];decide) (by omega) (by rw[C];omega);have G:=I (zcY w n j0 (Value.agg #[.int .i64 0,.int .i64 0,.float .f64 0,.string ⟨#[]⟩,.slice none 0 0,.slice none 0 0]) rfl hn);have F:=I (z4y w (.cells (Builtin.zeroCells (Value.agg #[.int .i64 0,.int .i64 0,.float .f64 0,.string ⟨#[]⟩,.slice none 0 0,.slice none 0 0]).cells n ++ Builtin.zeroCells (Value.agg #[.int .i64 0,.int .i64 0,.float .f64 0,.string ⟨#[]⟩,.slice none 0 0,.slice none 0 0]).cells (grownCap w n 0 52 - n)) 52));have X:(0:Int) <(n:Int):=by omega
 have O: ¬ ((n:Int) < 0):=by omega
 clear N g A C;generalize w.drew.alloc (.cells (Builtin.zeroCells (Value.agg #[.int .i64 0,.int .i64 0,.float .f64 0,.string ⟨#[]⟩,.slice none 0 0,.slice none 0 0]).cells n ++ Builtin.zeroCells (Value.agg #[.int .i64 0,.int .i64 0,.float .f64 0,.string ⟨#[]⟩,.slice none 0 0,.slice none 0 0]).cells (grownCap w n 0 52 - n)) 52)= W at*;generalize grownCap w n 0 52= cap at*;go_enter Tryz.func184,Tryz.ntmps184;go_wp2_with (at_builtin;(refine Lib.wpList_append_run _ rfl _ _ _ _ rfl _ _ rfl rfl _ _ (K.o _) ?_));go_ret;exact⟨_,rfl,G.o,F.o⟩
theorem z4S (hb:Nat) (A B:Option Addr) (la lb ca cb:Nat) (xa xb:List Value) (w:World) (hla:xa.length= la*6) (hlb:xb.length= lb*6)
  (hca:0 < la->∃ b ob,A= some ⟨b,ob,none⟩/\b < w.heap.size/\∀ j u,xa[j]?= some u->w.cell? ⟨b,ob+j,none⟩= some u) (hcb:0 < lb->∃ b ob,B= some ⟨b,ob,none⟩/\b < w.heap.size/\∀ j u,xb[j]?= some u->w.cell? ⟨b,ob+j,none⟩= some u)
  (h1a:∀ u∈xa,u.oneCell'= true) (h1b:∀ u∈xb,u.oneCell'= true) (e0:w.cell? ⟨hb,0,none⟩= some (.slice A la ca)) (e1:w.cell? ⟨hb,1,none⟩= some (.slice B lb cb)) (hlt:hb < w.heap.size) (hn:la+lb<=1000):
  Calls Tryz.prog 166 #[.slice (some ⟨hb,0,none⟩) 2 2] w fun e w'=>∃ v,e= .returned v/\w'.ownsRow w.heap.size 52 6 v (la+lb) (xa ++ xb)/\Below w.heap.size w w':=by
 have b7:=I hla;have b8:=I hlb;have b5:=I hca;have b6:=I hcb;have b2:=I h1a;have b3:=I h1b;have a0:=I e0;have a1:=I e1;have a3:=I hlt;have N:=I hn;have HG:Hid (Calls Tryz.prog 184 #[.slice none 0 0,.int .i64 ((la:Int)+ (lb:Int))] w fun e w'=>∃ v,e= .returned v/\w'.ownsRow w.heap.size 52 6 v 0 []/\Below w.heap.size w w'):=I (by
  rcases Nat.eq_zero_or_pos (la+lb) with h0|h0
  ·have e:((la:Int)+ (lb:Int))= 0:=by omega
   rw[e];exact(grow0 w).mono fun e w' h=>⟨_,h.1,by rw[h.2];exact⟨rfl,.inl ⟨rfl,rfl⟩⟩,by rw[h.2];exact Below.refl _ _⟩
  ·have:=growN (la+lb) h0 hn w
   rwa [Int.natCast_add] at this)
 obtain⟨j0,hi,a9,b0,b1⟩:=zX z26;have a2:=I hi;have a4:=I a9;have a5:=I b0;have a6:=I b1;clear hla hlb hca hcb h1a h1b e0 e1 hlt hi a9 b0 b1;go_enter Tryz.func166,Tryz.ntmps166;go_upto_region 3 with (fail);go_loopg [3,11] 2 (fun q x y u=>u= w/\((q= 2/\x= .int .i64 0/\y= .int .i64 0)\/(q= 1/\x= .int .i64 la/\y= .int .i64 1)\/(q= 0/\x= .int .i64 ((la:Int)+ (lb:Int))/\y= .int .i64 2)));case atStart=>exact⟨rfl,.inl ⟨rfl,rfl,rfl⟩⟩
 case round=>
  obtain⟨rfl,Y⟩:=hrel;rcases Y with ⟨rfl,rfl,rfl⟩|⟨rfl,rfl,rfl⟩|⟨rfl,rfl,rfl⟩
  ·have d0:=a0.o
   have c4: ¬ ((la:Int) < 0):=by omega
   have c9:=N.o;go_wp2;go_roundg 1;case measure=>omega
   case rel=>exact⟨rfl,.inr (.inl ⟨rfl,by go_num,by go_num⟩)⟩
  ·have d1:=a1.o
   have c4: ¬ ((la:Int)+ (lb:Int) < 0):=by omega
   have hw:wrap64 ((la:Int)+ (lb:Int))=(la:Int)+ (lb:Int):=by have:=N.o;unfold wrap64;omega
   have c6:IntKind.i64.wrap ((la:Int)+ (lb:Int))=(la:Int)+ (lb:Int):=by have:=N.o;rw[IntKind.wrap_i64];omega
   go_wp2;go_roundg 0;case measure=>omega
   case rel=>exact⟨rfl,.inr (.inr ⟨rfl,by first|rfl|rw[hw]|rw[c6],by go_num⟩)⟩
  ·obtain⟨w0,c5⟩:∃ w0:World,w0= wr:=⟨_,rfl⟩
   subst c5;go_upto_region 10 with (go_at_call 184;refine HG.o.mono ?_;rintro e z ⟨v,rfl,g,hb⟩;have b9:=I g;have b4:=I hb;clear g hb);go_upto_region 11 with (fail);go_loopg [6,27] 2 (fun q x y u=>Below w0.heap.size w0 u/\((q= 2/\y= .int .i64 0/\u.ownsRow w0.heap.size 52 6 x 0 [])\/(q= 1/\y= .int .i64 1/\u.ownsRow w0.heap.size 52 6 x la xa)\/(q= 0/\y= .int .i64 2/\u.ownsRow w0.heap.size 52 6 x (la+lb) (xa ++ xb))));case atStart=>exact⟨b4.o,.inl ⟨rfl,rfl,b9.o⟩⟩
   case round=>
    obtain⟨a7,Y⟩:=hrel;have C:=I a7;clear a7;rcases Y with ⟨rfl,rfl,G⟩|⟨rfl,rfl,G⟩|⟨rfl,rfl,G⟩
    ·have F:=I G
     have d0:=(C.o.cell (p:=⟨hb,0,none⟩) a3.o).trans a0.o;clear G;go_wp2_with (at_builtin;(refine z6H rfl _ _ 50 rfl w0.heap.size 52 j0 _ 6 88 Tryz.underlying50 a2.o a4.o a5.o a6.o rfl (by decide) _ 0 [] rfl F.o A la ca xa rfl b7.o (fun h0=>by obtain⟨b,ob,e,X,Y⟩:=b5.o h0;exact⟨_,e,fun j u hj=>by rw[Addr.add_mid];exact(C.o.cell (p:=⟨b,ob+j,none⟩) X).trans (Y j u hj)⟩) b2.o (by have:=N.o;unfold maxLen;omega) (by have:=N.o;omega) C.o.size ?_;intro v' u8 g hg;have O:=I g;have K:=I (C.o.grown hg C.o.size (fun j hj=>zb8 F.o hj));clear g hg));go_roundg 1;case measure=>omega
     case rel=>exact⟨K.o,.inr (.inl ⟨rfl,by go_num,by have:=O.o;rw[Nat.zero_add,List.nil_append] at this;exact this⟩)⟩
    ·have F:=I G
     have d1:=(C.o.cell (p:=⟨hb,1,none⟩) a3.o).trans a1.o;clear G;go_wp2_with (at_builtin;(refine z6H rfl _ _ 50 rfl w0.heap.size 52 j0 _ 6 88 Tryz.underlying50 a2.o a4.o a5.o a6.o rfl (by decide) _ la xa rfl F.o B lb cb xb rfl b8.o (fun h0=>by obtain⟨b,ob,e,X,Y⟩:=b6.o h0;exact⟨_,e,fun j u hj=>by rw[Addr.add_mid];exact(C.o.cell (p:=⟨b,ob+j,none⟩) X).trans (Y j u hj)⟩) b3.o (by have:=N.o;unfold maxLen;omega) (by have:=N.o;omega) C.o.size ?_;intro v' u8 g hg;have O:=I g;have K:=I (C.o.grown hg C.o.size (fun j hj=>zb8 F.o hj));clear g hg));go_roundg 0;case measure=>omega
     case rel=>exact⟨K.o,.inr (.inr ⟨rfl,by go_num,O.o⟩)⟩
    ·have F:=I G
     clear G;go_wp2;go_ret;exact⟨_,rfl,F.o,C.o⟩
def z6Q (r:Except Int Bool) (w:World) (e:Ending) (w':World):Prop:=((∃ b,r= .ok b/\e= .returned (.bool b))\/(∃ n,r= .error n/\e= panE n))/\Below w.heap.size w w'
structure TB (w W:World) (ca cb:List Value):Prop where
 wa:Whole 52 W w.heap.size ca
 wb:Whole 52 W (w.heap.size+1) cb
 bel:Below w.heap.size w W
theorem z3h (w:World) (ca cb:List Value):TB w ((w.alloc (.cells ⟨ca⟩ 52)).alloc (.cells ⟨cb⟩ 52)) ca cb:=by
 have h1:=Whole.new w ca 52;have h2:=zc w (.cells ⟨ca⟩ 52);have g:(w.alloc (.cells ⟨ca⟩ 52)).heap.size= w.heap.size+1:=by simp
 generalize w.alloc (.cells ⟨ca⟩ 52)= W1 at*;have h3:=Whole.new W1 cb 52;have h4:=zc W1 (.cells ⟨cb⟩ 52);rw[g] at h3;exact⟨h1.keep (h4.block _ (by omega)),h3,h2.trans (h4.mono (by omega))⟩
structure BB (w W:World) (ca cb:List Value):Prop where
 wa:Whole 52 W w.heap.size ca
 wb:Whole 52 W (w.heap.size+1) cb
 wr:Whole 52 W (w.heap.size+2) zV6
 bel:Below w.heap.size w W
theorem zci (w:World) (ca cb:List Value):BB w (((w.alloc (.cells ⟨ca⟩ 52)).alloc (.cells ⟨cb⟩ 52)).alloc (.cells zV6.toArray 52)) ca cb:=by
 have h1:=z3h w ca cb;have g:((w.alloc (.cells ⟨ca⟩ 52)).alloc (.cells ⟨cb⟩ 52)).heap.size= w.heap.size+2:=by simp
 generalize (w.alloc (.cells ⟨ca⟩ 52)).alloc (.cells ⟨cb⟩ 52)= W1 at*;have h3:=Whole.new W1 zV6 52;have h4:=zc W1 (.cells zV6.toArray 52);rw[g] at h3;exact⟨h1.wa.keep (h4.block _ (by omega)),h1.wb.keep (h4.block _ (by omega)),h3,h1.bel.trans (h4.mono (by omega))⟩
theorem BB.next {w W W':World} {ca cb:List Value} (h:BB w W ca cb) (hb:Below W.heap.size W W'):BB w W' ca cb:=
 ⟨h.wa.keep (hb.block _ h.wa.lt),h.wb.keep (hb.block _ h.wb.lt),h.wr.keep (hb.block _ h.wr.lt),(beT h.bel hb)⟩
theorem BB.fin {w W Z:World} {ca cb:List Value} (h:BB w W ca cb) (hx:But W Z (w.heap.size+2) (w.heap.size+2)):Below w.heap.size w Z:=h.bel.trans (hx.below (B:=w.heap.size) h.bel.size (by omega) (by omega))
theorem zeN (na nb:Int) (fa fb:Nat) (sa sb:ByteArray) (nsa nsb:List ByteArray) (ia ib:List VT) (ca cb:List Value) (w:World) (eq:Bool) (hv:ValAt w w.heap.size ca (.mk 3 na fa sa nsa ia)) (hv2:ValAt w w.heap.size cb (.mk 3 nb fb sb nsb ib)):
  Calls Tryz.prog 163 #[.bool eq,.agg ⟨ca⟩,.agg ⟨cb⟩] w fun e w'=>e= .returned (.bool (fLess fa fb ||(eq && fEql fa fb)))/\Below w.heap.size w w':=by
 have HL:=I (zay fa fb);have HQ:=I (z9d fa fb);generalize fLess fa fb= x at*;generalize fEql fa fb= y at*;have HV:=I hv;have b7:=I hv2;obtain⟨c6,via,rfl,a8,b3,a5,b4,b2,a7,hi⟩:=ValAt.inv hv;obtain⟨b1,C,a3,rfl,a9⟩:=b2;obtain⟨K,A,c,rfl,hA⟩:=hi;obtain⟨c7,c5,rfl,X,a1,G,a2,a0,N,a6⟩:=ValAt.inv hv2;obtain⟨Y,F,a4,rfl,b0⟩:=a0;obtain⟨O,B,c2,rfl,hB⟩:=a6;clear a8 b3 a5 b4 b1 a9 a7 K hA X a1 G a2 Y b0 N O hB hv hv2;go_enter Tryz.func163,Tryz.ntmps163;go_upto_region 1 with (fail);have g:=I (z3h w [.int .i64 3,.int .i64 na,.float .f64 fa,.string sa,.slice C nsa.length a3,.slice A ia.length c] [.int .i64 3,.int .i64 nb,.float .f64 fb,.string sb,.slice F nsb.length a4,.slice B ib.length c2]);generalize (w.alloc (.cells ⟨[.int .i64 3,.int .i64 na,.float .f64 fa,.string sa,.slice C nsa.length a3,.slice A ia.length c]⟩ 52)).alloc (.cells ⟨[.int .i64 3,.int .i64 nb,.float .f64 fb,.string sb,.slice F nsb.length a4,.slice B ib.length c2]⟩ 52)= W at*;have d0:W.cell? ⟨w.heap.size,0,none⟩= some (.int .i64 3):=g.o.wa.cells 0 rfl;have d2:W.cell? ⟨w.heap.size,2,none⟩= some (.float .f64 fa):=g.o.wa.cells 2 rfl;have d5:W.cell? ⟨w.heap.size+1,2,none⟩= some (.float .f64 fb):=g.o.wb.cells 2 rfl;cases x<;>cases eq<;>(
  go_wp2_with (first|(go_at_call 178;refine zd (HL.o _) ?_)|(go_at_call 176;refine zd (HQ.o _) ?_));go_ret;exact⟨rfl,g.o.bel⟩)
theorem zaO (na nb:Int) (fa fb:Nat) (sa sb:ByteArray) (nsa nsb:List ByteArray) (ia ib:List VT) (ca cb:List Value) (w:World) (r:Int) (eq:Bool) (k:Int) (hk:k= 2\/k= 4) (hv:ValAt w w.heap.size ca (.mk k na fa sa nsa ia)) (hv2:ValAt w w.heap.size cb (.mk k nb fb sb nsb ib)) (hord:ordV (.mk k na fa sa nsa ia) (.mk k nb fb sb nsb ib)= r):
  Calls Tryz.prog 163 #[.bool eq,.agg ⟨ca⟩,.agg ⟨cb⟩] w fun e w'=>e= .returned (.bool (decide (r < 0) ||(eq && (r ==0))))/\Below w.heap.size w w':=by
 have C:=I hord;clear hord;have HV:=I hv;have a8:=I hv2;obtain⟨c8,via,rfl,b2,b7,a9,b8,b6,b1,hi⟩:=ValAt.inv hv;obtain⟨b5,G,a5,rfl,b3⟩:=b6;obtain⟨O,A,c,rfl,hA⟩:=hi;obtain⟨c9,c7,rfl,a0,a3,N,a4,a2,X,b0⟩:=ValAt.inv hv2;obtain⟨a1,K,a6,rfl,b4⟩:=a2;obtain⟨Y,B,c2,rfl,hB⟩:=b0;clear b2 b7 a9 b8 b5 b3 b1 O hA a0 a3 N a4 a1 b4 X Y hB hv hv2;go_enter Tryz.func163,Tryz.ntmps163;go_upto_region 1 with (fail);have g:=I (z3h w [.int .i64 k,.int .i64 na,.float .f64 fa,.string sa,.slice G nsa.length a5,.slice A ia.length c] [.int .i64 k,.int .i64 nb,.float .f64 fb,.string sb,.slice K nsb.length a6,.slice B ib.length c2]);generalize (w.alloc (.cells ⟨[.int .i64 k,.int .i64 na,.float .f64 fa,.string sa,.slice G nsa.length a5,.slice A ia.length c]⟩ 52)).alloc (.cells ⟨[.int .i64 k,.int .i64 nb,.float .f64 fb,.string sb,.slice K nsb.length a6,.slice B ib.length c2]⟩ 52)= W at*;rcases hk with rfl|rfl<;>cases eq<;>cases hb:decide (r < 0)<;>(
  have d0:W.cell? ⟨w.heap.size,0,none⟩= some (.int .i64 _):=g.o.wa.cells 0 rfl;have F:=I (zc5 _ _ _ _ W ((HV.o.under g.o.bel).more g.o.bel.size) ((a8.o.under g.o.bel).more g.o.bel.size));rw[C.o] at F;go_upto_region 7 with (first|((with_reducible refine za tyK52 _ rfl ?_ g.o.wa.range rfl ?_ ?_);exact wA rfl;rfl)|((with_reducible refine za tyK52 _ rfl ?_ g.o.wb.range rfl ?_ ?_);exact wA rfl;rfl)|(go_at_call 124;refine zi F.o ?_;intro z a7));go_wp2;go_ret;exact⟨by first|rfl|(rw[hb];rfl)|(simp[hb];done),(beT g.o.bel a7.o)⟩)
theorem zeO (eq:Bool) (ka kb:Int) (na nb:Int) (fa fb:Nat) (sa sb:ByteArray) (nsa nsb:List ByteArray) (ia ib:List VT) (ca cb:List Value) (w:World) (h2:(ka ==2)= false) (h3:(ka ==3)= false) (h4:(ka ==4)= false) (hv:ValAt w w.heap.size ca (.mk ka na fa sa nsa ia)) (hv2:ValAt w w.heap.size cb (.mk kb nb fb sb nsb ib)):
  Calls Tryz.prog 163 #[.bool eq,.agg ⟨ca⟩,.agg ⟨cb⟩] w fun e w'=>e= panE 6/\Below w.heap.size w w':=by
 have HV:=I hv;have b5:=I hv2;obtain⟨c4,via,rfl,a8,b3,a5,b4,b2,a7,hi⟩:=ValAt.inv hv;obtain⟨b1,C,a3,rfl,a9⟩:=b2;obtain⟨K,A,c,rfl,hA⟩:=hi;obtain⟨c5,b9,rfl,X,a1,G,a2,a0,N,a6⟩:=ValAt.inv hv2;obtain⟨Y,F,a4,rfl,b0⟩:=a0;obtain⟨O,B,c2,rfl,hB⟩:=a6;clear a8 b3 a5 b4 b1 a9 a7 K hA X a1 G a2 Y b0 N O hB hv hv2;go_enter Tryz.func163,Tryz.ntmps163;go_upto_region 1 with (fail);have g:=I (z3h w [.int .i64 ka,.int .i64 na,.float .f64 fa,.string sa,.slice C nsa.length a3,.slice A ia.length c] [.int .i64 kb,.int .i64 nb,.float .f64 fb,.string sb,.slice F nsb.length a4,.slice B ib.length c2]);generalize (w.alloc (.cells ⟨[.int .i64 ka,.int .i64 na,.float .f64 fa,.string sa,.slice C nsa.length a3,.slice A ia.length c]⟩ 52)).alloc (.cells ⟨[.int .i64 kb,.int .i64 nb,.float .f64 fb,.string sb,.slice F nsb.length a4,.slice B ib.length c2]⟩ 52)= W at*;have d0:W.cell? ⟨w.heap.size,0,none⟩= some (.int .i64 ka):=g.o.wa.cells 0 rfl;go_wp2;exact⟨rfl,rfl,g.o.bel⟩
theorem z7p (eq:Bool) (k:Int) (na nb:Int) (fa fb:Nat) (sa sb:ByteArray) (nsa nsb:List ByteArray) (ia ib:List VT) (ca cb:List Value) (w:World) (hv:ValAt w w.heap.size ca (.mk k na fa sa nsa ia)) (hv2:ValAt w w.heap.size cb (.mk k nb fb sb nsb ib)):
  Calls Tryz.prog 163 #[.bool eq,.agg ⟨ca⟩,.agg ⟨cb⟩] w (z6Q (lessZ eq (.mk k na fa sa nsa ia) (.mk k nb fb sb nsb ib)) w):=by
 unfold lessZ;dsimp only;by_cases k3:k= 3
 ·subst k3
  rw[if_pos rfl];exact(zeN na nb fa fb sa sb nsa nsb ia ib ca cb w eq hv hv2).mono fun e w' h=>⟨.inl ⟨_,rfl,h.1⟩,h.2⟩
 rw[if_neg k3];by_cases k2:k= 2
 ·subst k2
  rw[if_pos (Or.inl rfl)];exact(zaO na nb fa fb sa sb nsa nsb ia ib ca cb w _ eq 2 (.inl rfl) hv hv2 rfl).mono fun e w' h=>⟨.inl ⟨_,rfl,h.1⟩,h.2⟩
 by_cases k4:k= 4
 ·subst k4
  rw[if_pos (Or.inr rfl)];exact(zaO na nb fa fb sa sb nsa nsb ia ib ca cb w _ eq 4 (.inr rfl) hv hv2 rfl).mono fun e w' h=>⟨.inl ⟨_,rfl,h.1⟩,h.2⟩
 rw[if_neg (by omega)];exact(zeO eq k k na nb fa fb sa sb nsa nsb ia ib ca cb w (by simpa using k2) (by simpa using k3) (by simpa using k4) hv hv2).mono fun e w' h=>⟨.inr ⟨_,rfl,h.1⟩,h.2⟩
end
section
open Go Go.RowKit
theorem z2D (P:Nat->Prop) (v:VT) (cs:List Value) (w:World) (hv:Kept P w cs v):Calls Tryz.prog 136 #[.agg ⟨cs⟩] w (UnPost P (szd v) w):=by
 have HV:=I hv;have C:=I (zp hv.val).1;have K:=I (zp hv.val).2;have a0:=I hv.val;clear hv;go_enter Tryz.func136,Tryz.ntmps136;go_upto_region 1 with (fail);have g:=I (z7W w cs);rw[z0v];generalize (w.alloc (.cells ⟨cs⟩ 52)).alloc (.cells zV6.toArray 52)= W at*;have N:=I (z1s v cs W ((a0.o.under g.o.bel).more g.o.bel.size));obtain⟨b,hb⟩:∃ b,(decide (cntV v 0<=200) && zw v 1)= b:=⟨_,rfl⟩;have HB:Hid (zx v= b):=I hb;rw[hb] at N;clear hb;cases b with
 |true=>
  have F:Hid (szd v= .ok v):=I (by unfold szd;rw[if_pos HB.o]);go_upto_region 2 with (first|((with_reducible refine za tyK52 _ rfl ?_ g.o.wa.range rfl C.o ?_);exact wA rfl)|(go_at_call 61;refine zi N.o ?_;intro z A)|(go_at_call 115;refine zd (zm 3 _) ?_));have O:=I (g.o.wa.keep (A.o.block _ g.o.wa.lt));have Y:=I (g.o.wb.keep (A.o.block _ g.o.wb.lt));have X:=I O.o.range;go_wp2_with (first|((with_reducible refine za tyK52 _ rfl ?_ X.o rfl C.o ?_);exact wA rfl)|((with_reducible refine zg 52 _ _ rfl rfl ?_ Y.o (cs) ?_ ?_ ?_ ?_ ?_ ?_);exact wA rfl;rw[C.o];rfl;rfl;rfl;rw[C.o];kernel_rfl;exact K.o;intro Z2 HX a1))
  (try simp only[Exit.inBlock,Exit.then])
  refine bodyPost_ret (zk rfl Tryz.underlying52 rfl _ _ (w.heap.size+1) (cs) (by rw[C.o];kernel_rfl) rfl HX.o.range) rfl ?_;have G:=(beT g.o.bel A.o).trans (a1.o.below (B:=w.heap.size) (Nat.le_trans g.o.bel.size A.o.size) (by omega) (by omega));exact .ok F.o rfl (HV.o.grow G) G
 |false=>
  have F:Hid (szd v= .error 3):=I (by unfold szd;rw[if_neg (by rw[HB.o];decide)]);go_wp2_with (first|((with_reducible refine za tyK52 _ rfl ?_ g.o.wa.range rfl C.o ?_);exact wA rfl)|(go_at_call 61;refine zi N.o ?_;intro z A)|(go_at_call 115;refine zd (zD 3 _) ?_));exact⟨rfl,.no F.o rfl (beT g.o.bel A.o)⟩
theorem z3E:∀ (KL:List zU) (j:Nat) (u:Value),(flat enc6 KL)[j]?= some u->∃ i k r,KL[i]?= some k/\j= i*6+r/\(enc6 k)[r]?= some u
 |[],j,u,h=>by simp[flat] at h
 |k::KL,j,u,h=>by
  have h1:flat enc6 (k::KL)= enc6 k ++ flat enc6 KL:=rfl
  rw[h1] at h
  by_cases hj:j < 6
  ·rw[List.getElem?_append_left (by rw[z0J];exact hj)] at h
   exact⟨0,k,j,rfl,by omega,h⟩
  ·rw[List.getElem?_append_right (by rw[z0J];omega),z0J] at h
   obtain⟨i,k',r,h2,h3,h4⟩:=z3E KL (j - 6) u h
   exact⟨i+1,k',r,by simpa using h2,by omega,h4⟩
theorem z3D:∀ (K L:List zU),flat enc6 (K ++ L)= flat enc6 K ++ flat enc6 L
 |[],L=>rfl
 |k::K,L=>by
  show enc6 k ++ flat enc6 (K ++ L)=(enc6 k ++ flat enc6 K) ++ flat enc6 L
  rw[z3D K L,List.append_assoc]
theorem z1Q:∀ (K:List zU),(flat enc6 K).length= K.length*6
 |[]=>rfl
 |k::K=>by
  show(enc6 k ++ flat enc6 K).length= _
  rw[List.length_append,z0J,z1Q K,List.length_cons];omega
theorem z1M {P:Nat->Prop} {w:World} {v:Value} {its:List VT} (h:SlAt (only w P) w.heap.size 6 (ValAt (only w P) w.heap.size) v its):∃ A c,v= .slice A its.length c/\∃ KL:List zU,KL.length= its.length/\
  (∀ (j:Nat) (k:zU) (x:VT),KL[j]?= some k->its[j]?= some x->Kept P w k.1 x)/\(0 < its.length->∃ b ob,A= some ⟨b,ob,none⟩/\b < w.heap.size/\∀ j u,(flat enc6 KL)[j]?= some u->w.cell? ⟨b,ob+j,none⟩= some u)/\(∀ u∈flat enc6 KL,u.oneCell'= true):=by
 obtain⟨_,A,c,rfl,K⟩:=h;refine⟨A,c,rfl,?_⟩;rcases Nat.eq_zero_or_pos its.length with h0|h0
 ·exact⟨[],by simp[h0],fun j k x hk=>by simp at hk,fun h1=>by omega,fun u hu=>by simp[flat] at hu⟩
 ·obtain⟨b,o,rfl,N,O⟩:=K h0
  have F:∀ i:Nat,∃ k:zU,∀ x,its[i]?= some x->(only w P).rangeAt b (o+i*6) k.1/\ValAt (only w P) w.heap.size k.1 x:=fun i=>by
   cases hx:its[i]? with
   |none=>exact⟨⟨[undef,undef,undef,undef,undef,undef],rfl⟩,fun x h=>by cases h⟩
   |some x=>
    obtain⟨ks,Y,hr,hv⟩:=O i x hx;exact⟨⟨ks,Y⟩,fun y hy=>by injection hy with hy;subst hy;exact⟨hr,hv⟩⟩
  obtain⟨f,G⟩:=Classical.skolem.1 F;have g:∀ (j:Nat) (k:zU),((List.range its.length).map f)[j]?= some k->j < its.length/\k= f j:=fun j k hk=>by
   rw[List.getElem?_map,Option.map_eq_some_iff] at hk;obtain⟨i,C,rfl⟩:=hk;obtain⟨h1,h2⟩:=List.getElem?_eq_some_iff.1 C;simp at h1 h2;subst h2;exact⟨h1,rfl⟩
  refine⟨(List.range its.length).map f,by simp,fun j k x hk hx=> ?_,fun _=>⟨b,o,rfl,N,fun j u hu=> ?_⟩,fun u hu=> ?_⟩
  ·obtain⟨_,rfl⟩:=g j k hk
   exact(G j x hx).2
  ·obtain⟨i,k,r,h1,rfl,h3⟩:=z3E _ j u hu
   obtain⟨C,rfl⟩:=g i k h1;have:=(G i its[i] (List.getElem?_eq_getElem C)).1 r u h3;rw[show o+i*6+r= o+ (i*6+r) by omega] at this;exact(zu.1 this).2
  ·obtain⟨j,X⟩:=List.mem_iff_getElem?.1 hu
   obtain⟨i,k,r,h1,rfl,h3⟩:=z3E _ j u X;obtain⟨C,rfl⟩:=g i k h1;exact ValAt.one (G i its[i] (List.getElem?_eq_getElem C)).2 u (List.mem_of_getElem? h3)
theorem z7N {Q:Nat->Prop} {w':World} {base:Nat} {v:Value} {KL:List zU} {its:List VT} (ho:OwnSl 52 6 enc6 w' base v KL) (hl:KL.length= its.length) (hm:its.length<=9223372036854775807) (hQ:∀ b,base<=b->Q b)
  (he:∀ (j:Nat) (k:zU) (x:VT),KL[j]?= some k->its[j]?= some x->Kept Q w' k.1 x):SlAt (only w' Q) w'.heap.size 6 (ValAt (only w' Q) w'.heap.size) v its:=by
 refine⟨hm,?_⟩;rcases ho.2 with ⟨rfl,h0⟩|⟨g,F,N,K,O,_,_⟩
 ·exact⟨none,0,by rw[← hl,h0],fun h1=>by omega⟩
 ·refine⟨some ⟨g,0,none⟩,F,by rw[K,hl],fun _=> ?_⟩
  have A:v.ownBlock= some g:=by rw[K];rfl
  refine⟨g,0,rfl,z0z ho A,fun i x hx=> ?_⟩;have G:=(List.getElem?_eq_some_iff.1 hx).1;have C:KL[i]?= some (KL[i]'(by rw[hl];exact G)):=List.getElem?_eq_getElem _;refine⟨_,(KL[i]'(by rw[hl];exact G)).2,fun j c hc=> ?_,he i _ x C hx⟩;refine zu.2 ⟨hQ g O,?_⟩;have:=World.ownsRow.cells ho A (i*6+j) c (z0Y z0J KL i _ C j c hc);rw[Addr.add_mid] at this;rw[show 0+i*6+j= 0+ (i*6+j) by omega];exact this
theorem z4c {n:Int}:wfI n↔(-9223372036854775808<=n/\n<=9223372036854775807):=by
 refine⟨fun h=> ?_,z0l⟩;unfold wfI Lit.wf at h;simp only[Bool.and_eq_true,decide_eq_true_eq] at h;exact h
theorem z5g {m n:Int} (h:okI m= .ok n): -9223372036854775808<=n/\n<=9223372036854775807:=by
 unfold okI at h;split at h
 ·injection h with h;subst h;assumption
 ·cases h
theorem zc8 {k a b n:Int} (ha: -9223372036854775808<=a/\a<=9223372036854775807) (h:z2p k a b= .ok n): -9223372036854775808<=n/\n<=9223372036854775807:=by
 unfold z2p at h;split at h
 ·exact z5g h
 split at h
 ·exact z5g h
 split at h
 ·exact z5g h
 split at h
 ·cases h
 split at h
 ·injection h with h;subst h;exact z92 ha
 ·exact z5g h
theorem z50 (op:BinOp) (a b:Nat):(Lit.float .f64 (fopV op a b)).wf= true:=by
 unfold fopV;split
 ·exact z3o (floatBits_wf (by assumption))
 ·decide
theorem z9g {k:Int} {a b n:Nat} (h:z1E k a b= .ok n):zo n= n/\(Lit.float .f64 n).wf= true:=by
 unfold z1E at h;split at h
 ·injection h with h;subst h;exact⟨z2u _ _ _,z50 _ _ _⟩
 split at h
 ·injection h with h;subst h;exact⟨z2u _ _ _,z50 _ _ _⟩
 split at h
 ·injection h with h;subst h;exact⟨z2u _ _ _,z50 _ _ _⟩
 split at h
 ·injection h with h;subst h;exact⟨z2u _ _ _,z50 _ _ _⟩
 ·cases h
theorem z7i:(Tryz.prog.info? 50).map (fun i=>(i.zero,i.size,i.bytes))= some (some (.slice none 0 0),1,24):=by kernel_rfl
theorem z8q {P:Program} (w:World) (t e:TypeId) (i:TypeInfo) (z:Value) (A B:Option Addr) (n m c d:Nat) (ht:P.underlying t= some (.slice e)) (hi:P.info? e= some i) (hz:i.zero= some z) (hzc:z.cells.size= 1) (hsz:i.size= 1):
  (Instr.buildSlice t 2 #[(0,.slice A n c),(1,.slice B m d)]).run P w= .ok (.slice (some ⟨w.heap.size,0,none⟩) 2 2) (w.alloc (.cells #[.slice A n c,.slice B m d] e)):=by
 have F:(sizeOf e).run P w= .ok 1 w:=by simp[sizeOf,typeInfo,hi,hsz]
 have g:(zeroValue e).run P w= .ok z w:=by simp[zeroValue,typeInfo,hi,hz]
 have C:∀ cells:Array Value,cells.size= 2*1->Instr.fill (fun i=>some (i*1,1)) cells [(0,.slice A n c),(1,.slice B m d)]= some #[.slice A n c,.slice B m d]:=fun cells hc=>zcR 1 [.slice A n c] [.slice B m d] cells rfl rfl hc;unfold Instr.buildSlice;simp only[Sem.run_bind,run_underlying ht,Result.andThen_ok,F];rw[if_neg (by omega),if_neg (by omega)];simp only[Sem.run_bind,Sem.run_pure,Result.andThen_ok,g];rw[C _ (by simp)];simp[newRow]
theorem z3A {P:Program} {o:Oper} {a:Act} {w:World} (t:TypeId) (x y:Operand) (ho:o.op= .buildSlice t 2 #[(0,x),(1,y)]) (e:TypeId) (i:TypeInfo) (z:Value) (A B:Option Addr) (n m c d:Nat) (hx:a.eval x= .slice A n c) (hy:a.eval y= .slice B m d)
  (ht:P.underlying t= some (.slice e)) (hi:P.info? e= some i) (hz:i.zero= some z) (hzc:z.cells.size= 1) (hsz:i.size= 1):
  (execOp a.eval o).run P w= .ok (.value (.slice (some ⟨w.heap.size,0,none⟩) 2 2)) (w.alloc (.cells #[.slice A n c,.slice B m d] e)):=by
 unfold execOp;have hr:=z8q (P:=P) w t e i z A B n m c d ht hi hz hzc hsz;simp only[ho,List.map_toArray,List.map_cons,List.map_nil,hx,hy,Sem.run_bind,Sem.run_pure,Result.andThen_ok,hr]
theorem z96 (P:Nat->Prop) (k:Int) (a b:VT) (ca cb:List Value) (w:World) (hv:Kept P w ca a) (hv2:Kept P w cb b) (hra:zx a= true) (hrb:zx b= true):
  Calls Tryz.prog 138 #[.int .i64 k,.agg ⟨ca⟩,.agg ⟨cb⟩] w (UnPost P (binV k a b) w):=by
 cases a with
 |mk ka na fa sa nsa ia=>
 cases b with
 |mk kb nb fb sb nsb ib=>
 obtain⟨r,C⟩:∃ r,binV k (.mk ka na fa sa nsa ia) (.mk kb nb fb sb nsb ib)= r:=⟨_,rfl⟩;rw[C];rw[binV] at C;have HV:=I hv;have n7:=I hv2;have i2:=I hv.val;have d6:=I hv2.val;have b6:=I hra;have b7:=I hrb;have n0:=I (zp hv.val).2;have n4:=I (zp hv2.val).2;obtain⟨o4,via,rfl,l9,l0,j5,m9,m7,l8,hi⟩:=ValAt.inv hv;obtain⟨m6,g1,g4,rfl,m2⟩:=m7;have j7:=hi;obtain⟨j9,A,c,rfl,hA⟩:=hi;obtain⟨o5,o3,rfl,k7,h6,g7,l1,k9,k0,j8⟩:=ValAt.inv hv2;obtain⟨k8,g2,g5,rfl,m4⟩:=k9;have g9:=j8;obtain⟨k1,B,c2,rfl,hB⟩:=j8;have i4:=I (And.intro l0 (And.intro j5 (And.intro h6 g7)));have h8:=I j7;have g6:=I g9;clear l9 l0 j5 m9 m6 m2 l8 j9 hA k7 h6 g7 l1 k8 m4 k0 k1 hB hv hv2 hra hrb j7 g9;go_enter Tryz.func138,Tryz.ntmps138;go_upto_region 1 with (fail);have g:=I (zci w [.int .i64 ka,.int .i64 na,.float .f64 fa,.string sa,.slice g1 nsa.length g4,.slice A ia.length c] [.int .i64 kb,.int .i64 nb,.float .f64 fb,.string sb,.slice g2 nsb.length g5,.slice B ib.length c2]);rw[z0v];generalize ((w.alloc (.cells ⟨[.int .i64 ka,.int .i64 na,.float .f64 fa,.string sa,.slice g1 nsa.length g4,.slice A ia.length c]⟩ 52)).alloc (.cells ⟨[.int .i64 kb,.int .i64 nb,.float .f64 fb,.string sb,.slice g2 nsb.length g5,.slice B ib.length c2]⟩ 52)).alloc (.cells zV6.toArray 52)= W at*;by_cases k19:k= 19
 ·subst k19
  rw[if_pos rfl] at C;by_cases h5:ka= 5
  ·subst h5
   by_cases h2:kb= 2
   ·subst h2
    rw[if_pos ⟨rfl,rfl⟩] at C;by_cases hn:0<=nb/\nb <(ia.length:Int)
    ·rw[if_pos hn] at C
     obtain⟨j,k2⟩:∃ j,nb.toNat= j:=⟨_,rfl⟩;have hj:j < ia.length:=by omega
     have j6:ia.getD j v0= ia[j]:=by simp[List.getD,List.getElem?_eq_getElem hj]
     rw[k2,j6] at C;have i9:Hid (nb=(j:Int)):=(I (by omega));clear hn k2 j6;have F:Hid (r= .ok ia[j]):=I C.symm;clear C;have d0:W.cell? ⟨w.heap.size,0,none⟩= some (.int .i64 5):=g.o.wa.cells 0 rfl;have c0:W.cell? ⟨w.heap.size+1,0,none⟩= some (.int .i64 2):=g.o.wb.cells 0 rfl;have i9:=i9.o;subst i9;have n1:W.cell? ⟨w.heap.size+1,1,none⟩= some (.int .i64 (j:Int)):=g.o.wb.cells 1 rfl;have n5:W.cell? ⟨w.heap.size,5,none⟩= some (.slice A ia.length c):=g.o.wa.cells 5 rfl;have o2:(j:Int) <(ia.length:Int):=by omega
     have o1:(0:Int)<=(j:Int):=by omega
     obtain⟨-,A2,c3,j4,hA⟩:=h8.o;simp only[Value.slice.injEq] at j4;obtain⟨rfl, -,rfl⟩:=j4;obtain⟨b,ob,rfl,j3,hc⟩:=hA (by omega);obtain⟨ks,k3,k4,k6⟩:=hc j _ (List.getElem?_eq_getElem hj);have b4:Hid (Kept P w ks ia[j]):=I k6;have f9:=I k3;have l6:Hid (W.rangeAt b (ob+j*6) ks):=I (zb (z0p k4 fun a v h=>(zu.1 h).2) g.o.bel j3);have d5:=I (zp b4.o.val).2;have l7:=I g.o.wr;clear hc k3 k4 k6 hA j3;go_wp2_with (first|(go_at_call 115;refine zd (zm 6 _) ?_)|(go_at_call 115;refine zd (zm 9 _) ?_)|((with_reducible refine za tyK52 _ rfl ?_ l6.o rfl f9.o ?_);exact wA rfl)|((with_reducible refine zg 52 _ _ rfl rfl ?_ l7.o (ks) ?_ ?_ ?_ ?_ ?_ ?_);exact wA rfl;rw[f9.o];rfl;rfl;rfl;rw[f9.o];kernel_rfl;exact d5.o;intro Z2 HX X))
     (try simp only[Exit.inBlock,Exit.then])
     refine bodyPost_ret (zk rfl Tryz.underlying52 rfl _ _ (w.heap.size+2) (ks) (by rw[f9.o];kernel_rfl) rfl HX.o.range) rfl ?_;have O:=BB.fin g.o X.o;exact .ok F.o rfl (b4.o.grow O) O
    ·rw[if_neg hn] at C
     by_cases h0:0<=nb
     ·have h1:decide (0<=nb)= true:=(decide_eq_true h0)
      have h2:decide (nb <(ia.length:Int))= false:=(decide_eq_false (by omega));have F:Hid (r= .error 9):=I C.symm;clear C;have d0:W.cell? ⟨w.heap.size,0,none⟩= some (.int .i64 5):=g.o.wa.cells 0 rfl;have c0:W.cell? ⟨w.heap.size+1,0,none⟩= some (.int .i64 2):=g.o.wb.cells 0 rfl;have n1:W.cell? ⟨w.heap.size+1,1,none⟩= some (.int .i64 nb):=g.o.wb.cells 1 rfl;have n5:W.cell? ⟨w.heap.size,5,none⟩= some (.slice A ia.length c):=g.o.wa.cells 5 rfl;go_wp2_with (first|(go_at_call 115;refine zd (zm 6 _) ?_)|(go_at_call 115;refine zd (zD 9 _) ?_));exact⟨rfl,.no F.o rfl g.o.bel⟩
     ·have h1:decide (0<=nb)= false:=(decide_eq_false h0)
      have F:Hid (r= .error 9):=I C.symm;clear C;have d0:W.cell? ⟨w.heap.size,0,none⟩= some (.int .i64 5):=g.o.wa.cells 0 rfl;have c0:W.cell? ⟨w.heap.size+1,0,none⟩= some (.int .i64 2):=g.o.wb.cells 0 rfl;have n1:W.cell? ⟨w.heap.size+1,1,none⟩= some (.int .i64 nb):=g.o.wb.cells 1 rfl;have n5:W.cell? ⟨w.heap.size,5,none⟩= some (.slice A ia.length c):=g.o.wa.cells 5 rfl;go_wp2_with (first|(go_at_call 115;refine zd (zm 6 _) ?_)|(go_at_call 115;refine zd (zD 9 _) ?_));exact⟨rfl,.no F.o rfl g.o.bel⟩
   ·rw[if_neg (by simp[h2])] at C
    have h1:(kb ==2)= false:=(by simpa using h2);have F:Hid (r= .error 6):=I C.symm;clear C;have d0:W.cell? ⟨w.heap.size,0,none⟩= some (.int .i64 5):=g.o.wa.cells 0 rfl;have c0:W.cell? ⟨w.heap.size+1,0,none⟩= some (.int .i64 kb):=g.o.wb.cells 0 rfl;go_wp2_with ((go_at_call 115;refine zd (zD 6 _) ?_));exact⟨rfl,.no F.o rfl g.o.bel⟩
  ·rw[if_neg (by simp[h5])] at C
   have h1:(ka ==5)= false:=(by simpa using h5);have F:Hid (r= .error 6):=I C.symm;clear C;have d0:W.cell? ⟨w.heap.size,0,none⟩= some (.int .i64 ka):=g.o.wa.cells 0 rfl;have c0:W.cell? ⟨w.heap.size+1,0,none⟩= some (.int .i64 kb):=g.o.wb.cells 0 rfl;go_wp2_with ((go_at_call 115;refine zd (zD 6 _) ?_));exact⟨rfl,.no F.o rfl g.o.bel⟩
 rw[if_neg k19] at C;have e19:(k ==19)= false:=by simpa using k19
 by_cases hkk:ka= kb
 ·subst hkk
  rw[if_neg (by simp)] at C;by_cases k10:k= 10
  ·subst k10
   rw[if_pos rfl] at C;have F:Hid (r= .ok (vB (eqV (.mk ka na fa sa nsa ia) (.mk ka nb fb sb nsb ib)))):=I C.symm;clear C;have d0:W.cell? ⟨w.heap.size,0,none⟩= some (.int .i64 ka):=g.o.wa.cells 0 rfl;have c0:W.cell? ⟨w.heap.size+1,0,none⟩= some (.int .i64 ka):=g.o.wb.cells 0 rfl;have c9:=I (zf5 _ _ _ _ W ((i2.o.under g.o.bel).more g.o.bel.size) ((d6.o.under g.o.bel).more g.o.bel.size));obtain⟨x,hx⟩:∃ x,eqV (.mk ka na fa sa nsa ia) (.mk ka nb fb sb nsb ib)= x:=⟨_,rfl⟩;rw[hx] at c9 F;clear hx;go_wp2_with (first|(go_at_call 115;refine zd (zm 6 _) ?_)|((with_reducible refine za tyK52 _ rfl ?_ g.o.wa.range rfl ?_ ?_);exact wA rfl;rfl)|((with_reducible refine za tyK52 _ rfl ?_ g.o.wb.range rfl ?_ ?_);exact wA rfl;rfl)|(go_at_call 162;refine c9.o.mono ?_;rintro e z ⟨rfl,K⟩;have a0:=I (g.o.next K);clear K)|(go_at_call 135;refine(z15 x _).mono ?_;rintro e z ⟨rfl,K⟩;have N:=I (BB.next a0.o K);have a3:=I N.o.wr;clear K)|((with_reducible refine zg 52 _ _ rfl rfl ?_ a3.o (tC x) ?_ ?_ ?_ ?_ ?_ ?_);exact wA rfl;rfl;rfl;rfl;kernel_rfl;exact z1Y x;intro Z2 HX X))
   (try simp only[Exit.inBlock,Exit.then])
   refine bodyPost_ret (zk rfl Tryz.underlying52 rfl _ _ (w.heap.size+2) (tC x) (by kernel_rfl) rfl HX.o.range) rfl ?_;have O:=BB.fin N.o X.o;exact .ok F.o rfl (z1o _ _ x) O
  rw[if_neg k10] at C;by_cases k11:k= 11
  ·subst k11
   rw[if_pos (Or.inl rfl)] at C;have F:Hid (r=(lessZ false (.mk ka na fa sa nsa ia) (.mk ka nb fb sb nsb ib)).map vB):=I C.symm;clear C;have d0:W.cell? ⟨w.heap.size,0,none⟩= some (.int .i64 ka):=g.o.wa.cells 0 rfl;have c0:W.cell? ⟨w.heap.size+1,0,none⟩= some (.int .i64 ka):=g.o.wb.cells 0 rfl;have c9:=I (z7p false ka na nb fa fb sa sb nsa nsb ia ib _ _ W ((i2.o.under g.o.bel).more g.o.bel.size) ((d6.o.under g.o.bel).more g.o.bel.size));generalize lessZ false (.mk ka na fa sa nsa ia) (.mk ka nb fb sb nsb ib)= res at*;go_wp2_with (first|(go_at_call 115;refine zd (zm 6 _) ?_)|((with_reducible refine za tyK52 _ rfl ?_ g.o.wa.range rfl ?_ ?_);exact wA rfl;rfl)|((with_reducible refine za tyK52 _ rfl ?_ g.o.wb.range rfl ?_ ?_);exact wA rfl;rfl)|(go_at_call 163;fail));refine c9.o.mono ?_;rintro e z ⟨⟨x,rfl,rfl⟩|⟨n,rfl,rfl⟩,K⟩
   ·have a0:=I (g.o.next K)
    have G:Hid (r= .ok (vB x)):=I F.o;clear K;go_wp2_with (first|(go_at_call 135;refine(z15 x _).mono ?_;rintro e z ⟨rfl,K⟩;have N:=I (BB.next a0.o K);have a3:=I N.o.wr;clear K)|((with_reducible refine zg 52 _ _ rfl rfl ?_ a3.o (tC x) ?_ ?_ ?_ ?_ ?_ ?_);exact wA rfl;rfl;rfl;rfl;kernel_rfl;exact z1Y x;intro Z2 HX X))
    (try simp only[Exit.inBlock,Exit.then])
    refine bodyPost_ret (zk rfl Tryz.underlying52 rfl _ _ (w.heap.size+2) (tC x) (by kernel_rfl) rfl HX.o.range) rfl ?_;have O:=BB.fin N.o X.o;exact .ok G.o rfl (z1o _ _ x) O
   ·have a0:=I (g.o.next K)
    have G:Hid (r= .error n):=I F.o;clear K;go_wp2;exact⟨rfl,.no G.o rfl a0.o.bel⟩
  by_cases k12:k= 12
  ·subst k12
   rw[if_pos (Or.inr rfl)] at C;have F:Hid (r=(lessZ true (.mk ka na fa sa nsa ia) (.mk ka nb fb sb nsb ib)).map vB):=I C.symm;clear C;have d0:W.cell? ⟨w.heap.size,0,none⟩= some (.int .i64 ka):=g.o.wa.cells 0 rfl;have c0:W.cell? ⟨w.heap.size+1,0,none⟩= some (.int .i64 ka):=g.o.wb.cells 0 rfl;have c9:=I (z7p true ka na nb fa fb sa sb nsa nsb ia ib _ _ W ((i2.o.under g.o.bel).more g.o.bel.size) ((d6.o.under g.o.bel).more g.o.bel.size));generalize lessZ true (.mk ka na fa sa nsa ia) (.mk ka nb fb sb nsb ib)= res at*;go_wp2_with (first|(go_at_call 115;refine zd (zm 6 _) ?_)|((with_reducible refine za tyK52 _ rfl ?_ g.o.wa.range rfl ?_ ?_);exact wA rfl;rfl)|((with_reducible refine za tyK52 _ rfl ?_ g.o.wb.range rfl ?_ ?_);exact wA rfl;rfl)|(go_at_call 163;fail));refine c9.o.mono ?_;rintro e z ⟨⟨x,rfl,rfl⟩|⟨n,rfl,rfl⟩,K⟩
   ·have a0:=I (g.o.next K)
    have G:Hid (r= .ok (vB x)):=I F.o;clear K;go_wp2_with (first|(go_at_call 135;refine(z15 x _).mono ?_;rintro e z ⟨rfl,K⟩;have N:=I (BB.next a0.o K);have a3:=I N.o.wr;clear K)|((with_reducible refine zg 52 _ _ rfl rfl ?_ a3.o (tC x) ?_ ?_ ?_ ?_ ?_ ?_);exact wA rfl;rfl;rfl;rfl;kernel_rfl;exact z1Y x;intro Z2 HX X))
    (try simp only[Exit.inBlock,Exit.then])
    refine bodyPost_ret (zk rfl Tryz.underlying52 rfl _ _ (w.heap.size+2) (tC x) (by kernel_rfl) rfl HX.o.range) rfl ?_;have O:=BB.fin N.o X.o;exact .ok G.o rfl (z1o _ _ x) O
   ·have a0:=I (g.o.next K)
    have G:Hid (r= .error n):=I F.o;clear K;go_wp2;exact⟨rfl,.no G.o rfl a0.o.bel⟩
  rw[if_neg (by omega)] at C;have e10:(k ==10)= false:=by simpa using k10
  have e11:(k ==11)= false:=by simpa using k11
  have e12:(k ==12)= false:=by simpa using k12
  by_cases h2:ka= 2
  ·subst h2
   rw[if_pos rfl] at C;have h19:(k ==19)= false:=e19;have h10:(k ==10)= false:=e10;have h11:(k ==11)= false:=e11;have h12:(k ==12)= false:=e12;have F:Hid (r=(z2p k na nb).map vI):=I C.symm;clear C;have d0:W.cell? ⟨w.heap.size,0,none⟩= some (.int .i64 2):=g.o.wa.cells 0 rfl;have c0:W.cell? ⟨w.heap.size+1,0,none⟩= some (.int .i64 2):=g.o.wb.cells 0 rfl;have n1:W.cell? ⟨w.heap.size+1,1,none⟩= some (.int .i64 nb):=g.o.wb.cells 1 rfl;have n2:W.cell? ⟨w.heap.size,1,none⟩= some (.int .i64 na):=g.o.wa.cells 1 rfl;have i5:=I (zc9 k na nb (z4c.1 i4.o.1) (z4c.1 i4.o.2.2.1) W);have g0:=I (fun n=>zc8 (k:=k) (a:=na) (b:=nb) (n:=n) (z4c.1 i4.o.1));generalize z2p k na nb= res at*;go_wp2_with (first|(go_at_call 115;refine zd (zm 6 _) ?_)|(go_at_call 164;fail));refine i5.o.mono ?_;rintro e z ⟨⟨x,rfl,rfl⟩|⟨n,rfl,rfl⟩,g3⟩
   ·rw[g3]
    clear g3 z;have G:Hid (r= .ok (vI x)):=I F.o;have i6:=I (z4c.2 (g0.o x rfl));go_wp2_with (first|(go_at_call 158;refine(z1r x _).mono ?_;rintro e z ⟨rfl,K⟩;have N:=I (BB.next g.o K);have a3:=I N.o.wr;clear K)|((with_reducible refine zg 52 _ _ rfl rfl ?_ a3.o (valC 2 x 0 ⟨#[]⟩) ?_ ?_ ?_ ?_ ?_ ?_);exact wA rfl;rfl;rfl;rfl;kernel_rfl;exact z02 _ _ _ _;intro Z2 HX X))
    (try simp only[Exit.inBlock,Exit.then])
    refine bodyPost_ret (zk rfl Tryz.underlying52 rfl _ _ (w.heap.size+2) (valC 2 x 0 ⟨#[]⟩) (by kernel_rfl) rfl HX.o.range) rfl ?_;have O:=BB.fin N.o X.o;exact .ok G.o rfl (z2d _ _ x i6.o) O
   ·rw[g3]
    clear g3 z;have G:Hid (r= .error n):=I F.o;go_wp2;exact⟨rfl,.no G.o rfl g.o.bel⟩
  rw[if_neg h2] at C;by_cases h3:ka= 3
  ·subst h3
   rw[if_pos rfl] at C;have h19:(k ==19)= false:=e19;have h10:(k ==10)= false:=e10;have h11:(k ==11)= false:=e11;have h12:(k ==12)= false:=e12;have F:Hid (r=(z1E k fa fb).map vF):=I C.symm;clear C;have d0:W.cell? ⟨w.heap.size,0,none⟩= some (.int .i64 3):=g.o.wa.cells 0 rfl;have c0:W.cell? ⟨w.heap.size+1,0,none⟩= some (.int .i64 3):=g.o.wb.cells 0 rfl;have n1:W.cell? ⟨w.heap.size+1,2,none⟩= some (.float .f64 fb):=g.o.wb.cells 2 rfl;have n2:W.cell? ⟨w.heap.size,2,none⟩= some (.float .f64 fa):=g.o.wa.cells 2 rfl;have i5:=I (z9i k fa fb W);have g0:=I (fun n=>z9g (k:=k) (a:=fa) (b:=fb) (n:=n));generalize z1E k fa fb= res at*;go_wp2_with (first|(go_at_call 115;refine zd (zm 6 _) ?_)|(go_at_call 165;fail));refine i5.o.mono ?_;rintro e z ⟨⟨x,rfl,rfl⟩|⟨n,rfl,rfl⟩,K⟩
   ·have a0:=I (g.o.next K)
    have G:Hid (r= .ok (vF (zo x))):=I (by rw[(g0.o x rfl).1];exact F.o);have i6:=I (g0.o x rfl).2;clear K;go_wp2_with (first|(go_at_call 155;refine(z7f x _).mono ?_;rintro e z ⟨rfl,K⟩;have N:=I (BB.next a0.o K);have a3:=I N.o.wr;clear K)|((with_reducible refine zg 52 _ _ rfl rfl ?_ a3.o (valC 3 0 (zo x) ⟨#[]⟩) ?_ ?_ ?_ ?_ ?_ ?_);exact wA rfl;rfl;rfl;rfl;kernel_rfl;exact z02 _ _ _ _;intro Z2 HX X))
    (try simp only[Exit.inBlock,Exit.then])
    refine bodyPost_ret (zk rfl Tryz.underlying52 rfl _ _ (w.heap.size+2) (valC 3 0 (zo x) ⟨#[]⟩) (by kernel_rfl) rfl HX.o.range) rfl ?_;have O:=BB.fin N.o X.o;exact .ok G.o rfl (z5M _ _ _ (z3o i6.o)) O
   ·have a0:=I (g.o.next K)
    have G:Hid (r= .error n):=I F.o;clear K;go_wp2;exact⟨rfl,.no G.o rfl a0.o.bel⟩
  rw[if_neg h3] at C;have e2:(ka ==2)= false:=by simpa using h2
  have e3:(ka ==3)= false:=by simpa using h3
  by_cases k5:k= 5
  ·subst k5
   by_cases h4:ka= 4
   ·subst h4
    rw[if_pos ⟨rfl,Or.inl rfl⟩] at C;have F:Hid (r= szd (.mk 4 0 0 (sa ++ sb) [] (ia ++ ib))):=I C.symm;clear C;have d0:W.cell? ⟨w.heap.size,0,none⟩= some (.int .i64 4):=g.o.wa.cells 0 rfl;have c0:W.cell? ⟨w.heap.size+1,0,none⟩= some (.int .i64 4):=g.o.wb.cells 0 rfl;have n3:W.cell? ⟨w.heap.size,3,none⟩= some (.string sa):=g.o.wa.cells 3 rfl;have n5:W.cell? ⟨w.heap.size,5,none⟩= some (.slice A ia.length c):=g.o.wa.cells 5 rfl;have m3:W.cell? ⟨w.heap.size+1,3,none⟩= some (.string sb):=g.o.wb.cells 3 rfl;have m5:W.cell? ⟨w.heap.size+1,5,none⟩= some (.slice B ib.length c2):=g.o.wb.cells 5 rfl;have b8:∀ W:World,(Op.stringOp .add sa sb).run Tryz.prog W= .ok (.string (sa ++ sb)) W:=fun W=>run_string_add_sum W _ _ (by have h1:=z0s b6.o;have h2:=z0s b7.o;simp;omega);have c8:∀ W:World,(binOp .add 9 (.string sa) (.string sb)).run Tryz.prog W= .ok (.string (sa ++ sb)) W:=fun W=>b8 W;have a4:=I g.o.wa.lt;have b5:=I g.o.wb.lt;obtain⟨A',cA,e7,c7,f1,e9,e5,f3⟩:=z1M h8.o;obtain⟨B',cB,e8,d7,f2,f0,e6,f4⟩:=z1M g6.o;simp only[Value.slice.injEq,true_and] at e7 e8;obtain⟨rfl,rfl⟩:=e7;obtain⟨rfl,rfl⟩:=e8;have Y:=I (And.intro f1 (And.intro e9 (And.intro e5 f3)));have a2:=I (And.intro f2 (And.intro f0 (And.intro e6 f4)));clear f1 e9 e5 f3 f2 f0 e6 f4;obtain⟨j0,hi,f6,f7,j2⟩:=zX z7i;have h9:=I hi;have i7:=I f6;have i8:=I f7;clear hi f6 f7 j2;go_upto_region 15 with ((go_at_call 115;refine zd (zm 6 _) ?_));refine z0I 14 [(0,true),(1,true),(2,true),(3,true),(4,true),(5,true),(6,true),(7,true),(8,true),(9,true),(10,true),(11,false),(12,false),(13,true)] (fun z=>Below W.heap.size W z) (by kernel_rfl) (by kernel_rfl) rfl (by intro c a d v w h;cases d<;>exact h) ?_;have hs:Below W.heap.size W W.drew:=(Below.refl _ _).drew;refine z7 97 (.pointer (some ⟨w.heap.size,0,none⟩)) rfl rfl rfl hs (fun z hz=>by go_simp) ?_;go_frame;refine z7 98 (.int .i64 4) rfl rfl rfl hs (fun z hz=>by have e4:=(hz.cell (p:=⟨w.heap.size,0,none⟩) a4.o).trans d0;clear hz;go_simp) ?_;go_frame;refine z7 99 (.pointer (some ⟨w.heap.size,3,none⟩)) rfl rfl rfl hs (fun z hz=>by go_simp) ?_;go_frame;refine z7 100 (.string sa) rfl rfl rfl hs (fun z hz=>by have e4:=(hz.cell (p:=⟨w.heap.size,3,none⟩) a4.o).trans n3;clear hz;go_simp) ?_;go_frame;refine z7 101 (.pointer (some ⟨w.heap.size+1,3,none⟩)) rfl rfl rfl hs (fun z hz=>by go_simp) ?_;go_frame;refine z7 102 (.string sb) rfl rfl rfl hs (fun z hz=>by have e4:=(hz.cell (p:=⟨w.heap.size+1,3,none⟩) b5.o).trans m3;clear hz;go_simp) ?_;go_frame;refine z7 103 (.string (sa ++ sb)) rfl rfl rfl hs (fun z hz=>by go_simp) ?_;go_frame;refine z7 104 (.pointer (some ⟨w.heap.size,5,none⟩)) rfl rfl rfl hs (fun z hz=>by go_simp) ?_;go_frame;refine z7 105 (.slice A ia.length c) rfl rfl rfl hs (fun z hz=>by have e4:=(hz.cell (p:=⟨w.heap.size,5,none⟩) a4.o).trans n5;clear hz;go_simp) ?_;go_frame;refine z7 106 (.pointer (some ⟨w.heap.size+1,5,none⟩)) rfl rfl rfl hs (fun z hz=>by go_simp) ?_;go_frame;refine z7 107 (.slice B ib.length c2) rfl rfl rfl hs (fun z hz=>by have e4:=(hz.cell (p:=⟨w.heap.size+1,5,none⟩) b5.o).trans m5;clear hz;go_simp) ?_;go_frame;have b2:Below W.heap.size W (W.drew.alloc (.cells #[.slice A ia.length c,.slice B ib.length c2] 50)):=hs.trans ((zc W.drew _).mono hs.size);refine z2M (some 108) (.slice (some ⟨W.drew.heap.size,0,none⟩) 2 2) (W.drew.alloc (.cells #[.slice A ia.length c,.slice B ib.length c2] 50)) _ rfl rfl (by exact wA rfl) (z3A 235 _ _ rfl 50 j0 _ A B ia.length ib.length c c2 rfl rfl Tryz.underlying235 h9.o i7.o rfl i8.o) b2 ?_;go_frame;have a8:=I b2;have e0:=zH W.drew #[.slice A ia.length c,.slice B ib.length c2] 50 0;have e1:=zH W.drew #[.slice A ia.length c,.slice B ib.length c2] 50 1;simp only[List.getElem?_toArray,List.getElem?_cons_zero,List.getElem?_cons_succ] at e0 e1;have HE:=I (And.intro e0 e1);have N:Hid (W.drew.heap.size <(W.drew.alloc (.cells #[.slice A ia.length c,.slice B ib.length c2] 50)).heap.size):=I (by simp);clear e0 e1 hs b2 d0 c0 n3 n5 m3 m5 b8 c8;generalize W.drew.alloc (.cells #[.slice A ia.length c,.slice B ib.length c2] 50)= V at*;generalize W.drew.heap.size= K at*;have a5:=I (beT g.o.bel a8.o);have d4:=I (z4S K A B ia.length ib.length c c2 (flat enc6 c7) (flat enc6 d7) V (by rw[z1Q,Y.o.1]) (by rw[z1Q,a2.o.1])
     (fun h0=>by obtain⟨b,ob,e,a6,hc⟩:=Y.o.2.2.1 h0;exact⟨b,ob,e,Nat.lt_of_lt_of_le a6 a5.o.size,fun j u hj=>(a5.o.cell (p:=⟨b,ob+j,none⟩) a6).trans (hc j u hj)⟩)
     (fun h0=>by obtain⟨b,ob,e,a6,hc⟩:=a2.o.2.2.1 h0;exact⟨b,ob,e,Nat.lt_of_lt_of_le a6 a5.o.size,fun j u hj=>(a5.o.cell (p:=⟨b,ob+j,none⟩) a6).trans (hc j u hj)⟩)
     Y.o.2.2.2 a2.o.2.2.2 HE.o.1 HE.o.2 N.o (by have h1:=(z0i b6.o).1;have h2:=(z0i b7.o).1;omega))
    refine zv 109 166 Tryz.func166 (by kernel_rfl) [.slice (some ⟨K,0,none⟩) 2 2] rfl rfl rfl rfl rfl ?_;refine d4.o.mono ?_;rintro e z ⟨v,rfl,b9,b0⟩;have b3:Below W.heap.size W z:=(beT a8.o b0);refine⟨_,rfl,b3,?_⟩;have c5:=I b3;have l5:=I b0;have ho:OwnSl 52 6 enc6 z V.heap.size v (c7 ++ d7):=by
     unfold OwnSl;rw[z3D,List.length_append,Y.o.1,a2.o.1];exact b9
    obtain⟨VA,vn,vc,rfl⟩:=z4G ho;have d9:w.heap.size+2 < W.heap.size:=g.o.wr.lt;have i3:=I (And.intro d9 c5.o.size);have b4:Hid (Kept (fun b=>(P b/\b < w.heap.size)\/W.heap.size<=b) z [.int .i64 4,.int .i64 0,.float .f64 0,.string (sa ++ sb),.slice none 0 0,.slice VA vn vc] (.mk 4 0 0 (sa ++ sb) [] (ia ++ ib))):=I (by
     have a9:Below w.heap.size w z:=(beT a5.o b0);have m0:=(z0i b6.o).1;have m1:=(z0i b7.o).1;have m8:=z0s b6.o;have b2:=z0s b7.o;refine ValAt.of (z0l (by omega)) (z0l (by omega)) (by decide) (by unfold maxLen;simp;omega) (SlAt.nil _ _ _ _) (by unfold maxLen;simp;omega) (z7N ho (by simp[Y.o.1,a2.o.1]) (by simp;omega) (fun b K=> .inr (Nat.le_trans a8.o.size K)) fun j k x hk hx=> ?_);rcases Nat.lt_or_ge j c7.length with hj|hj
     ·rw[List.getElem?_append_left hj] at hk
      rw[List.getElem?_append_left (by rw[← Y.o.1];exact hj)] at hx;exact(Y.o.2.1 j k x hk hx).to (fun b hp hlt=>⟨.inl ⟨hp,hlt⟩,a9.block b hlt⟩) a9.size
     ·rw[List.getElem?_append_right hj] at hk
      rw[List.getElem?_append_right (by rw[← Y.o.1];exact hj),← Y.o.1] at hx;exact(a2.o.2.1 _ k x hk hx).to (fun b hp hlt=>⟨.inl ⟨hp,hlt⟩,a9.block b hlt⟩) a9.size)
    have i1:=I (z2D (fun b=>(P b/\b < w.heap.size)\/W.heap.size<=b) _ _ z b4.o);have d3:Hid (BB w z [.int .i64 4,.int .i64 na,.float .f64 fa,.string sa,.slice g1 nsa.length g4,.slice A ia.length c] [.int .i64 4,.int .i64 nb,.float .f64 fb,.string sb,.slice g2 nsb.length g5,.slice B ib.length c2]):=I (g.o.next c5.o);have hs:=b3;clear b9 ho d9 b0 b3 g a8 HE d4 b4 N c5;go_frame;refine z7 110 (.agg ⟨[.int .i64 4,.int .i64 0,.float .f64 0,.string (sa ++ sb),.slice none 0 0,.slice VA vn vc]⟩) rfl rfl rfl hs (fun z hz=>by clear hz;go_simp) ?_;go_frame;refine z36 ?_;clear hs;generalize (.mk 4 0 0 (sa ++ sb) [] (ia ++ ib):VT)= vv at*;generalize sa ++ sb= ss at*;go_wp2_with (go_at_call 136;fail);refine i1.o.mono ?_;rintro e z2 (⟨u,d8,hr,rfl,hk,K⟩|⟨n,hr,rfl,K⟩)
    ·have N:=I (d3.o.next K)
     have a3:=I N.o.wr;have i0:=I hk;have c4:=I (zp hk.val).1;have d5:=I (zp hk.val).2;have G:Hid (r= .ok u):=I (F.o.trans hr);clear hk K hr;go_wp2_with (((with_reducible refine zg 52 _ _ rfl rfl ?_ a3.o (d8) ?_ ?_ ?_ ?_ ?_ ?_);exact wA rfl;rw[c4.o];rfl;rfl;rfl;rw[c4.o];kernel_rfl;exact d5.o;intro Z2 HX X))
     (try simp only[Exit.inBlock,Exit.then])
     refine bodyPost_ret (zk rfl Tryz.underlying52 rfl _ _ (w.heap.size+2) (d8) (by rw[c4.o];kernel_rfl) rfl HX.o.range) rfl ?_;have O:=BB.fin N.o X.o;exact .ok G.o rfl (i0.o.to (fun b hp hlt=>by have h1:=i3.o;rcases hp with (⟨h2,h3⟩|h2)|h2;exact⟨.inl h2,X.o.block b hlt (by omega) (by omega)⟩;exact⟨.inr (by omega),X.o.block b hlt (by omega) (by omega)⟩;exact⟨.inr (by omega),X.o.block b hlt (by omega) (by omega)⟩) X.o.size) O
    ·have a0:=I (d3.o.next K)
     have G:Hid (r= .error n):=I (F.o.trans hr);clear K hr;go_wp2;exact⟨rfl,.no G.o rfl a0.o.bel⟩
   by_cases h5:ka= 5
   ·subst h5
    rw[if_pos ⟨rfl,Or.inr rfl⟩] at C;have F:Hid (r= szd (.mk 5 0 0 (sa ++ sb) [] (ia ++ ib))):=I C.symm;clear C;have d0:W.cell? ⟨w.heap.size,0,none⟩= some (.int .i64 5):=g.o.wa.cells 0 rfl;have c0:W.cell? ⟨w.heap.size+1,0,none⟩= some (.int .i64 5):=g.o.wb.cells 0 rfl;have n3:W.cell? ⟨w.heap.size,3,none⟩= some (.string sa):=g.o.wa.cells 3 rfl;have n5:W.cell? ⟨w.heap.size,5,none⟩= some (.slice A ia.length c):=g.o.wa.cells 5 rfl;have m3:W.cell? ⟨w.heap.size+1,3,none⟩= some (.string sb):=g.o.wb.cells 3 rfl;have m5:W.cell? ⟨w.heap.size+1,5,none⟩= some (.slice B ib.length c2):=g.o.wb.cells 5 rfl;have b8:∀ W:World,(Op.stringOp .add sa sb).run Tryz.prog W= .ok (.string (sa ++ sb)) W:=fun W=>run_string_add_sum W _ _ (by have h1:=z0s b6.o;have h2:=z0s b7.o;simp;omega);have c8:∀ W:World,(binOp .add 9 (.string sa) (.string sb)).run Tryz.prog W= .ok (.string (sa ++ sb)) W:=fun W=>b8 W;have a4:=I g.o.wa.lt;have b5:=I g.o.wb.lt;obtain⟨A',cA,e7,c7,f1,e9,e5,f3⟩:=z1M h8.o;obtain⟨B',cB,e8,d7,f2,f0,e6,f4⟩:=z1M g6.o;simp only[Value.slice.injEq,true_and] at e7 e8;obtain⟨rfl,rfl⟩:=e7;obtain⟨rfl,rfl⟩:=e8;have Y:=I (And.intro f1 (And.intro e9 (And.intro e5 f3)));have a2:=I (And.intro f2 (And.intro f0 (And.intro e6 f4)));clear f1 e9 e5 f3 f2 f0 e6 f4;obtain⟨j0,hi,f6,f7,j2⟩:=zX z7i;have h9:=I hi;have i7:=I f6;have i8:=I f7;clear hi f6 f7 j2;go_upto_region 15 with ((go_at_call 115;refine zd (zm 6 _) ?_));refine z0I 14 [(0,true),(1,true),(2,true),(3,true),(4,true),(5,true),(6,true),(7,true),(8,true),(9,true),(10,true),(11,false),(12,false),(13,true)] (fun z=>Below W.heap.size W z) (by kernel_rfl) (by kernel_rfl) rfl (by intro c a d v w h;cases d<;>exact h) ?_;have hs:Below W.heap.size W W.drew:=(Below.refl _ _).drew;refine z7 97 (.pointer (some ⟨w.heap.size,0,none⟩)) rfl rfl rfl hs (fun z hz=>by go_simp) ?_;go_frame;refine z7 98 (.int .i64 5) rfl rfl rfl hs (fun z hz=>by have e4:=(hz.cell (p:=⟨w.heap.size,0,none⟩) a4.o).trans d0;clear hz;go_simp) ?_;go_frame;refine z7 99 (.pointer (some ⟨w.heap.size,3,none⟩)) rfl rfl rfl hs (fun z hz=>by go_simp) ?_;go_frame;refine z7 100 (.string sa) rfl rfl rfl hs (fun z hz=>by have e4:=(hz.cell (p:=⟨w.heap.size,3,none⟩) a4.o).trans n3;clear hz;go_simp) ?_;go_frame;refine z7 101 (.pointer (some ⟨w.heap.size+1,3,none⟩)) rfl rfl rfl hs (fun z hz=>by go_simp) ?_;go_frame;refine z7 102 (.string sb) rfl rfl rfl hs (fun z hz=>by have e4:=(hz.cell (p:=⟨w.heap.size+1,3,none⟩) b5.o).trans m3;clear hz;go_simp) ?_;go_frame;refine z7 103 (.string (sa ++ sb)) rfl rfl rfl hs (fun z hz=>by go_simp) ?_;go_frame;refine z7 104 (.pointer (some ⟨w.heap.size,5,none⟩)) rfl rfl rfl hs (fun z hz=>by go_simp) ?_;go_frame;refine z7 105 (.slice A ia.length c) rfl rfl rfl hs (fun z hz=>by have e4:=(hz.cell (p:=⟨w.heap.size,5,none⟩) a4.o).trans n5;clear hz;go_simp) ?_;go_frame;refine z7 106 (.pointer (some ⟨w.heap.size+1,5,none⟩)) rfl rfl rfl hs (fun z hz=>by go_simp) ?_;go_frame;refine z7 107 (.slice B ib.length c2) rfl rfl rfl hs (fun z hz=>by have e4:=(hz.cell (p:=⟨w.heap.size+1,5,none⟩) b5.o).trans m5;clear hz;go_simp) ?_;go_frame;have b2:Below W.heap.size W (W.drew.alloc (.cells #[.slice A ia.length c,.slice B ib.length c2] 50)):=hs.trans ((zc W.drew _).mono hs.size);refine z2M (some 108) (.slice (some ⟨W.drew.heap.size,0,none⟩) 2 2) (W.drew.alloc (.cells #[.slice A ia.length c,.slice B ib.length c2] 50)) _ rfl rfl (by exact wA rfl) (z3A 235 _ _ rfl 50 j0 _ A B ia.length ib.length c c2 rfl rfl Tryz.underlying235 h9.o i7.o rfl i8.o) b2 ?_;go_frame;have a8:=I b2;have e0:=zH W.drew #[.slice A ia.length c,.slice B ib.length c2] 50 0;have e1:=zH W.drew #[.slice A ia.length c,.slice B ib.length c2] 50 1;simp only[List.getElem?_toArray,List.getElem?_cons_zero,List.getElem?_cons_succ] at e0 e1;have HE:=I (And.intro e0 e1);have N:Hid (W.drew.heap.size <(W.drew.alloc (.cells #[.slice A ia.length c,.slice B ib.length c2] 50)).heap.size):=I (by simp);clear e0 e1 hs b2 d0 c0 n3 n5 m3 m5 b8 c8;generalize W.drew.alloc (.cells #[.slice A ia.length c,.slice B ib.length c2] 50)= V at*;generalize W.drew.heap.size= K at*;have a5:=I (beT g.o.bel a8.o);have d4:=I (z4S K A B ia.length ib.length c c2 (flat enc6 c7) (flat enc6 d7) V (by rw[z1Q,Y.o.1]) (by rw[z1Q,a2.o.1])
     (fun h0=>by obtain⟨b,ob,e,a6,hc⟩:=Y.o.2.2.1 h0;exact⟨b,ob,e,Nat.lt_of_lt_of_le a6 a5.o.size,fun j u hj=>(a5.o.cell (p:=⟨b,ob+j,none⟩) a6).trans (hc j u hj)⟩)
     (fun h0=>by obtain⟨b,ob,e,a6,hc⟩:=a2.o.2.2.1 h0;exact⟨b,ob,e,Nat.lt_of_lt_of_le a6 a5.o.size,fun j u hj=>(a5.o.cell (p:=⟨b,ob+j,none⟩) a6).trans (hc j u hj)⟩)
     Y.o.2.2.2 a2.o.2.2.2 HE.o.1 HE.o.2 N.o (by have h1:=(z0i b6.o).1;have h2:=(z0i b7.o).1;omega))
    refine zv 109 166 Tryz.func166 (by kernel_rfl) [.slice (some ⟨K,0,none⟩) 2 2] rfl rfl rfl rfl rfl ?_;refine d4.o.mono ?_;rintro e z ⟨v,rfl,b9,b0⟩;have b3:Below W.heap.size W z:=(beT a8.o b0);refine⟨_,rfl,b3,?_⟩;have c5:=I b3;have l5:=I b0;have ho:OwnSl 52 6 enc6 z V.heap.size v (c7 ++ d7):=by
     unfold OwnSl;rw[z3D,List.length_append,Y.o.1,a2.o.1];exact b9
    obtain⟨VA,vn,vc,rfl⟩:=z4G ho;have d9:w.heap.size+2 < W.heap.size:=g.o.wr.lt;have i3:=I (And.intro d9 c5.o.size);have b4:Hid (Kept (fun b=>(P b/\b < w.heap.size)\/W.heap.size<=b) z [.int .i64 5,.int .i64 0,.float .f64 0,.string (sa ++ sb),.slice none 0 0,.slice VA vn vc] (.mk 5 0 0 (sa ++ sb) [] (ia ++ ib))):=I (by
     have a9:Below w.heap.size w z:=(beT a5.o b0);have m0:=(z0i b6.o).1;have m1:=(z0i b7.o).1;have m8:=z0s b6.o;have b2:=z0s b7.o;refine ValAt.of (z0l (by omega)) (z0l (by omega)) (by decide) (by unfold maxLen;simp;omega) (SlAt.nil _ _ _ _) (by unfold maxLen;simp;omega) (z7N ho (by simp[Y.o.1,a2.o.1]) (by simp;omega) (fun b K=> .inr (Nat.le_trans a8.o.size K)) fun j k x hk hx=> ?_);rcases Nat.lt_or_ge j c7.length with hj|hj
     ·rw[List.getElem?_append_left hj] at hk
      rw[List.getElem?_append_left (by rw[← Y.o.1];exact hj)] at hx;exact(Y.o.2.1 j k x hk hx).to (fun b hp hlt=>⟨.inl ⟨hp,hlt⟩,a9.block b hlt⟩) a9.size
     ·rw[List.getElem?_append_right hj] at hk
      rw[List.getElem?_append_right (by rw[← Y.o.1];exact hj),← Y.o.1] at hx;exact(a2.o.2.1 _ k x hk hx).to (fun b hp hlt=>⟨.inl ⟨hp,hlt⟩,a9.block b hlt⟩) a9.size)
    have i1:=I (z2D (fun b=>(P b/\b < w.heap.size)\/W.heap.size<=b) _ _ z b4.o);have d3:Hid (BB w z [.int .i64 5,.int .i64 na,.float .f64 fa,.string sa,.slice g1 nsa.length g4,.slice A ia.length c] [.int .i64 5,.int .i64 nb,.float .f64 fb,.string sb,.slice g2 nsb.length g5,.slice B ib.length c2]):=I (g.o.next c5.o);have hs:=b3;clear b9 ho d9 b0 b3 g a8 HE d4 b4 N c5;go_frame;refine z7 110 (.agg ⟨[.int .i64 5,.int .i64 0,.float .f64 0,.string (sa ++ sb),.slice none 0 0,.slice VA vn vc]⟩) rfl rfl rfl hs (fun z hz=>by clear hz;go_simp) ?_;go_frame;refine z36 ?_;clear hs;generalize (.mk 5 0 0 (sa ++ sb) [] (ia ++ ib):VT)= vv at*;generalize sa ++ sb= ss at*;go_wp2_with (go_at_call 136;fail);refine i1.o.mono ?_;rintro e z2 (⟨u,d8,hr,rfl,hk,K⟩|⟨n,hr,rfl,K⟩)
    ·have N:=I (d3.o.next K)
     have a3:=I N.o.wr;have i0:=I hk;have c4:=I (zp hk.val).1;have d5:=I (zp hk.val).2;have G:Hid (r= .ok u):=I (F.o.trans hr);clear hk K hr;go_wp2_with (((with_reducible refine zg 52 _ _ rfl rfl ?_ a3.o (d8) ?_ ?_ ?_ ?_ ?_ ?_);exact wA rfl;rw[c4.o];rfl;rfl;rfl;rw[c4.o];kernel_rfl;exact d5.o;intro Z2 HX X))
     (try simp only[Exit.inBlock,Exit.then])
     refine bodyPost_ret (zk rfl Tryz.underlying52 rfl _ _ (w.heap.size+2) (d8) (by rw[c4.o];kernel_rfl) rfl HX.o.range) rfl ?_;have O:=BB.fin N.o X.o;exact .ok G.o rfl (i0.o.to (fun b hp hlt=>by have h1:=i3.o;rcases hp with (⟨h2,h3⟩|h2)|h2;exact⟨.inl h2,X.o.block b hlt (by omega) (by omega)⟩;exact⟨.inr (by omega),X.o.block b hlt (by omega) (by omega)⟩;exact⟨.inr (by omega),X.o.block b hlt (by omega) (by omega)⟩) X.o.size) O
    ·have a0:=I (d3.o.next K)
     have G:Hid (r= .error n):=I (F.o.trans hr);clear K hr;go_wp2;exact⟨rfl,.no G.o rfl a0.o.bel⟩
   rw[if_neg (by omega)] at C;have h2:(ka ==2)= false:=e2;have h3:(ka ==3)= false:=e3;have h4:(ka ==4)= false:=(by simpa using h4);have h5:(ka ==5)= false:=(by simpa using h5);have F:Hid (r= .error 6):=I C.symm;clear C;have d0:W.cell? ⟨w.heap.size,0,none⟩= some (.int .i64 ka):=g.o.wa.cells 0 rfl;have c0:W.cell? ⟨w.heap.size+1,0,none⟩= some (.int .i64 ka):=g.o.wb.cells 0 rfl;go_wp2_with (go_at_call 115;first|((with_reducible refine zd (zm 6 _) ?_))|((with_reducible refine zd (zD 6 _) ?_)));exact⟨rfl,.no F.o rfl g.o.bel⟩
  ·rw[if_neg (by omega)] at C
   have h19:(k ==19)= false:=e19;have h10:(k ==10)= false:=e10;have h11:(k ==11)= false:=e11;have h12:(k ==12)= false:=e12;have h2:(ka ==2)= false:=e2;have h3:(ka ==3)= false:=e3;have h5:(k ==5)= false:=(by simpa using k5);have F:Hid (r= .error 6):=I C.symm;clear C;have d0:W.cell? ⟨w.heap.size,0,none⟩= some (.int .i64 ka):=g.o.wa.cells 0 rfl;have c0:W.cell? ⟨w.heap.size+1,0,none⟩= some (.int .i64 ka):=g.o.wb.cells 0 rfl;go_wp2_with (go_at_call 115;first|((with_reducible refine zd (zm 6 _) ?_))|((with_reducible refine zd (zD 6 _) ?_)));exact⟨rfl,.no F.o rfl g.o.bel⟩
 ·rw[if_pos hkk] at C
  have h0:(k ==19)= false:=e19;have h1:(ka ==kb)= false:=(by simpa using hkk);have F:Hid (r= .error 6):=I C.symm;clear C;have d0:W.cell? ⟨w.heap.size,0,none⟩= some (.int .i64 ka):=g.o.wa.cells 0 rfl;have c0:W.cell? ⟨w.heap.size+1,0,none⟩= some (.int .i64 kb):=g.o.wb.cells 0 rfl;go_wp2_with ((go_at_call 115;refine zd (zD 6 _) ?_));exact⟨rfl,.no F.o rfl g.o.bel⟩
end
section
open Go Go.RowKit
structure EB (w W:World) (q:Nat):Prop where
 wb:Whole 52 W q zV6
 bel:Below w.heap.size w W
 ge:w.heap.size<=q
 lt:q < W.heap.size
theorem z1i {w W:World} (h:Below w.heap.size w W):EB w (W.alloc (.cells zV6.toArray 52)) W.heap.size:=⟨Whole.new W zV6 52,h.trans ((zc W _).mono h.size),h.size,by simp⟩
theorem EB.next {w W W':World} {q:Nat} (h:EB w W q) (hb:Below W.heap.size W W'):EB w W' q:=⟨h.wb.keep (hb.block _ h.lt),(beT h.bel hb),h.ge,Nat.lt_of_lt_of_le h.lt hb.size⟩
theorem EB.drew {w W:World} {q:Nat} (h:EB w W q):EB w W.drew q:=h.next (Below.refl _ _).drew
theorem EB.fin {w W Z:World} {q:Nat} (h:EB w W q) (hx:But W Z q q):Below w.heap.size w Z:=h.bel.trans (hx.below (B:=w.heap.size) h.bel.size h.ge h.ge)
theorem EB.kept {w W Z:World} {q:Nat} {cs:List Value} {v:VT} (he:EB w W q) (h:Kept (fun b=>q < b) W cs v) (hx:But W Z q q):Kept (fun b=>w.heap.size<=b) Z cs v:=
 h.to (fun b hp hlt=>⟨Nat.le_trans he.ge (Nat.le_of_lt hp),hx.block b hlt (Nat.ne_of_gt hp) (Nat.ne_of_gt hp)⟩) hx.size
theorem EB.keptN {w W:World} {q:Nat} (he:EB w W q) {z:World} {cs:List Value} {v:VT} (h:Kept (fun b=>W.heap.size<=b) z cs v):Kept (fun b=>q < b) z cs v:=h.to (fun b hp hlt=>⟨Nat.lt_of_lt_of_le he.lt hp,rfl⟩) (Nat.le_refl _)
theorem EvPost.ok {r:Res} {w:World} {e:Ending} {w':World} {v:VT} {cs:List Value} (hr:r= .ok v) (he:e= .returned (.agg ⟨cs⟩)) (hk:Kept (fun b=>w.heap.size<=b) w' cs v) (hw:zx v= true) (hb:Below w.heap.size w w'):EvPost r w e w':= .inl ⟨v,cs,hr,he,hk,hw,hb⟩
theorem EvPost.no {r:Res} {w:World} {e:Ending} {w':World} {n:Int} (hr:r= .error n) (he:e= panE n) (hb:Below w.heap.size w w'):EvPost r w e w':= .inr ⟨n,hr,he,hb⟩
theorem zaT (mp:Nat) (va vb:Value) (E:List VarT) (V:List VT) (s:ByteArray) (w:World) (hm:MacAt w mp va vb E V):Calls Tryz.prog 133 #[.pointer (some ⟨mp,0,none⟩),.string s] w (EvPost (nameR E V s) w):=by
 have HM:=I hm;have d9:=hm.vals.1;obtain⟨VB,vc,rfl,b5⟩:=hm.vals.2;have c8:=I b5;have a7:=z6g E s;clear hm b5;go_enter Tryz.func133,Tryz.ntmps133;go_upto_region 1 with (fail);rw[z0v];have A:=I (z1i (zc w (.cells #[.string s] 9)));have c0:=zH w #[.string s] 9 0;simp only[List.getElem?_toArray,List.getElem?_cons_zero] at c0;have a5:=I ((zc (w.alloc (.cells #[.string s] 9)) (.cells zV6.toArray 52)).cell (p:=⟨w.heap.size,0,none⟩) (by simp)|>.trans c0);have b4:(w.alloc (.cells #[.string s] 9)).heap.size= w.heap.size+1:=by simp
 rw[b4] at A;clear c0 b4;generalize (w.alloc (.cells #[.string s] 9)).alloc (.cells zV6.toArray 52)= W at*;have F:=I (HM.o.below A.o.bel);have a8:Hid (w.heap.size < W.heap.size):=I (by have:=A.o.lt;omega);have Y:=I (z9o E s va w.heap.size W F.o.vars F.o.few a5.o a8.o);have m0:W.cell? ⟨mp,0,none⟩= some va:=F.o.cells 0 _ rfl;obtain⟨ix,a0⟩:∃ ix,findV E s= ix:=⟨_,rfl⟩;have G:Hid (nameR E V s= if ix= -1 then .error 11 else match V[ix.toNat]? with|some v=> .ok (z0d v)|none=> .error 11):=I (by unfold nameR;rw[a0];rfl);rw[a0] at Y a7;generalize nameR E V s= res at*;clear a0;have d1:∀ (fn:Fn) (first cap:Array Value) (w:World),(Instr.makeFunc fn first cap).run Tryz.prog w= .ok (.func fn first cap) w:=fun _ _ _ _=>rfl;go_upto_region 2 with (go_at_call 147;refine zi Y.o ?_;intro z N);have c5:=I (F.o.below N.o);have C:=I (A.o.next N.o);clear m0 d1 Y F A a5 a8 N;have m1:z.cell? ⟨mp,1,none⟩= some (.slice VB V.length vc):=c5.o.cells 1 _ rfl;rcases a7 with rfl|⟨h0,h1⟩
 ·have g:Hid (res= .error 11):=I (by rw[G.o,if_pos rfl])
  clear m1;go_wp2_with ((go_at_call 115;refine zd (zD 11 _) ?_));exact⟨rfl,.no g.o rfl C.o.bel⟩
 ·obtain⟨j,rfl⟩:∃ j:Nat,ix=(j:Int):=⟨ix.toNat,by omega⟩
  have d8:(0:Int)<=(j:Int):=by omega
  have a1: ¬ ((j:Int)= -1):=by omega
  have a3:(j:Int).toNat= j:=by omega
  rw[if_neg a1,a3] at G;by_cases hj:j < V.length
  ·have d0:(j:Int) <(V.length:Int):=by omega
   obtain⟨v,hv⟩:∃ v,V[j]?= some v:=⟨_,List.getElem?_eq_getElem hj⟩;have g:Hid (res= .ok (z0d v)):=I (by rw[G.o,hv]);have a2:=HM.o.right v (List.mem_of_getElem? hv);have c7:Hid (zx (z0d v)= true):=I (by rw[z3u];exact a2);obtain⟨b,ob,rfl,c9,hc⟩:=c8.o (by omega);obtain⟨ks,b1,b2,b3⟩:=hc j v hv;have a6:=I b1;have K:=I C.o.bel;have b9:Hid (z.rangeAt b (ob+j*6) ks):=I (zb b2 K.o c9);have b8:=I (z63 v ks z (z6c v a2) ((b3.under K.o).more K.o.size));clear hc b1 b2 b3 a2 hv h0 h1 a1 a3;go_upto_region 3 with ((go_at_call 115;refine zd (zm 11 _) ?_));go_wp2_with (first|((with_reducible refine za tyK52 _ rfl ?_ b9.o rfl a6.o ?_);exact wA rfl)|(go_at_call 132;refine b8.o.mono ?_;rintro e z2 ⟨b0,rfl,hk,hb⟩;have O:=I (zp hk.val).1;have c6:=I (zp hk.val).2;have c4:=I (C.o.keptN hk);have X:=I (C.o.next hb);clear hk hb)|((with_reducible refine zg 52 _ _ rfl rfl ?_ X.o.wb (b0) ?_ ?_ ?_ ?_ ?_ ?_);exact wA rfl;rw[O.o];rfl;rfl;rfl;rw[O.o];kernel_rfl;exact c6.o;intro Z2 HX a9))
   (try simp only[Exit.inBlock,Exit.then])
   refine bodyPost_ret (zk rfl Tryz.underlying52 rfl _ _ (w.heap.size+1) (b0) (by rw[O.o];kernel_rfl) rfl HX.o.range) rfl ?_;exact .ok g.o rfl (X.o.kept c4.o a9.o) (c7.o) (X.o.fin a9.o)
  ·have d0: ¬ ((j:Int) <(V.length:Int)):=by omega
   have g:Hid (res= .error 11):=I (by rw[G.o,List.getElem?_eq_none (by omega)]);clear h0 h1 a1 a3;go_wp2_with ((go_at_call 115;refine zd (zD 11 _) ?_));exact⟨rfl,.no g.o rfl C.o.bel⟩
theorem z1S (mp p o:Nat) (r:Res) (w:World) (h:Calls Tryz.prog 116 #[.pointer (some ⟨mp,0,none⟩),.pointer (some ⟨p,o,none⟩)] w (EvPost r w)):Calls Tryz.prog 134 #[.pointer (some ⟨mp,0,none⟩),.pointer (some ⟨p,o,none⟩)] w (z6Q (boolR r) w):=by
 have N:=I h;clear h;go_enter Tryz.func134,Tryz.ntmps134;go_wp2_with (go_at_call 116;fail);refine N.o.mono ?_;rintro e z (⟨v,cs,rfl,rfl,G,hr,F⟩|⟨n,rfl,rfl,F⟩)
 ·have a0:=I (zp G.val).1
  have O:=I (zp G.val).2;have K:=I F;cases v with
  |mk kv n f sv ns its=>
  obtain⟨vn,vi,rfl, -, -, -, -, -, -, -⟩:=ValAt.inv G;have C:Hid (boolR (.ok (.mk kv n f sv ns its))= if kv= 1 then .ok (n ==1) else .error 6):=I (by rw[boolR]);clear G hr F N;generalize boolR (.ok (.mk kv n f sv ns its))= res at*;go_upto_region 2 with (first|((with_reducible refine z1v 52 _ _ rfl ?hwx z ?zz [.int .i64 kv,.int .i64 n,.float .f64 f,.string sv,vn,vi] ?hwld ?hz ?hx ?hy ?hi ?h1 ?_);(case hwld=>rfl);(case hx=>rfl);(case hy=>rfl);(case hwx=>(exact wA rfl));(case hz=>rfl);(case hi=>kernel_rfl);(case h1=>exact O.o);intro Z Y;have X:=I Y;clear Y));have d0:Z.cell? ⟨z.heap.size,0,none⟩= some (.int .i64 kv):=by have:=X.o.range 0 _ rfl;rwa [Nat.zero_add] at this
  have d1:Z.cell? ⟨z.heap.size,1,none⟩= some (.int .i64 n):=by have:=X.o.range 1 _ rfl;rwa [Nat.zero_add] at this
  have A:=I (beT K.o X.o.below);by_cases h1:kv= 1
  ·subst h1
   have g:Hid (res= .ok (n ==1)):=I (by rw[C.o,if_pos rfl]);go_wp2_with ((go_at_call 115;refine zd (zm 6 _) ?_));go_ret;exact⟨.inl ⟨_,g.o,rfl⟩,A.o⟩
  ·have a1:(kv ==1)= false:=by simpa using h1
   have g:Hid (res= .error 6):=I (by rw[C.o,if_neg h1]);clear h1;go_wp2_with ((go_at_call 115;refine zd (zD 6 _) ?_));exact⟨rfl,.inr ⟨_,g.o,rfl⟩,A.o⟩
 ·have K:=I F
  clear F N;go_wp2;exact⟨rfl,.inr ⟨_,rfl,rfl⟩,K.o⟩
theorem lz_if {a b c:Res}:lazyR 15 [a,b,c]= match boolR a with| .error e=> .error e| .ok x=>if x= true then b else c:=by
 unfold lazyR;rw[show ∀ l:List Res,(a::l).getD 0 (.error 0)= a from fun _=>rfl];cases boolR a with
 |error e=>rfl
 |ok x=>cases x<;>rfl
theorem zeQ {a b:Res}:lazyR 13 [a,b]= match boolR a with| .error e=> .error e| .ok x=>if x= true then(boolR b).map vB else .ok (vB false):=by
 unfold lazyR;rw[show ∀ l:List Res,(a::l).getD 0 (.error 0)= a from fun _=>rfl];cases boolR a with
 |error e=>rfl
 |ok x=>cases x<;>rfl
theorem lz_or {a b:Res}:lazyR 14 [a,b]= match boolR a with| .error e=> .error e| .ok x=>if x= true then .ok (vB true) else(boolR b).map vB:=by
 unfold lazyR;rw[show ∀ l:List Res,(a::l).getD 0 (.error 0)= a from fun _=>rfl];cases boolR a with
 |error e=>rfl
 |ok x=>cases x<;>rfl
def EvAt (mp b o:Nat) (W:World) (r:Res):Prop:=∀ u,Below W.heap.size W u->Calls Tryz.prog 116 #[.pointer (some ⟨mp,0,none⟩),.pointer (some ⟨b,o,none⟩)] u (EvPost r u)
theorem EvAt.later {mp b o:Nat} {W W':World} {r:Res} (h:EvAt mp b o W r) (hb:Below W.heap.size W W'):EvAt mp b o W' r:=fun u hu=>h u (beT hb hu)
section
variable (mp:Nat) (va vb:Value) (E:List VarT) (V:List VT) (p o:Nat) (w:World)
theorem zcJ (s:ByteArray) (v:VT) (v0 v1 v2 v3 v4 v5 vn vi:Value) (hr:w.rangeAt p o [.int .i64 1,.string s,v0,v1,v2,v3,v4,v5,vn,vi]) (hp:p < w.heap.size) (hvv:ValAt w w.heap.size [v0,v1,v2,v3,v4,v5] v) (hc:z0u v= true) (hm:MacAt w mp va vb E V):
  Calls Tryz.prog 116 #[.pointer (some ⟨mp,0,none⟩),.pointer (some ⟨p,o,none⟩)] w (EvPost (.ok (z0d v)) w):=by
 have HM:=I hm;have a2:=I hr;have HP:=I hp;have F:zx v= true:=by cases v;unfold z0u at hc;rw[Bool.and_eq_true] at hc;exact hc.2
 have a3:Hid (zx (z0d v)= true):=I (by rw[z3u];exact F);have a5:=I hvv;have Y:=I (z6c v F);clear hm hr hp hvv hc F;go_enter Tryz.func116,Tryz.ntmps116;go_upto_region 1 with (fail);rw[z0v];have g:=I (z1i (Below.refl w.heap.size w));generalize w.alloc (.cells zV6.toArray 52)= W at*;have a8:=I (HM.o.below g.o.bel);have G:Hid (W.rangeAt p o [.int .i64 1,.string s,v0,v1,v2,v3,v4,v5,vn,vi]):=I (zb a2.o g.o.bel HP.o);have d0:W.cell? ⟨p,o,none⟩= some (.int .i64 1):=G.o 0 _ rfl;have a4:Hid (W.rangeAt p (o+2) [v0,v1,v2,v3,v4,v5]):=I (z4W G.o (fun j x h=>match j,h with|0,h=>h|1,h=>h|2,h=>h|3,h=>h|4,h=>h|5,h=>h|j+6,h=>by simp at h));have X:=I (z63 v [v0,v1,v2,v3,v4,v5] W Y.o ((a5.o.under g.o.bel).more g.o.bel.size));go_upto_region 3 with (fail);clear d0;go_wp2_with (first|((with_reducible refine za tyK52 _ rfl ?_ a4.o rfl ?_ ?_);exact wA rfl;rfl)|(go_at_call 132;refine X.o.mono ?_;rintro e z2 ⟨N,rfl,O,hb⟩;have A:=I (zp O.val).1;have a1:=I (zp O.val).2;have a0:=I (g.o.keptN O);have C:=I (g.o.next hb);clear O hb)|((with_reducible refine zg 52 _ _ rfl rfl ?_ C.o.wb (N) ?_ ?_ ?_ ?_ ?_ ?_);exact wA rfl;rw[A.o];rfl;rfl;rfl;rw[A.o];kernel_rfl;exact a1.o;intro Z2 HX K))
 (try simp only[Exit.inBlock,Exit.then])
 refine bodyPost_ret (zk rfl Tryz.underlying52 rfl _ _ (w.heap.size) (N) (by rw[A.o];kernel_rfl) rfl HX.o.range) rfl ?_;exact .ok rfl rfl (C.o.kept a0.o K.o) (a3.o) (C.o.fin K.o)
theorem ze0 (s:ByteArray) (v0 v1 v2 v3 v4 v5 vn vi:Value) (hr:w.rangeAt p o [.int .i64 2,.string s,v0,v1,v2,v3,v4,v5,vn,vi]) (hp:p < w.heap.size) (hm:MacAt w mp va vb E V):
  Calls Tryz.prog 116 #[.pointer (some ⟨mp,0,none⟩),.pointer (some ⟨p,o,none⟩)] w (EvPost (nameR E V s) w):=by
 have HM:=I hm;have a2:=I hr;have HP:=I hp;clear hm hr hp;go_enter Tryz.func116,Tryz.ntmps116;go_upto_region 1 with (fail);rw[z0v];have g:=I (z1i (Below.refl w.heap.size w));generalize w.alloc (.cells zV6.toArray 52)= W at*;have a0:=I (HM.o.below g.o.bel);have F:Hid (W.rangeAt p o [.int .i64 2,.string s,v0,v1,v2,v3,v4,v5,vn,vi]):=I (zb a2.o g.o.bel HP.o);have d0:W.cell? ⟨p,o,none⟩= some (.int .i64 2):=F.o 0 _ rfl;have d1:W.cell? ⟨p,o+1,none⟩= some (.string s):=F.o 1 _ rfl;have HN:=I (zaT mp va vb E V s W a0.o);generalize nameR E V s= res at*;go_wp2_with (go_at_call 133;fail);refine HN.o.mono ?_;rintro e z (⟨v,K,rfl,rfl,X,O,N⟩|⟨n,rfl,rfl,N⟩)
 ·have A:=I (zp X.val).1
  have a1:=I (zp X.val).2;have Y:=I (g.o.keptN X);have C:=I (g.o.next N);have a3:=I O;clear X N O d0 d1;go_wp2_with (((with_reducible refine zg 52 _ _ rfl rfl ?_ C.o.wb (K) ?_ ?_ ?_ ?_ ?_ ?_);exact wA rfl;rw[A.o];rfl;rfl;rfl;rw[A.o];kernel_rfl;exact a1.o;intro Z2 HX G))
  (try simp only[Exit.inBlock,Exit.then])
  refine bodyPost_ret (zk rfl Tryz.underlying52 rfl _ _ (w.heap.size) (K) (by rw[A.o];kernel_rfl) rfl HX.o.range) rfl ?_;exact .ok rfl rfl (C.o.kept Y.o G.o) (a3.o) (C.o.fin G.o)
 ·have HB:=I N
  clear N d0 d1;go_wp2;exact⟨rfl,.no rfl rfl (g.o.next HB.o).bel⟩
theorem ev_if (s:ByteArray) (v0 v1 v2 v3 v4 v5 vn:Value) (b ob c:Nat) (ra rb rc res:Res) (hres:res= lazyR 15 [ra,rb,rc]) (hr:w.rangeAt p o [.int .i64 15,.string s,v0,v1,v2,v3,v4,v5,vn,.slice (some ⟨b,ob,none⟩) 3 c]) (hp:p < w.heap.size) (ha:EvAt mp b ob w ra) (hb:EvAt mp b (ob+10) w rb) (hc:EvAt mp b (ob+20) w rc) (hm:MacAt w mp va vb E V):
  Calls Tryz.prog 116 #[.pointer (some ⟨mp,0,none⟩),.pointer (some ⟨p,o,none⟩)] w (EvPost res w):=by
 have HM:=I hm;have b4:=I hr;have HP:=I hp;rw[lz_if] at hres;have C:=I hres;have HA:=I ha;have b2:=I hb;have b3:=I hc;clear hm hr hp ha hb hc hres;go_enter Tryz.func116,Tryz.ntmps116;go_upto_region 1 with (fail);rw[z0v];have A:=I (z1i (Below.refl w.heap.size w));generalize w.alloc (.cells zV6.toArray 52)= W at*;have c5:=I (HM.o.below A.o.bel);have a9:Hid (W.rangeAt p o [.int .i64 15,.string s,v0,v1,v2,v3,v4,v5,vn,.slice (some ⟨b,ob,none⟩) 3 c]):=I (zb b4.o A.o.bel HP.o);have d0:W.cell? ⟨p,o,none⟩= some (.int .i64 15):=a9.o 0 _ rfl;have d9:W.cell? ⟨p,o+9,none⟩= some (.slice (some ⟨b,ob,none⟩) 3 c):=a9.o 9 _ rfl;have b1:=I (z1S mp b ob ra W (HA.o W A.o.bel));have a7:=b2.o.later A.o.bel;have a8:=b3.o.later A.o.bel;have b6:=I a7;have b7:=I a8;clear a7 a8;go_wp2_with (go_at_call 134;fail);refine b1.o.mono ?_;rintro e z ⟨⟨x,hx,rfl⟩|⟨n,hx,rfl⟩,a0⟩
 ·have N:=I a0
  have c6:z.cell? ⟨p,o+9,none⟩= some (.slice (some ⟨b,ob,none⟩) 3 c):=(a0.cell (p:=⟨p,o+9,none⟩) (Nat.lt_of_lt_of_le HP.o A.o.bel.size)).trans d9;rw[hx] at C;clear a0 hx d0 d9;cases x with
  |true=>
   have F:Hid (res= rb):=I C.o;go_wp2_with (go_at_call 116;fail);refine(b6.o _ N.o).mono ?_;rintro e z2 (⟨v,Y,hres,rfl,hk,a1,hb⟩|⟨n,hres,rfl,hb⟩)
   ·have O:=I (A.o.next N.o)
    have G:=I (zp hk.val).1;have a4:=I (zp hk.val).2;have a3:=I (O.o.keptN hk);have K:=I (O.o.next hb);have a5:=I a1;have g:=I (F.o.trans hres);clear hk hb a1 hres;go_wp2_with (((with_reducible refine zg 52 _ _ rfl rfl ?_ K.o.wb (Y) ?_ ?_ ?_ ?_ ?_ ?_);exact wA rfl;rw[G.o];rfl;rfl;rfl;rw[G.o];kernel_rfl;exact a4.o;intro Z2 HX X))
    (try simp only[Exit.inBlock,Exit.then])
    refine bodyPost_ret (zk rfl Tryz.underlying52 rfl _ _ (w.heap.size) (Y) (by rw[G.o];kernel_rfl) rfl HX.o.range) rfl ?_;exact .ok g.o rfl (K.o.kept a3.o X.o) (a5.o) (K.o.fin X.o)
   ·have HB:=I hb
    have g:=I (F.o.trans hres);clear hb hres;go_wp2;exact⟨rfl,.no g.o rfl ((A.o.next N.o).next HB.o).bel⟩
  |false=>
   have F:Hid (res= rc):=I C.o;go_wp2_with (go_at_call 116;fail);refine(b7.o _ N.o).mono ?_;rintro e z2 (⟨v,Y,hres,rfl,hk,a1,hb⟩|⟨n,hres,rfl,hb⟩)
   ·have O:=I (A.o.next N.o)
    have G:=I (zp hk.val).1;have a4:=I (zp hk.val).2;have a3:=I (O.o.keptN hk);have K:=I (O.o.next hb);have a5:=I a1;have g:=I (F.o.trans hres);clear hk hb a1 hres;go_wp2_with (((with_reducible refine zg 52 _ _ rfl rfl ?_ K.o.wb (Y) ?_ ?_ ?_ ?_ ?_ ?_);exact wA rfl;rw[G.o];rfl;rfl;rfl;rw[G.o];kernel_rfl;exact a4.o;intro Z2 HX X))
    (try simp only[Exit.inBlock,Exit.then])
    refine bodyPost_ret (zk rfl Tryz.underlying52 rfl _ _ (w.heap.size) (Y) (by rw[G.o];kernel_rfl) rfl HX.o.range) rfl ?_;exact .ok g.o rfl (K.o.kept a3.o X.o) (a5.o) (K.o.fin X.o)
   ·have HB:=I hb
    have g:=I (F.o.trans hres);clear hb hres;go_wp2;exact⟨rfl,.no g.o rfl ((A.o.next N.o).next HB.o).bel⟩
 ·have HB:=I a0
  have g:Hid (res= .error n):=I (by rw[C.o,hx]);clear a0 hx d0 d9;go_wp2;exact⟨rfl,.no g.o rfl (A.o.next HB.o).bel⟩
theorem zeK (s:ByteArray) (v0 v1 v2 v3 v4 v5 vn:Value) (b ob c:Nat) (ra rb res:Res) (hres:res= lazyR 13 [ra,rb]) (hr:w.rangeAt p o [.int .i64 13,.string s,v0,v1,v2,v3,v4,v5,vn,.slice (some ⟨b,ob,none⟩) 2 c]) (hp:p < w.heap.size) (ha:EvAt mp b ob w ra) (hb:EvAt mp b (ob+10) w rb) (hm:MacAt w mp va vb E V):
  Calls Tryz.prog 116 #[.pointer (some ⟨mp,0,none⟩),.pointer (some ⟨p,o,none⟩)] w (EvPost res w):=by
 have HM:=I hm;have a7:=I hr;have HP:=I hp;rw[zeQ] at hres;have C:=I hres;have HA:=I ha;have a6:=I hb;clear hm hr hp ha hb hres;go_enter Tryz.func116,Tryz.ntmps116;go_upto_region 1 with (fail);rw[z0v];have F:=I (z1i (Below.refl w.heap.size w));generalize w.alloc (.cells zV6.toArray 52)= W at*;have b4:=I (HM.o.below F.o.bel);have a1:Hid (W.rangeAt p o [.int .i64 13,.string s,v0,v1,v2,v3,v4,v5,vn,.slice (some ⟨b,ob,none⟩) 2 c]):=I (zb a7.o F.o.bel HP.o);have d0:W.cell? ⟨p,o,none⟩= some (.int .i64 13):=a1.o 0 _ rfl;have d9:W.cell? ⟨p,o+9,none⟩= some (.slice (some ⟨b,ob,none⟩) 2 c):=a1.o 9 _ rfl;have a4:=I (z1S mp b ob ra W (HA.o W F.o.bel));have Y:=a6.o.later F.o.bel;have a9:=I Y;clear Y;go_wp2_with (go_at_call 134;fail);refine a4.o.mono ?_;rintro e z ⟨⟨x,hx,rfl⟩|⟨n,hx,rfl⟩,A⟩
 ·have a0:=I A
  have b5:z.cell? ⟨p,o+9,none⟩= some (.slice (some ⟨b,ob,none⟩) 2 c):=(A.cell (p:=⟨p,o+9,none⟩) (Nat.lt_of_lt_of_le HP.o F.o.bel.size)).trans d9;rw[hx] at C;have N:=I (F.o.next a0.o);clear A hx d0 d9;cases x with
  |true=>
   have G:Hid (res=(boolR rb).map vB):=I C.o;have a5:=I (z1S mp b (ob+10) rb z (a9.o z a0.o));go_wp2_with (go_at_call 134;fail);refine a5.o.mono ?_;rintro e z2 ⟨⟨y,hy,rfl⟩|⟨n,hy,rfl⟩,A⟩
   ·rw[hy] at G
    have g:Hid (res= .ok (vB y)):=I G.o;have O:=I (N.o.next A);clear A hy;go_wp2_with (first|(go_at_call 135;refine(z15 y _).mono ?_;rintro e z3 ⟨rfl,hb⟩;have K:=I (O.o.next hb);clear hb)|((with_reducible refine zg 52 _ _ rfl rfl ?_ K.o.wb (tC y) ?_ ?_ ?_ ?_ ?_ ?_);exact wA rfl;rfl;rfl;rfl;kernel_rfl;exact z1Y y;intro Z2 HX X))
    (try simp only[Exit.inBlock,Exit.then])
    refine bodyPost_ret (zk rfl Tryz.underlying52 rfl _ _ (w.heap.size) (tC y) (by kernel_rfl) rfl HX.o.range) rfl ?_;exact .ok g.o rfl (z1o _ _ y) (z1k y) (K.o.fin X.o)
   ·rw[hy] at G
    have g:Hid (res= .error n):=I G.o;have O:=I (N.o.next A);clear A hy;go_wp2;exact⟨rfl,.no g.o rfl O.o.bel⟩
  |false=>
   have g:Hid (res= .ok (vB false)):=I C.o;go_wp2_with (first|(go_at_call 135;refine(z15 false _).mono ?_;rintro e z3 ⟨rfl,hb⟩;have K:=I (N.o.next hb);clear hb)|((with_reducible refine zg 52 _ _ rfl rfl ?_ K.o.wb (tC false) ?_ ?_ ?_ ?_ ?_ ?_);exact wA rfl;rfl;rfl;rfl;kernel_rfl;exact z1Y false;intro Z2 HX X))
   (try simp only[Exit.inBlock,Exit.then])
   refine bodyPost_ret (zk rfl Tryz.underlying52 rfl _ _ (w.heap.size) (tC false) (by kernel_rfl) rfl HX.o.range) rfl ?_;exact .ok g.o rfl (z1o _ _ false) (z1k false) (K.o.fin X.o)
 ·have HB:=I A
  have g:Hid (res= .error n):=I (by rw[C.o,hx]);clear A hx d0 d9;go_wp2;exact⟨rfl,.no g.o rfl (F.o.next HB.o).bel⟩
theorem ev_or (s:ByteArray) (v0 v1 v2 v3 v4 v5 vn:Value) (b ob c:Nat) (ra rb res:Res) (hres:res= lazyR 14 [ra,rb]) (hr:w.rangeAt p o [.int .i64 14,.string s,v0,v1,v2,v3,v4,v5,vn,.slice (some ⟨b,ob,none⟩) 2 c]) (hp:p < w.heap.size) (ha:EvAt mp b ob w ra) (hb:EvAt mp b (ob+10) w rb) (hm:MacAt w mp va vb E V):
  Calls Tryz.prog 116 #[.pointer (some ⟨mp,0,none⟩),.pointer (some ⟨p,o,none⟩)] w (EvPost res w):=by
 have HM:=I hm;have a7:=I hr;have HP:=I hp;rw[lz_or] at hres;have C:=I hres;have HA:=I ha;have a6:=I hb;clear hm hr hp ha hb hres;go_enter Tryz.func116,Tryz.ntmps116;go_upto_region 1 with (fail);rw[z0v];have F:=I (z1i (Below.refl w.heap.size w));generalize w.alloc (.cells zV6.toArray 52)= W at*;have b4:=I (HM.o.below F.o.bel);have a1:Hid (W.rangeAt p o [.int .i64 14,.string s,v0,v1,v2,v3,v4,v5,vn,.slice (some ⟨b,ob,none⟩) 2 c]):=I (zb a7.o F.o.bel HP.o);have d0:W.cell? ⟨p,o,none⟩= some (.int .i64 14):=a1.o 0 _ rfl;have d9:W.cell? ⟨p,o+9,none⟩= some (.slice (some ⟨b,ob,none⟩) 2 c):=a1.o 9 _ rfl;have a4:=I (z1S mp b ob ra W (HA.o W F.o.bel));have Y:=a6.o.later F.o.bel;have a9:=I Y;clear Y;go_wp2_with (go_at_call 134;fail);refine a4.o.mono ?_;rintro e z ⟨⟨x,hx,rfl⟩|⟨n,hx,rfl⟩,A⟩
 ·have a0:=I A
  have b5:z.cell? ⟨p,o+9,none⟩= some (.slice (some ⟨b,ob,none⟩) 2 c):=(A.cell (p:=⟨p,o+9,none⟩) (Nat.lt_of_lt_of_le HP.o F.o.bel.size)).trans d9;rw[hx] at C;have N:=I (F.o.next a0.o);clear A hx d0 d9;cases x with
  |false=>
   have G:Hid (res=(boolR rb).map vB):=I C.o;have a5:=I (z1S mp b (ob+10) rb z (a9.o z a0.o));go_wp2_with (go_at_call 134;fail);refine a5.o.mono ?_;rintro e z2 ⟨⟨y,hy,rfl⟩|⟨n,hy,rfl⟩,A⟩
   ·rw[hy] at G
    have g:Hid (res= .ok (vB y)):=I G.o;have O:=I (N.o.next A);clear A hy;go_wp2_with (first|(go_at_call 135;refine(z15 y _).mono ?_;rintro e z3 ⟨rfl,hb⟩;have K:=I (O.o.next hb);clear hb)|((with_reducible refine zg 52 _ _ rfl rfl ?_ K.o.wb (tC y) ?_ ?_ ?_ ?_ ?_ ?_);exact wA rfl;rfl;rfl;rfl;kernel_rfl;exact z1Y y;intro Z2 HX X))
    (try simp only[Exit.inBlock,Exit.then])
    refine bodyPost_ret (zk rfl Tryz.underlying52 rfl _ _ (w.heap.size) (tC y) (by kernel_rfl) rfl HX.o.range) rfl ?_;exact .ok g.o rfl (z1o _ _ y) (z1k y) (K.o.fin X.o)
   ·rw[hy] at G
    have g:Hid (res= .error n):=I G.o;have O:=I (N.o.next A);clear A hy;go_wp2;exact⟨rfl,.no g.o rfl O.o.bel⟩
  |true=>
   have g:Hid (res= .ok (vB true)):=I C.o;go_wp2_with (first|(go_at_call 135;refine(z15 true _).mono ?_;rintro e z3 ⟨rfl,hb⟩;have K:=I (N.o.next hb);clear hb)|((with_reducible refine zg 52 _ _ rfl rfl ?_ K.o.wb (tC true) ?_ ?_ ?_ ?_ ?_ ?_);exact wA rfl;rfl;rfl;rfl;kernel_rfl;exact z1Y true;intro Z2 HX X))
   (try simp only[Exit.inBlock,Exit.then])
   refine bodyPost_ret (zk rfl Tryz.underlying52 rfl _ _ (w.heap.size) (tC true) (by kernel_rfl) rfl HX.o.range) rfl ?_;exact .ok g.o rfl (z1o _ _ true) (z1k true) (K.o.fin X.o)
 ·have HB:=I A
  have g:Hid (res= .error n):=I (by rw[C.o,hx]);clear A hx d0 d9;go_wp2;exact⟨rfl,.no g.o rfl (F.o.next HB.o).bel⟩
end
end
section
open Go Go.RowKit
theorem zbo {E:List VarT} {V:List VT} {its:List ET} {j:Nat} {y:ET} (h:its[j]?= some y):seqR (zY E V (its.drop j))= match evalE E V y with| .error e=> .error e| .ok v=>(seqR (zY E V (its.drop (j+1)))).map (v:: ·):=by
 rw[z4z h,zY];cases evalE E V y with
 |error e=>rfl
 |ok v=>
  rw[seqR];all_goals cases seqR (zY E V (its.drop (j+1)))<;>rfl
theorem z8k (r:Except Int (List VT)) (vs:List VT) (v:VT):(r.map (v:: ·)).map (vs ++ ·)= r.map ((vs ++ [v]) ++ ·):=by
 cases r with
 |error e=>rfl
 |ok l=>show Except.ok (vs ++ (v::l))= Except.ok ((vs ++ [v]) ++ l);simp
theorem z4I:∀ (l:List ET),l.length<=szEL l
 |[]=>by simp
 |a::l=>by
  have:=z4I l
  have:=zeo a
  rw[szEL,List.length_cons];omega
theorem z4J:∀ {l:List ET} {x:ET},x∈l->szE x<=szEL l
 |a::l,x,hx=>by
  rw[szEL]
  rcases List.mem_cons.1 hx with rfl|hx
  ·omega
  ·have:=z4J hx;omega
theorem z2Z {E:List VarT} {V:List VT} {k:Int} {s:ByteArray} {v:VT} {ns:List ByteArray} {its:List ET} (h: ¬ k= 1/\¬ k= 2/\¬ (k= 13\/k= 14\/k= 15)):evalE E V (.mk k s v ns its)= match seqR (zY E V its) with| .error e=> .error e| .ok l=>combR k s ns l:=by
 rw[evalE,if_neg h.1,if_neg h.2.1,if_neg h.2.2];rfl
theorem z9A {vs:List VT} {v:VT} (h:∀ z∈vs,zx z= true) (hv:zx v= true):∀ z∈vs ++ [v],zx z= true:=fun z hz=>by
 rcases List.mem_append.1 hz with h1|h1
 ·exact h z h1
 ·have:z= v:=by simpa using h1
  rw[this];exact hv
theorem z0S {α:Type} {T:TypeId} {k base:Nat} {enc:α->List Value} {w:World} {v:Value} {l:List α} (h:OwnSl T k enc w base v l):∃ A c,v= .slice A l.length c:=by
 rcases h.2 with ⟨rfl,h0⟩|⟨g,cap,cur,rfl,_⟩
 ·exact⟨none,0,by rw[h0]⟩
 ·exact⟨_,_,rfl⟩
section
variable (mp:Nat) (va vb:Value) (E:List VarT) (V:List VT) (p o:Nat) (w:World)
theorem z5J (k:Int) (s:ByteArray) (v0 v1 v2 v3 v4 v5 vn:Value) (A:Option Addr) (c:Nat) (ns:List ByteArray) (its:List ET) (e1:(k ==1)= false) (e2:(k ==2)= false) (e15:(k ==15)= false) (e13:(k ==13)= false) (e14:(k ==14)= false)
  (hlen:its.length<=199) (hkl:(k= 16\/k= 17)\/(¬ k= 16/\¬ k= 17/\(its.length= 1\/its.length= 2)))
  (hr:w.rangeAt p o [.int .i64 k,.string s,v0,v1,v2,v3,v4,v5,vn,.slice A its.length c]) (hp:p < w.heap.size) (hns:SlAt w w.heap.size 1 StrR vn ns) (hnl:ns.length<=1000)
  (hA:0 < its.length->∃ b ob,A= some ⟨b,ob,none⟩/\∀ j x,its[j]?= some x->EvAt mp b (ob+j*10) w (evalE E V x)) (hm:MacAt w mp va vb E V) {res:Res}
  (hres:res= match seqR (zY E V its) with| .error e=> .error e| .ok l=>combR k s ns l):
  Calls Tryz.prog 116 #[.pointer (some ⟨mp,0,none⟩),.pointer (some ⟨p,o,none⟩)] w (EvPost res w):=by
 have HM:=I hm;have l7:=I hr;have HP:=I hp;have f5:=I hres;have i4:=I hns;have l4:=I hnl;have HA:=I hA;have b4:=I hlen;have l2:=I hkl;clear hm hr hp hns hnl hA hlen hkl hres;go_enter Tryz.func116,Tryz.ntmps116;go_upto_region 1 with (fail);rw[z0v];have X:=I (z1i (Below.refl w.heap.size w));generalize w.alloc (.cells zV6.toArray 52)= W at*;have n3:=I (HM.o.below X.o.bel);have b6:Hid (W.rangeAt p o [.int .i64 k,.string s,v0,v1,v2,v3,v4,v5,vn,.slice A its.length c]):=I (zb l7.o X.o.bel HP.o);have d0:W.cell? ⟨p,o,none⟩= some (.int .i64 k):=b6.o 0 _ rfl;have d9:W.cell? ⟨p,o+9,none⟩= some (.slice A its.length c):=b6.o 9 _ rfl;have c7:Hid (p < W.heap.size):=I (Nat.lt_of_lt_of_le HP.o X.o.bel.size);obtain⟨j0,hi,k2,k3,k4⟩:=zX z26;have h8:=I hi;have i9:=I k2;have j1:=I k3;have m3:=I k4;clear hi k2 k3 k4;go_upto_region 16 with (fail);clear d0 d9;go_loopg [5,92] its.length (fun q x y u=>∃ (j:Nat) (vs:List VT) (KL:List zU),j+q= its.length/\y= .int .i64 j/\vs.length= j/\seqR (zY E V its)=(seqR (zY E V (its.drop j))).map (vs ++ ·)/\(∀ z∈vs,zx z= true)/\RowInv 52 W u x vs KL);case atStart=>exact⟨0,[],[],by omega,rfl,rfl,by rw[List.drop_zero];cases seqR (zY E V its)<;>rfl,(fun z hz=>by cases hz),RowInv.start _ _⟩
 case round=>
  obtain⟨j,vs,KL,hj,rfl,m6,g0,b5,hI⟩:=hrel;have HI:=I hI;have d2:=I g0;have c8:=I b5;have b1:=I m6;have a6:=I (X.o.next HI.o.bel);obtain⟨UA,uc,rfl⟩:=z0S hI.own;have c5:=I hI.len;clear hI g0 b5;have d0:wr.cell? ⟨p,o,none⟩= some (.int .i64 k):=(HI.o.bel.cell (p:=⟨p,o,none⟩) c7.o).trans (b6.o 0 _ rfl);have d9:wr.cell? ⟨p,o+9,none⟩= some (.slice A its.length c):=(HI.o.bel.cell (p:=⟨p,o+9,none⟩) c7.o).trans (b6.o 9 _ rfl);cases gk with
  |zero=>
   obtain rfl:j= its.length:=by omega
   have n6: ¬ ((its.length:Int) <(its.length:Int)):=by omega
   have f2:Hid (res= combR k s ns vs):=I (by
    have h1:=d2.o;rw[List.drop_length,zY,seqR] at h1;have h2:seqR (zY E V its)= .ok vs:=by rw[h1];show Except.ok (vs ++ [])= _;rw[List.append_nil]
    rw[f5.o,h2])
   have d3:Hid (vs.length<=maxLen):=I (by have h1:=b1.o;have h2:=b4.o;unfold maxLen;omega);have l3:=l2.o;rcases l3 with (j3|j4)|⟨e3,e5,j6⟩
   ·subst j3
    have g4:Hid (Kept (fun b=>W.heap.size<=b) wr [.int .i64 5,.int .i64 0,.float .f64 0,.string ⟨#[]⟩,.slice none 0 0,.slice UA KL.length uc] (.mk 5 0 0 ⟨#[]⟩ [] vs)):=I (ValAt.of (z0l (by omega)) (z0l (by omega)) (by decide) (by decide) (SlAt.nil _ _ _ _) d3.o (HI.o.row d3.o (Nat.le_refl _) (fun _ _ _=>rfl) (Nat.le_refl _)));have g5:=I (z2D (fun b=>W.heap.size<=b) _ _ wr g4.o);have N:Hid (res= szd (.mk 5 0 0 ⟨#[]⟩ [] vs)):=I (by rw[f2.o];unfold combR;rw[if_pos rfl]);clear d9;go_wp2_with (go_at_call 136;fail);refine g5.o.mono ?_;rintro e z2 (⟨u,C,hr,rfl,hk,O⟩|⟨n,hr,rfl,O⟩)
    ·have K:=I (a6.o.next O)
     have a7:Hid (Kept (fun b=>w.heap.size < b) z2 C u):=I (hk.to (fun b hp b3=>⟨by have h1:=X.o.lt;have h2:=HI.o.bel.size;rcases hp with h|h<;>omega,rfl⟩) (Nat.le_refl _));have G:=I (zp hk.val).1;have a9:=I (zp hk.val).2;have F:Hid (res= .ok u):=I (N.o.trans hr);have a1:Hid (zx u= true):=I (z3Q hr).2;clear hk O hr;go_wp2_with (((with_reducible refine zg 52 _ _ rfl rfl ?_ K.o.wb (C) ?_ ?_ ?_ ?_ ?_ ?_);exact wA rfl;rw[G.o];rfl;rfl;rfl;rw[G.o];kernel_rfl;exact a9.o;intro Z2 HX Y))
     (try simp only[Exit.inBlock,Exit.then])
     refine bodyPost_ret (zk rfl Tryz.underlying52 rfl _ _ (w.heap.size) (C) (by rw[G.o];kernel_rfl) rfl HX.o.range) rfl ?_;exact .ok F.o rfl (K.o.kept a7.o Y.o) (a1.o) (K.o.fin Y.o)
    ·have F:Hid (res= .error n):=I (N.o.trans hr)
     have HB:=I O;clear O hr;go_wp2;exact⟨rfl,.no F.o rfl (a6.o.next HB.o).bel⟩
   ·subst j4
    obtain⟨-,NA,nc,rfl, -⟩:=id i4.o;have d8:wr.cell? ⟨p,o+8,none⟩= some (.slice NA ns.length nc):=(HI.o.bel.cell (p:=⟨p,o+8,none⟩) c7.o).trans (b6.o 8 _ rfl);have i8:=I (beT X.o.bel HI.o.bel);have h5:=I (z1c wr (.slice NA ns.length nc) ns ((i4.o.below i8.o fun _ _ _ h=>h).more i8.o.size) (by have h1:=l4.o;have h2:reachBytes= 140737488351232:=rfl;omega));go_upto_region 23 with (fail);clear d0 d9;go_wp2_with (first|(go_at_call 130;fail));refine h5.o.mono ?_;rintro e z ⟨v',rfl,d6,g8⟩;obtain⟨-,m5,m7,rfl, -⟩:=id g8;have g4:Hid (Kept (fun b=>W.heap.size<=b) z [.int .i64 6,.int .i64 0,.float .f64 0,.string ⟨#[]⟩,.slice m5 ns.length m7,.slice UA KL.length uc] (.mk 6 0 0 ⟨#[]⟩ ns vs)):=I (ValAt.of (z0l (by omega)) (z0l (by omega)) (by decide) (by decide) (g8.to (fun b hp b3=>⟨Nat.le_trans HI.o.bel.size hp,rfl⟩) (Nat.le_refl _)) d3.o (HI.o.row d3.o (Nat.le_refl _) (fun b _ b3=>d6.block b b3) d6.size));have g5:=I (z2D (fun b=>W.heap.size<=b) _ _ z g4.o);have N:Hid (res= szd (.mk 6 0 0 ⟨#[]⟩ ns vs)):=I (by rw[f2.o];unfold combR;rw[if_neg (by decide),if_pos rfl]);have h7:=I (a6.o.next d6);have m4:=I d6.size;clear d6 g8 d8 h5;go_wp2_with (go_at_call 136;fail);refine g5.o.mono ?_;rintro e z2 (⟨u,C,hr,rfl,hk,O⟩|⟨n,hr,rfl,O⟩)
    ·have K:=I (h7.o.next O)
     have a7:Hid (Kept (fun b=>w.heap.size < b) z2 C u):=I (hk.to (fun b hp b3=>⟨by have h1:=X.o.lt;have h2:=HI.o.bel.size;have h3:=m4.o;rcases hp with h|h<;>omega,rfl⟩) (Nat.le_refl _));have G:=I (zp hk.val).1;have a9:=I (zp hk.val).2;have F:Hid (res= .ok u):=I (N.o.trans hr);have a1:Hid (zx u= true):=I (z3Q hr).2;clear hk O hr;go_wp2_with (((with_reducible refine zg 52 _ _ rfl rfl ?_ K.o.wb (C) ?_ ?_ ?_ ?_ ?_ ?_);exact wA rfl;rw[G.o];rfl;rfl;rfl;rw[G.o];kernel_rfl;exact a9.o;intro Z2 HX Y))
     (try simp only[Exit.inBlock,Exit.then])
     refine bodyPost_ret (zk rfl Tryz.underlying52 rfl _ _ (w.heap.size) (C) (by rw[G.o];kernel_rfl) rfl HX.o.range) rfl ?_;exact .ok F.o rfl (K.o.kept a7.o Y.o) (a1.o) (K.o.fin Y.o)
    ·have F:Hid (res= .error n):=I (N.o.trans hr)
     have HB:=I O;clear O hr;go_wp2;exact⟨rfl,.no F.o rfl (h7.o.next HB.o).bel⟩
   ·have e16:(k ==16)= false:=by simpa using e3
    have e17:(k ==17)= false:=by simpa using e5
    have c9:=I (HI.o.row d3.o (Nat.le_refl _) (fun _ _ _=>rfl) (Nat.le_refl _));have i7:=I (HM.o.tab.next (beT X.o.bel HI.o.bel));have d1:wr.cell? ⟨p,o+1,none⟩= some (.string s):=(HI.o.bel.cell (p:=⟨p,o+1,none⟩) c7.o).trans (b6.o 1 _ rfl);have i5:Hid (p < wr.heap.size):=I (Nat.lt_of_lt_of_le c7.o HI.o.bel.size);have f0:=I (And.intro e3 e5);clear d9 e3 e5;obtain⟨n,hn⟩:∃ n,KL.length= n:=⟨_,rfl⟩;have hnl:=hn.symm.trans (c5.o.trans b1.o);rw[hn] at c9;rw[hn];rcases j6 with j5|j7
    ·obtain rfl:n= 1:=by omega
     obtain⟨a,rfl⟩:∃ a,vs=[a]:=by
      have h1:=b1.o
      match vs,h1.trans j5 with
      |[a],_=>exact⟨a,rfl⟩
     clear j5 hnl hn;obtain⟨-,RA,rc,e6,d4⟩:=c9.o;simp only[Value.slice.injEq] at e6;obtain⟨rfl, -,rfl⟩:=e6;obtain⟨b0,o0,rfl,f4,b7⟩:=d4 (by simp);obtain⟨ks,a5,b2,e0⟩:=b7 0 a rfl;rw[Nat.zero_mul,Nat.add_zero] at b2;have e9:Hid (Kept (fun b=>W.heap.size<=b) wr ks a):=I e0;have c4:=I a5;have c6:Hid (wr.rangeAt b0 o0 ks):=I (z0p b2 fun a v h=>(zu.1 h).2);have m1:=I (zc2 (fun b=>W.heap.size<=b) k s p o a ks wr d0 d1 i5.o e9.o (c8.o a (by simp)) i7.o);have N:Hid (res= unV k s a):=I (by rw[f2.o];unfold combR;rw[if_neg f0.o.1,if_neg f0.o.2]);have m0:=I (z90 _ _ e9.o.val);have f1:=I (c8.o a (by simp));clear d4 b7 a5 b2 e0 f4 d1;go_wp2_with (first|((with_reducible refine za tyK52 _ rfl ?_ c6.o rfl c4.o ?_);exact wA rfl)|(go_at_call 137;fail));refine m1.o.mono ?_;rintro e z2 (⟨u,C,hr,rfl,hk,O⟩|⟨n,hr,rfl,O⟩)
     ·have K:=I (a6.o.next O)
      have a7:Hid (Kept (fun b=>w.heap.size < b) z2 C u):=I (hk.to (fun b hp b3=>⟨by have h1:=X.o.lt;have h2:=HI.o.bel.size;rcases hp with h|h<;>omega,rfl⟩) (Nat.le_refl _));have G:=I (zp hk.val).1;have a9:=I (zp hk.val).2;have F:Hid (res= .ok u):=I (N.o.trans hr);have a1:Hid (zx u= true):=I (zc1 m0.o f1.o hr);clear hk O hr;go_wp2_with (((with_reducible refine zg 52 _ _ rfl rfl ?_ K.o.wb (C) ?_ ?_ ?_ ?_ ?_ ?_);exact wA rfl;rw[G.o];rfl;rfl;rfl;rw[G.o];kernel_rfl;exact a9.o;intro Z2 HX Y))
      (try simp only[Exit.inBlock,Exit.then])
      refine bodyPost_ret (zk rfl Tryz.underlying52 rfl _ _ (w.heap.size) (C) (by rw[G.o];kernel_rfl) rfl HX.o.range) rfl ?_;exact .ok F.o rfl (K.o.kept a7.o Y.o) (a1.o) (K.o.fin Y.o)
     ·have F:Hid (res= .error n):=I (N.o.trans hr)
      have HB:=I O;clear O hr;go_wp2;exact⟨rfl,.no F.o rfl (a6.o.next HB.o).bel⟩
    ·obtain rfl:n= 2:=by omega
     obtain⟨a,a2,rfl⟩:∃ a a2,vs=[a,a2]:=by
      have h1:=b1.o
      match vs,h1.trans j7 with
      |[a,b],_=>exact⟨a,b,rfl⟩
     clear j7 hnl hn;obtain⟨-,RA,rc,e6,d4⟩:=c9.o;simp only[Value.slice.injEq] at e6;obtain⟨rfl, -,rfl⟩:=e6;obtain⟨b0,o0,rfl,f4,b7⟩:=d4 (by simp);obtain⟨ks,a5,b2,e0⟩:=b7 0 a rfl;obtain⟨b8,f7,d7,f8⟩:=b7 1 a2 rfl;rw[Nat.zero_mul,Nat.add_zero] at b2;rw[Nat.one_mul] at d7;have e9:Hid (Kept (fun b=>W.heap.size<=b) wr ks a):=I e0;have i1:Hid (Kept (fun b=>W.heap.size<=b) wr b8 a2):=I f8;have c4:=I a5;have h4:=I f7;have c6:Hid (wr.rangeAt b0 o0 ks):=I (z0p b2 fun a v h=>(zu.1 h).2);have i0:Hid (wr.rangeAt b0 (o0+6) b8):=I (z0p d7 fun a v h=>(zu.1 h).2);have h0:=I f4;have N:Hid (res= binV k a a2):=I (by rw[f2.o];unfold combR;rw[if_neg f0.o.1,if_neg f0.o.2]);have f1:=I (c8.o a (by simp));have l8:=I (c8.o a2 (by simp));clear d4 b7 a5 b2 e0 f7 d7 f8 f4 d1;go_upto_region 26 with (fail);refine z0I 10 [(0,true),(1,true),(2,true),(3,true),(4,true),(5,true),(6,true),(7,true),(8,true),(9,true)] (fun z=>Below wr.heap.size wr z) (by kernel_rfl) (by kernel_rfl) rfl (by intro c a d v w h;cases d<;>exact h) ?_;have hs:Below wr.heap.size wr wr.drew:=(Below.refl _ _).drew;refine zf 139 (.pointer (some ⟨p,o,none⟩)) rfl rfl rfl rfl hs rfl ?_;go_frame;refine z7 140 (.pointer (some ⟨p,o,none⟩)) rfl rfl rfl hs (fun z hz=>by go_simp) ?_;go_frame;refine z7 141 (.pointer (some ⟨p,o,none⟩)) rfl rfl rfl hs (fun z hz=>by go_simp) ?_;go_frame;refine z7 142 (.int .i64 k) rfl rfl rfl hs (fun z hz=>by have e4:=(hz.cell (p:=⟨p,o,none⟩) i5.o).trans d0;clear hz;go_simp) ?_;go_frame;refine zf 143 (.slice (some ⟨b0,o0,none⟩) 2 uc) rfl rfl rfl rfl hs rfl ?_;go_frame;refine z7 144 (.pointer (some ⟨b0,o0,none⟩)) rfl rfl rfl hs (fun z hz=>by go_simp) ?_;go_frame;refine z7 145 (.agg ⟨ks⟩) rfl rfl rfl hs (fun z hz=>zt 52 rfl b0 o0 ks _ rfl (zb c6.o hz h0.o) Tryz.underlying52 rfl (by rw[c4.o];kernel_rfl)) ?_;go_frame;refine zf 146 (.slice (some ⟨b0,o0,none⟩) 2 uc) rfl rfl rfl rfl hs rfl ?_;go_frame;refine z7 147 (.pointer (some ⟨b0,o0+6,none⟩)) rfl rfl rfl hs (fun z hz=>by go_simp) ?_;go_frame;refine z7 148 (.agg ⟨b8⟩) rfl rfl rfl hs (fun z hz=>zt 52 rfl b0 (o0+6) b8 _ rfl (zb i0.o hz h0.o) Tryz.underlying52 rfl (by rw[h4.o];kernel_rfl)) ?_;go_frame;refine z36 ?_;have h6:=I a6.o.drew;have l1:Hid (Kept (fun b=>W.heap.size<=b) wr.drew ks a):=I (e9.o.to (fun b hp _=>⟨hp,rfl⟩) (Nat.le_refl _));have h9:Hid (Kept (fun b=>W.heap.size<=b) wr.drew b8 a2):=I (i1.o.to (fun b hp _=>⟨hp,rfl⟩) (Nat.le_refl _));have m2:Hid (W.heap.size<=wr.drew.heap.size):=I HI.o.bel.size;have k8:=I (z96 (fun b=>W.heap.size<=b) k a a2 ks b8 wr.drew l1.o h9.o f1.o l8.o);clear hs d0;generalize wr.drew= wd at*;go_wp2_with (go_at_call 138;fail);refine k8.o.mono ?_;rintro e z2 (⟨u,C,hr,rfl,hk,O⟩|⟨n,hr,rfl,O⟩)
     ·have K:=I (h6.o.next O)
      have a7:Hid (Kept (fun b=>w.heap.size < b) z2 C u):=I (hk.to (fun b hp b3=>⟨by have h1:=X.o.lt;have h2:=m2.o;rcases hp with h|h<;>omega,rfl⟩) (Nat.le_refl _));have G:=I (zp hk.val).1;have a9:=I (zp hk.val).2;have F:Hid (res= .ok u):=I (N.o.trans hr);have a1:Hid (zx u= true):=I (z95 f1.o hr);clear hk O hr;go_wp2_with (((with_reducible refine zg 52 _ _ rfl rfl ?_ K.o.wb (C) ?_ ?_ ?_ ?_ ?_ ?_);exact wA rfl;rw[G.o];rfl;rfl;rfl;rw[G.o];kernel_rfl;exact a9.o;intro Z2 HX Y))
      (try simp only[Exit.inBlock,Exit.then])
      refine bodyPost_ret (zk rfl Tryz.underlying52 rfl _ _ (w.heap.size) (C) (by rw[G.o];kernel_rfl) rfl HX.o.range) rfl ?_;exact .ok F.o rfl (K.o.kept a7.o Y.o) (a1.o) (K.o.fin Y.o)
     ·have F:Hid (res= .error n):=I (N.o.trans hr)
      have HB:=I O;clear O hr;go_wp2;exact⟨rfl,.no F.o rfl (h6.o.next HB.o).bel⟩
  |succ g=>
   have b3:(j:Int) <(its.length:Int):=by omega
   obtain⟨y,hy⟩:∃ y,its[j]?= some y:=⟨_,List.getElem?_eq_getElem (by omega)⟩;obtain⟨b,ob,rfl,j2⟩:=HA.o (by omega);have g3:=I (j2 j y hy wr (beT X.o.bel HI.o.bel));have HY:=I hy;have f3:=I (zbo (E:=E) (V:=V) hy);clear j2 hy;go_upto_region 18 with (fail);go_wp2_with (go_at_call 116;fail);refine g3.o.mono ?_;rintro e u6 (⟨v,C,hr,rfl,g7,k1,d5⟩|⟨n,hr,rfl,d5⟩)
   ·obtain⟨j8,k0⟩:=zp g7.val
    have l0:=I g7;have b9:=I d5;have a8:=I j8;have l5:=I k0;have a1:=I k1;have i6:Hid (seqR (zY E V its)=(seqR (zY E V (its.drop (j+1)))).map ((vs ++ [v]) ++ ·)):=I (by rw[d2.o,f3.o,hr];exact z8k _ _ _);clear g7 d5 j8 k0 k1 hr g3 f3 d0 d9;have k9:Hid (∀ i u,(enc6 ⟨C,a8.o⟩)[i]?= some u->(u6.alloc (.cells ⟨C⟩ 52)).cell? ⟨u6.heap.size,i,none⟩= some u):=I (z11 u6 C 52);have g2:=I (zc u6 (.cells ⟨C⟩ 52));have l9:Hid (W.heap.size<=(u6.alloc (.cells ⟨C⟩ 52)).heap.size):=I (Nat.le_trans HI.o.bel.size (Nat.le_trans b9.o.size g2.o.size));have l6:Hid (OwnSl 52 6 enc6 (u6.alloc (.cells ⟨C⟩ 52)) W.heap.size (.slice UA KL.length uc) KL):=I (HI.o.own.below (beT b9.o g2.o));have i2:Hid (KL.length+1<=maxLen):=I (by have:=b4.o;have h2:=c5.o;have h3:=b1.o;unfold maxLen;omega);have i3:Hid ((KL.length+1) *88<=140737488355328):=I (by have:=b4.o;have h2:=c5.o;have h3:=b1.o;omega);go_wp2_with (first|((with_reducible refine z1u 50 _ rfl ?_ 52 j0 _ C ?_ Tryz.underlying50 h8.o i9.o ?_ ?_ ?_ ?_);(exact wA rfl);rfl;rw[a8.o];exact j1.o;rw[a8.o];decide;rw[a8.o];decide)|(at_builtin;(refine z2q rfl _ _ 50 rfl W.heap.size 52 j0 _ 6 88 enc6 Tryz.underlying50 h8.o i9.o j1.o m3.o rfl (by decide) z0J (.slice UA KL.length uc) KL rfl l6.o u6.heap.size 1 ⟨C,a8.o⟩ l5.o rfl k9.o i2.o i3.o l9.o ?_;intro v' u8 f9 hg f6;have HN:=I (RowInv.next (k:=⟨C,a8.o⟩) HI.o (Below.refl _ _) b9.o g2.o l0.o f9 hg f6);clear f9 hg f6)));go_roundg g;case measure=>omega
    case rel=>
     have O:=b4.o;have hq:wrap64 ((j:Int)+1)=((j+1:Nat):Int):=by unfold wrap64;omega
     refine⟨j+1,vs ++ [v],KL ++ [⟨C,a8.o⟩],?_,?_,?_,i6.o,z9A c8.o a1.o,HN.o⟩
     ·omega
     ·first|rw[hq]|rfl
     ·rw[List.length_append,b1.o];rfl
   ·have b9:=I d5
    have N:Hid (res= .error n):=I (by rw[f5.o,d2.o,f3.o,hr];rfl);clear d5 hr g3 f3 d0 d9;go_wp2;exact⟨rfl,.no N.o rfl (a6.o.next b9.o).bel⟩
end
end
section
open Go Go.RowKit
theorem zb0 {k:Int} {s:ByteArray} {ns:List ByteArray} {nk:Nat} (h:zM k s ns nk= true):ns.length<=nk:=by
 unfold zM at h;split at h
 ·simp only[Bool.and_eq_true,beq_iff_eq] at h;omega
 split at h
 ·simp only[Bool.and_eq_true,beq_iff_eq] at h;omega
 split at h
 ·simp only[Bool.and_eq_true,beq_iff_eq] at h;omega
 ·simp only[Bool.and_eq_true,beq_iff_eq] at h;omega
theorem lenE2 {l:List ET} (h:l.length= 2):∃ a b,l=[a,b]:=by
 match l,h with
 |[a,b],_=>exact⟨a,b,rfl⟩
theorem lenE3 {l:List ET} (h:l.length= 3):∃ a b c,l=[a,b,c]:=by
 match l,h with
 |[a,b,c],_=>exact⟨a,b,c,rfl⟩
theorem zaL {k:Int} {n:Nat} (h:kidsB (z0H k) n= true):((k= 1\/k= 2)/\n= 0)\/((k= 3\/k= 4\/k= 18\/(20<=k/\k<=23))/\n= 1)\/(((5<=k/\k<=14)\/k= 19)/\n= 2)\/(k= 15/\n= 3)\/(k= 16\/k= 17):=by
 unfold kidsB at h;simp only[Bool.and_eq_true,Bool.not_eq_true',beq_eq_false_iff_ne,Bool.or_eq_true,decide_eq_true_eq,beq_iff_eq] at h;unfold z0H at h
 (repeat' split at h)<;>omega
theorem zaS (mp:Nat) (va vb:Value) (E:List VarT) (V:List VT):∀ (t:ET) (d:Nat) (cs:List Value) (p o:Nat) (w:World),z0r t d= true->szE t<=200->w.rangeAt p o cs->p < w.heap.size->ExpAt w w.heap.size cs t->MacAt w mp va vb E V->
  Calls Tryz.prog 116 #[.pointer (some ⟨mp,0,none⟩),.pointer (some ⟨p,o,none⟩)] w (EvPost (evalE E V t) w):=by
 intro t
 induction t using ET.ind with
 |h k s v ns its ih=>
  intro d cs p o w hr b0 g Y hv X;rw[z0r] at hr;simp only[Bool.and_eq_true,decide_eq_true_eq] at hr;obtain⟨_,hk,a8,N,a5⟩:=hr;rw[z2G] at a5;rw[szE] at b0;have G:its.length<=199:=by have:=z4I its;omega
  obtain⟨v0,v1,v2,v3,v4,v5,vn,vi,rfl,_,hs,b1,a2,b6,hi⟩:=hv.inv;obtain⟨_,A,c,rfl,hA⟩:=hi;have F:0 < its.length->∃ b O,A= some ⟨b,O,none⟩/\∀ j x,its[j]?= some x->EvAt mp b (O+j*10) w (evalE E V x):=fun h0=>by
   obtain⟨b,O,rfl,hb,hc⟩:=hA h0;refine⟨b,O,rfl,fun j x hx u hu=> ?_⟩;obtain⟨ks,b8,a6,a7⟩:=hc j x hx;have K:=List.mem_of_getElem? hx;exact ih x K (d+1) ks b (O+j*10) u (a5 x K) (by have:=z4J K;omega) (zb a6 hu hb) (Nat.lt_of_lt_of_le hb hu.size) ((a7.under hu).more hu.size) (X.below hu)
  have a1:ns.length<=1000:=by have:=zb0 a8;omega
  rcases zaL hk with ⟨C,_⟩|⟨C,hn⟩|⟨C,hn⟩|⟨C,hn⟩|C
  ·rcases C with rfl|rfl
   ·unfold valB at N
    rw[if_pos rfl] at N;rw[evalE,if_pos rfl];exact zcJ mp va vb E V p o w s v v0 v1 v2 v3 v4 v5 vn _ g Y b1 N X
   ·rw[evalE,if_neg (by decide),if_pos rfl]
    exact ze0 mp va vb E V p o w s v0 v1 v2 v3 v4 v5 vn _ g Y X
  ·exact z5J mp va vb E V p o w k s v0 v1 v2 v3 v4 v5 vn A c ns its (by simp;omega) (by simp;omega) (by simp;omega) (by simp;omega) (by simp;omega) G (.inr ⟨by omega,by omega,.inl hn⟩) g Y a2 a1 F X (z2Z ⟨by omega,by omega,by omega⟩)
  ·by_cases h13:k= 13\/k= 14
   ·obtain⟨x,y,rfl⟩:=lenE2 hn
    obtain⟨b,O,rfl,he⟩:=F (by simp);have e0:=he 0 x rfl;have e1:=he 1 y rfl;rw[Nat.zero_mul,Nat.add_zero] at e0;rw[Nat.one_mul] at e1;rcases h13 with rfl|rfl
    ·refine zeK mp va vb E V p o w s v0 v1 v2 v3 v4 v5 vn b O c _ _ _ ?_ g Y e0 e1 X
     rw[evalE,zY,zY,zY,if_neg (by decide),if_neg (by decide),if_pos (by decide)]
    ·refine ev_or mp va vb E V p o w s v0 v1 v2 v3 v4 v5 vn b O c _ _ _ ?_ g Y e0 e1 X
     rw[evalE,zY,zY,zY,if_neg (by decide),if_neg (by decide),if_pos (by decide)]
   ·exact z5J mp va vb E V p o w k s v0 v1 v2 v3 v4 v5 vn A c ns its (by simp;omega) (by simp;omega) (by simp;omega) (by simp;omega) (by simp;omega) G (.inr ⟨by omega,by omega,.inr hn⟩) g Y a2 a1 F X (z2Z ⟨by omega,by omega,by omega⟩)
  ·subst C
   obtain⟨x,y,z,rfl⟩:=lenE3 hn;obtain⟨b,O,rfl,he⟩:=F (by simp);have e0:=he 0 x rfl;have e1:=he 1 y rfl;have e2:=he 2 z rfl;rw[Nat.zero_mul,Nat.add_zero] at e0;rw[Nat.one_mul] at e1;refine ev_if mp va vb E V p o w s v0 v1 v2 v3 v4 v5 vn b O c _ _ _ _ ?_ g Y e0 e1 e2 X;rw[evalE,zY,zY,zY,zY,if_neg (by decide),if_neg (by decide),if_pos (by decide)]
  ·exact z5J mp va vb E V p o w k s v0 v1 v2 v3 v4 v5 vn A c ns its (by simp;omega) (by simp;omega) (by simp;omega) (by simp;omega) (by simp;omega) G (.inl C) g Y a2 a1 F X (z2Z ⟨by omega,by omega,by omega⟩)
end
end Go.Proofs.YtdjfpcmlffekkaaGreatDoor
