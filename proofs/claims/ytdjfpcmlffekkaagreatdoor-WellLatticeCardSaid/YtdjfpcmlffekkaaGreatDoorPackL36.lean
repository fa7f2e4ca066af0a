/- Parts of a proof: E10X, E10Y, E10V, E10W, E10Z. -/
import Derived.Lib.AppendZeros
import Derived.Test.YtdjfpcmlffekkaaGreatDoorPackL2
import Derived.Test.YtdjfpcmlffekkaaGreatDoorPackL8
import Derived.Test.YtdjfpcmlffekkaaGreatDoorPackL10
import Derived.Test.YtdjfpcmlffekkaaGreatDoorPackL11
import Derived.Test.YtdjfpcmlffekkaaGreatDoorPackL28
import Derived.Test.YtdjfpcmlffekkaaGreatDoorPackL31
import Derived.Test.YtdjfpcmlffekkaaGreatDoorPackL32
import Derived.Test.YtdjfpcmlffekkaaGreatDoorPackL35
set_option maxHeartbeats 8000000
set_option maxRecDepth 100000
set_option linter.unusedVariables false
set_option linter.unusedSimpArgs false
namespace Go.Proofs.YtdjfpcmlffekkaaGreatDoor
section
open Go Go.RowKit
theorem ze4 (w:World) (n:Nat) (i:TypeInfo) (z:Value) (hz6:z.cells.size= 6) (h0:n<=1000):World.ownsRow (w.drew.alloc (.cells (Builtin.zeroCells z.cells n ++ Builtin.zeroCells z.cells (grownCap w n 0 52 - n)) 52)) w.heap.size 52 6 (.slice (some ⟨w.heap.size,0,none⟩) 0 (grownCap w n 0 52)) 0 []:=by
 refine⟨rfl,.inr ⟨w.heap.size,_,_,rfl,Nat.le_refl _,heap_alloc_new w.drew _,Nat.zero_le _,grownCap_le_maxLen _ _ _ _ (by unfold maxLen;omega),?_,by simp⟩⟩
 have h1:=grownCap_ge w n 0 52
 rw[Array.size_append,size_zeroCells,size_zeroCells,hz6,← Nat.add_mul]
 congr 1
 omega
theorem zb4 {w:World} {base:Nat} {e:TypeId} {size:Nat} {v:Value} {n:Nat} {xs:List Value} (h:w.ownsRow base e size v n xs) {j:Nat} (hj:v.ownBlock= some j):base<=j:=by
 rcases h.2 with ⟨rfl,_⟩|⟨g,cap,cur,rfl,hg,_⟩
 ·cases hj
 ·have:g= j:=by simpa [Value.ownBlock] using hj
  omega
theorem z4Q (w:World) (o:Obj):Below w.heap.size w (w.drew.alloc o):=(Below.refl w.heap.size w).drew.trans (zd w.drew o)
theorem grow0 (w:World):Calls Tryz.prog 184 #[.slice none 0 0,.int .i64 0] w fun e w'=>e= .returned (.slice none 0 0)/\w'= w:=by
 go_enter Tryz.func184,Tryz.ntmps184
 go_wp2
 go_ret
 exact⟨rfl,rfl⟩
theorem growN (n:Nat) (h0:0 < n) (hn:n<=1000) (w:World):Calls Tryz.prog 184 #[.slice none 0 0,.int .i64 n] w fun e w'=>∃ v,e= .returned v/\w'.ownsRow w.heap.size 52 6 v 0 []/\Below w.heap.size w w':=by
 obtain⟨j0,hi,hz0,hz1,hz2⟩:=zX z2a
 have HJ0:=I hi
 have HY0:=I hz0
 have HY1:=I hz1
 have HY2:=I hz2
 have HRUN:Hid (∀ ty,(Builtin.append_ #[50,3] ty #[.slice none 0 0,.int .i64 n]).run Tryz.prog w= .ok (.slice (some ⟨w.heap.size,0,none⟩) n (grownCap w n 0 52)) (w.drew.alloc (.cells (Builtin.zeroCells (Value.agg #[.int .i64 0,.int .i64 0,.float .f64 0,.string ⟨#[]⟩,.slice none 0 0,.slice none 0 0]).cells n ++ Builtin.zeroCells (Value.agg #[.int .i64 0,.int .i64 0,.float .f64 0,.string ⟨#[]⟩,.slice none 0 0,.slice none 0 0]).cells (grownCap w n 0 52 - n)) 52))):=I fun ty=>Lib.run_append_nil_zeros w 50 3 ty 52 j0 _ .i64 .i64 Tryz.underlying50 Tryz.underlying3 hi hz0 n h0 (by rw[hz1];decide) (by omega) (by rw[hz2];omega)
 have HOWN:=I (ze4 w n j0 (Value.agg #[.int .i64 0,.int .i64 0,.float .f64 0,.string ⟨#[]⟩,.slice none 0 0,.slice none 0 0]) rfl hn)
 have HBEL:=I (z4Q w (.cells (Builtin.zeroCells (Value.agg #[.int .i64 0,.int .i64 0,.float .f64 0,.string ⟨#[]⟩,.slice none 0 0,.slice none 0 0]).cells n ++ Builtin.zeroCells (Value.agg #[.int .i64 0,.int .i64 0,.float .f64 0,.string ⟨#[]⟩,.slice none 0 0,.slice none 0 0]).cells (grownCap w n 0 52 - n)) 52))
 have hpos:(0:Int) <(n:Int):=by omega
 have hneg: ¬ ((n:Int) < 0):=by omega
 clear hi hz0 hz1 hz2
 generalize w.drew.alloc (.cells (Builtin.zeroCells (Value.agg #[.int .i64 0,.int .i64 0,.float .f64 0,.string ⟨#[]⟩,.slice none 0 0,.slice none 0 0]).cells n ++ Builtin.zeroCells (Value.agg #[.int .i64 0,.int .i64 0,.float .f64 0,.string ⟨#[]⟩,.slice none 0 0,.slice none 0 0]).cells (grownCap w n 0 52 - n)) 52)= W at*
 generalize grownCap w n 0 52= cap at*
 go_enter Tryz.func184,Tryz.ntmps184
 go_wp2_with (at_builtin;(refine Lib.wpList_append_run _ rfl _ _ _ _ rfl _ _ rfl rfl _ _ (HRUN.o _) ?_))
 go_ret
 exact⟨_,rfl,HOWN.o,HBEL.o⟩
theorem z5J (hb:Nat) (A B:Option Addr) (la lb ca cb:Nat) (xa xb:List Value) (w:World) (hla:xa.length= la*6) (hlb:xb.length= lb*6)
  (hca:0 < la->∃ b ob,A= some ⟨b,ob,none⟩/\b < w.heap.size/\∀ j u,xa[j]?= some u->w.cell? ⟨b,ob+j,none⟩= some u) (hcb:0 < lb->∃ b ob,B= some ⟨b,ob,none⟩/\b < w.heap.size/\∀ j u,xb[j]?= some u->w.cell? ⟨b,ob+j,none⟩= some u)
  (h1a:∀ u∈xa,u.oneCell'= true) (h1b:∀ u∈xb,u.oneCell'= true) (e0:w.cell? ⟨hb,0,none⟩= some (.slice A la ca)) (e1:w.cell? ⟨hb,1,none⟩= some (.slice B lb cb)) (hlt:hb < w.heap.size) (hn:la+lb<=1000):
  Calls Tryz.prog 166 #[.slice (some ⟨hb,0,none⟩) 2 2] w fun e w'=>∃ v,e= .returned v/\w'.ownsRow w.heap.size 52 6 v (la+lb) (xa ++ xb)/\Below w.heap.size w w':=by
 have HLA:=I hla
 have HLB:=I hlb
 have HCA:=I hca
 have HCB:=I hcb
 have H1A:=I h1a
 have H1B:=I h1b
 have HE0:=I e0
 have HE1:=I e1
 have HLT:=I hlt
 have HN:=I hn
 have HG:Hid (Calls Tryz.prog 184 #[.slice none 0 0,.int .i64 ((la:Int)+ (lb:Int))] w fun e w'=>∃ v,e= .returned v/\w'.ownsRow w.heap.size 52 6 v 0 []/\Below w.heap.size w w'):=I (by
  rcases Nat.eq_zero_or_pos (la+lb) with h0|h0
  ·have e:((la:Int)+ (lb:Int))= 0:=by omega
   rw[e]
   exact(grow0 w).mono fun e w' h=>⟨_,h.1,by rw[h.2];exact⟨rfl,.inl ⟨rfl,rfl⟩⟩,by rw[h.2];exact Below.refl _ _⟩
  ·have:=growN (la+lb) h0 hn w
   rwa [Int.natCast_add] at this)
 obtain⟨j0,hi,hz0,hz1,hz2⟩:=zX z2a
 have HJ0:=I hi
 have HY0:=I hz0
 have HY1:=I hz1
 have HY2:=I hz2
 clear hla hlb hca hcb h1a h1b e0 e1 hlt hi hz0 hz1 hz2
 go_enter Tryz.func166,Tryz.ntmps166
 go_upto_region 3 with (fail)
 go_loopg [3,11] 2 (fun q x y u=>u= w/\((q= 2/\x= .int .i64 0/\y= .int .i64 0)\/(q= 1/\x= .int .i64 la/\y= .int .i64 1)\/(q= 0/\x= .int .i64 ((la:Int)+ (lb:Int))/\y= .int .i64 2)))
 case atStart=>exact⟨rfl,.inl ⟨rfl,rfl,rfl⟩⟩
 case round=>
  obtain⟨rfl,hc⟩:=hrel
  rcases hc with ⟨rfl,rfl,rfl⟩|⟨rfl,rfl,rfl⟩|⟨rfl,rfl,rfl⟩
  ·have d0:=HE0.o
   have hge: ¬ ((la:Int) < 0):=by omega
   have hn':=HN.o
   go_wp2
   go_roundg 1
   case measure=>omega
   case rel=>exact⟨rfl,.inr (.inl ⟨rfl,by go_num,by go_num⟩)⟩
  ·have d1:=HE1.o
   have hge: ¬ ((la:Int)+ (lb:Int) < 0):=by omega
   have hw:wrap64 ((la:Int)+ (lb:Int))=(la:Int)+ (lb:Int):=by have:=HN.o;unfold wrap64;omega
   have hw2:IntKind.i64.wrap ((la:Int)+ (lb:Int))=(la:Int)+ (lb:Int):=by have:=HN.o;rw[IntKind.wrap_i64];omega
   go_wp2
   go_roundg 0
   case measure=>omega
   case rel=>exact⟨rfl,.inr (.inr ⟨rfl,by first|rfl|rw[hw]|rw[hw2],by go_num⟩)⟩
  ·obtain⟨w0,hw0⟩:∃ w0:World,w0= wr:=⟨_,rfl⟩
   subst hw0
   go_upto_region 10 with (go_at_call 184;refine HG.o.mono ?_;rintro e z ⟨v,rfl,hown,hb⟩;have HOW:=I hown;have HBZ:=I hb;clear hown hb)
   go_upto_region 11 with (fail)
   go_loopg [6,27] 2 (fun q x y u=>Below w0.heap.size w0 u/\((q= 2/\y= .int .i64 0/\u.ownsRow w0.heap.size 52 6 x 0 [])\/(q= 1/\y= .int .i64 1/\u.ownsRow w0.heap.size 52 6 x la xa)\/(q= 0/\y= .int .i64 2/\u.ownsRow w0.heap.size 52 6 x (la+lb) (xa ++ xb))))
   case atStart=>exact⟨HBZ.o,.inl ⟨rfl,rfl,HOW.o⟩⟩
   case round=>
    obtain⟨hbu,hc⟩:=hrel
    have HBU:=I hbu
    clear hbu
    rcases hc with ⟨rfl,rfl,ho⟩|⟨rfl,rfl,ho⟩|⟨rfl,rfl,ho⟩
    ·have HOU:=I ho
     have d0:=(HBU.o.cell (p:=⟨hb,0,none⟩) HLT.o).trans HE0.o
     clear ho
     go_wp2_with (at_builtin;(refine z6D rfl _ _ 50 rfl w0.heap.size 52 j0 _ 6 88 Tryz.underlying50 HJ0.o HY0.o HY1.o HY2.o rfl (by decide) _ 0 [] rfl HOU.o A la ca xa rfl HLA.o (fun h0=>by obtain⟨b,ob,e,hbl,hc⟩:=HCA.o h0;exact⟨_,e,fun j u hj=>by rw[Addr.add_mid];exact(HBU.o.cell (p:=⟨b,ob+j,none⟩) hbl).trans (hc j u hj)⟩) H1A.o (by have:=HN.o;unfold maxLen;omega) (by have:=HN.o;omega) HBU.o.size ?_;intro v' u8 hown hg;have HO8:=I hown;have HB8:=I (HBU.o.grown hg HBU.o.size (fun j hj=>zb4 HOU.o hj));clear hown hg))
     go_roundg 1
     case measure=>omega
     case rel=>exact⟨HB8.o,.inr (.inl ⟨rfl,by go_num,by have:=HO8.o;rw[Nat.zero_add,List.nil_append] at this;exact this⟩)⟩
    ·have HOU:=I ho
     have d1:=(HBU.o.cell (p:=⟨hb,1,none⟩) HLT.o).trans HE1.o
     clear ho
     go_wp2_with (at_builtin;(refine z6D rfl _ _ 50 rfl w0.heap.size 52 j0 _ 6 88 Tryz.underlying50 HJ0.o HY0.o HY1.o HY2.o rfl (by decide) _ la xa rfl HOU.o B lb cb xb rfl HLB.o (fun h0=>by obtain⟨b,ob,e,hbl,hc⟩:=HCB.o h0;exact⟨_,e,fun j u hj=>by rw[Addr.add_mid];exact(HBU.o.cell (p:=⟨b,ob+j,none⟩) hbl).trans (hc j u hj)⟩) H1B.o (by have:=HN.o;unfold maxLen;omega) (by have:=HN.o;omega) HBU.o.size ?_;intro v' u8 hown hg;have HO8:=I hown;have HB8:=I (HBU.o.grown hg HBU.o.size (fun j hj=>zb4 HOU.o hj));clear hown hg))
     go_roundg 0
     case measure=>omega
     case rel=>exact⟨HB8.o,.inr (.inr ⟨rfl,by go_num,HO8.o⟩)⟩
    ·have HOU:=I ho
     clear ho
     go_wp2
     go_ret
     exact⟨_,rfl,HOU.o,HBU.o⟩
def z7C (r:Except Int Bool) (w:World) (e:Ending) (w':World):Prop:=((∃ b,r= .ok b/\e= .returned (.bool b))\/(∃ n,r= .error n/\e= panE n))/\Below w.heap.size w w'
structure TB (w W:World) (ca cb:List Value):Prop where
 wa:Whole 52 W w.heap.size ca
 wb:Whole 52 W (w.heap.size+1) cb
 bel:Below w.heap.size w W
theorem z3r (w:World) (ca cb:List Value):TB w ((w.alloc (.cells ⟨ca⟩ 52)).alloc (.cells ⟨cb⟩ 52)) ca cb:=by
 have h1:=Whole.new w ca 52
 have h2:=zd w (.cells ⟨ca⟩ 52)
 have hs:(w.alloc (.cells ⟨ca⟩ 52)).heap.size= w.heap.size+1:=by simp
 generalize w.alloc (.cells ⟨ca⟩ 52)= W1 at*
 have h3:=Whole.new W1 cb 52
 have h4:=zd W1 (.cells ⟨cb⟩ 52)
 rw[hs] at h3
 exact⟨h1.keep (h4.block _ (by omega)),h3,h2.trans (h4.mono (by omega))⟩
structure BB (w W:World) (ca cb:List Value):Prop where
 wa:Whole 52 W w.heap.size ca
 wb:Whole 52 W (w.heap.size+1) cb
 wr:Whole 52 W (w.heap.size+2) zV6
 bel:Below w.heap.size w W
theorem zda (w:World) (ca cb:List Value):BB w (((w.alloc (.cells ⟨ca⟩ 52)).alloc (.cells ⟨cb⟩ 52)).alloc (.cells zV6.toArray 52)) ca cb:=by
 have h1:=z3r w ca cb
 have hs:((w.alloc (.cells ⟨ca⟩ 52)).alloc (.cells ⟨cb⟩ 52)).heap.size= w.heap.size+2:=by simp
 generalize (w.alloc (.cells ⟨ca⟩ 52)).alloc (.cells ⟨cb⟩ 52)= W1 at*
 have h3:=Whole.new W1 zV6 52
 have h4:=zd W1 (.cells zV6.toArray 52)
 rw[hs] at h3
 exact⟨h1.wa.keep (h4.block _ (by omega)),h1.wb.keep (h4.block _ (by omega)),h3,h1.bel.trans (h4.mono (by omega))⟩
theorem BB.next {w W W':World} {ca cb:List Value} (h:BB w W ca cb) (hb:Below W.heap.size W W'):BB w W' ca cb:=
 ⟨h.wa.keep (hb.block _ h.wa.lt),h.wb.keep (hb.block _ h.wb.lt),h.wr.keep (hb.block _ h.wr.lt),h.bel.trans (hb.mono h.bel.size)⟩
theorem BB.fin {w W Z:World} {ca cb:List Value} (h:BB w W ca cb) (hx:But W Z (w.heap.size+2) (w.heap.size+2)):Below w.heap.size w Z:=h.bel.trans (hx.below (B:=w.heap.size) h.bel.size (by omega) (by omega))
theorem zfj (na nb:Int) (fa fb:Nat) (sa sb:ByteArray) (nsa nsb:List ByteArray) (ia ib:List VT) (ca cb:List Value) (w:World) (eq:Bool) (hv:ValAt w w.heap.size ca (.mk 3 na fa sa nsa ia)) (hv2:ValAt w w.heap.size cb (.mk 3 nb fb sb nsb ib)):
  Calls Tryz.prog 163 #[.bool eq,.agg ⟨ca⟩,.agg ⟨cb⟩] w fun e w'=>e= .returned (.bool (fLess fa fb ||(eq && fEql fa fb)))/\Below w.heap.size w w':=by
 have HL:=I (zbU fa fb)
 have HQ:=I (z9G fa fb)
 generalize fLess fa fb= x at*
 generalize fEql fa fb= y at*
 have HV:=I hv
 have HV2:=I hv2
 obtain⟨vna,via,rfl,hkw,hnw,hfw,hsw,hns,hil,hi⟩:=ValAt.inv hv
 obtain⟨hnl,NA1,na2,rfl,hnA⟩:=hns
 obtain⟨hil2,A,c,rfl,hA⟩:=hi
 obtain⟨vnb,vib,rfl,hkw2,hnw2,hfw2,hsw2,hns2,hil3,hi2⟩:=ValAt.inv hv2
 obtain⟨hnl2,NB1,nb2,rfl,hnB⟩:=hns2
 obtain⟨hil4,B,c2,rfl,hB⟩:=hi2
 clear hkw hnw hfw hsw hnl hnA hil hil2 hA hkw2 hnw2 hfw2 hsw2 hnl2 hnB hil3 hil4 hB hv hv2
 go_enter Tryz.func163,Tryz.ntmps163
 go_upto_region 1 with (fail)
 have HST:=I (z3r w [.int .i64 3,.int .i64 na,.float .f64 fa,.string sa,.slice NA1 nsa.length na2,.slice A ia.length c] [.int .i64 3,.int .i64 nb,.float .f64 fb,.string sb,.slice NB1 nsb.length nb2,.slice B ib.length c2])
 generalize (w.alloc (.cells ⟨[.int .i64 3,.int .i64 na,.float .f64 fa,.string sa,.slice NA1 nsa.length na2,.slice A ia.length c]⟩ 52)).alloc (.cells ⟨[.int .i64 3,.int .i64 nb,.float .f64 fb,.string sb,.slice NB1 nsb.length nb2,.slice B ib.length c2]⟩ 52)= W at*
 have d0:W.cell? ⟨w.heap.size,0,none⟩= some (.int .i64 3):=HST.o.wa.cells 0 rfl
 have d2:W.cell? ⟨w.heap.size,2,none⟩= some (.float .f64 fa):=HST.o.wa.cells 2 rfl
 have d5:W.cell? ⟨w.heap.size+1,2,none⟩= some (.float .f64 fb):=HST.o.wb.cells 2 rfl
 cases x<;>cases eq<;>(
  go_wp2_with (first|(go_at_call 178;refine(HL.o _).mono ?_;rintro e z ⟨rfl,hzw⟩;rw[hzw];clear hzw z)|(go_at_call 176;refine(HQ.o _).mono ?_;rintro e z ⟨rfl,hzw⟩;rw[hzw];clear hzw z))
  go_ret
  exact⟨rfl,HST.o.bel⟩)
theorem zbY (na nb:Int) (fa fb:Nat) (sa sb:ByteArray) (nsa nsb:List ByteArray) (ia ib:List VT) (ca cb:List Value) (w:World) (r:Int) (eq:Bool) (k:Int) (hk:k= 2\/k= 4) (hv:ValAt w w.heap.size ca (.mk k na fa sa nsa ia)) (hv2:ValAt w w.heap.size cb (.mk k nb fb sb nsb ib)) (hord:ordV (.mk k na fa sa nsa ia) (.mk k nb fb sb nsb ib)= r):
  Calls Tryz.prog 163 #[.bool eq,.agg ⟨ca⟩,.agg ⟨cb⟩] w fun e w'=>e= .returned (.bool (decide (r < 0) ||(eq && (r ==0))))/\Below w.heap.size w w':=by
 have HORD:=I hord
 clear hord
 have HV:=I hv
 have HV2:=I hv2
 obtain⟨vna,via,rfl,hkw,hnw,hfw,hsw,hns,hil,hi⟩:=ValAt.inv hv
 obtain⟨hnl,NA1,na2,rfl,hnA⟩:=hns
 obtain⟨hil2,A,c,rfl,hA⟩:=hi
 obtain⟨vnb,vib,rfl,hkw2,hnw2,hfw2,hsw2,hns2,hil3,hi2⟩:=ValAt.inv hv2
 obtain⟨hnl2,NB1,nb2,rfl,hnB⟩:=hns2
 obtain⟨hil4,B,c2,rfl,hB⟩:=hi2
 clear hkw hnw hfw hsw hnl hnA hil hil2 hA hkw2 hnw2 hfw2 hsw2 hnl2 hnB hil3 hil4 hB hv hv2
 go_enter Tryz.func163,Tryz.ntmps163
 go_upto_region 1 with (fail)
 have HST:=I (z3r w [.int .i64 k,.int .i64 na,.float .f64 fa,.string sa,.slice NA1 nsa.length na2,.slice A ia.length c] [.int .i64 k,.int .i64 nb,.float .f64 fb,.string sb,.slice NB1 nsb.length nb2,.slice B ib.length c2])
 generalize (w.alloc (.cells ⟨[.int .i64 k,.int .i64 na,.float .f64 fa,.string sa,.slice NA1 nsa.length na2,.slice A ia.length c]⟩ 52)).alloc (.cells ⟨[.int .i64 k,.int .i64 nb,.float .f64 fb,.string sb,.slice NB1 nsb.length nb2,.slice B ib.length c2]⟩ 52)= W at*
 rcases hk with rfl|rfl<;>cases eq<;>cases hb:decide (r < 0)<;>(
  have d0:W.cell? ⟨w.heap.size,0,none⟩= some (.int .i64 _):=HST.o.wa.cells 0 rfl
  have HVO:=I (zbO _ _ _ _ W ((HV.o.under HST.o.bel).more HST.o.bel.size) ((HV2.o.under HST.o.bel).more HST.o.bel.size))
  rw[HORD.o] at HVO
  go_upto_region 7 with (first|((with_reducible refine za 52 _ rfl ?_ w.heap.size 0 _ _ rfl HST.o.wa.range Tryz.underlying52 rfl ?_ ?_);(exact wA rfl);kernel_rfl)|((with_reducible refine za 52 _ rfl ?_ (w.heap.size+1) 0 _ _ rfl HST.o.wb.range Tryz.underlying52 rfl ?_ ?_);(exact wA rfl);kernel_rfl)|(go_at_call 124;refine HVO.o.mono ?_;rintro e z ⟨rfl,hb⟩;have HBZ:=I hb;clear hb))
  go_wp2
  go_ret
  exact⟨by first|rfl|(rw[hb];rfl)|(simp[hb];done),HST.o.bel.trans (HBZ.o.mono HST.o.bel.size)⟩)
theorem zfs (eq:Bool) (ka kb:Int) (na nb:Int) (fa fb:Nat) (sa sb:ByteArray) (nsa nsb:List ByteArray) (ia ib:List VT) (ca cb:List Value) (w:World) (h2:(ka ==2)= false) (h3:(ka ==3)= false) (h4:(ka ==4)= false) (hv:ValAt w w.heap.size ca (.mk ka na fa sa nsa ia)) (hv2:ValAt w w.heap.size cb (.mk kb nb fb sb nsb ib)):
  Calls Tryz.prog 163 #[.bool eq,.agg ⟨ca⟩,.agg ⟨cb⟩] w fun e w'=>e= panE 6/\Below w.heap.size w w':=by
 have HV:=I hv
 have HV2:=I hv2
 obtain⟨vna,via,rfl,hkw,hnw,hfw,hsw,hns,hil,hi⟩:=ValAt.inv hv
 obtain⟨hnl,NA1,na2,rfl,hnA⟩:=hns
 obtain⟨hil2,A,c,rfl,hA⟩:=hi
 obtain⟨vnb,vib,rfl,hkw2,hnw2,hfw2,hsw2,hns2,hil3,hi2⟩:=ValAt.inv hv2
 obtain⟨hnl2,NB1,nb2,rfl,hnB⟩:=hns2
 obtain⟨hil4,B,c2,rfl,hB⟩:=hi2
 clear hkw hnw hfw hsw hnl hnA hil hil2 hA hkw2 hnw2 hfw2 hsw2 hnl2 hnB hil3 hil4 hB hv hv2
 go_enter Tryz.func163,Tryz.ntmps163
 go_upto_region 1 with (fail)
 have HST:=I (z3r w [.int .i64 ka,.int .i64 na,.float .f64 fa,.string sa,.slice NA1 nsa.length na2,.slice A ia.length c] [.int .i64 kb,.int .i64 nb,.float .f64 fb,.string sb,.slice NB1 nsb.length nb2,.slice B ib.length c2])
 generalize (w.alloc (.cells ⟨[.int .i64 ka,.int .i64 na,.float .f64 fa,.string sa,.slice NA1 nsa.length na2,.slice A ia.length c]⟩ 52)).alloc (.cells ⟨[.int .i64 kb,.int .i64 nb,.float .f64 fb,.string sb,.slice NB1 nsb.length nb2,.slice B ib.length c2]⟩ 52)= W at*
 have d0:W.cell? ⟨w.heap.size,0,none⟩= some (.int .i64 ka):=HST.o.wa.cells 0 rfl
 go_wp2
 exact⟨rfl,rfl,HST.o.bel⟩
theorem z7H (eq:Bool) (k:Int) (na nb:Int) (fa fb:Nat) (sa sb:ByteArray) (nsa nsb:List ByteArray) (ia ib:List VT) (ca cb:List Value) (w:World) (hv:ValAt w w.heap.size ca (.mk k na fa sa nsa ia)) (hv2:ValAt w w.heap.size cb (.mk k nb fb sb nsb ib)):
  Calls Tryz.prog 163 #[.bool eq,.agg ⟨ca⟩,.agg ⟨cb⟩] w (z7C (lessZ eq (.mk k na fa sa nsa ia) (.mk k nb fb sb nsb ib)) w):=by
 unfold lessZ
 dsimp only
 by_cases k3:k= 3
 ·subst k3
  rw[if_pos rfl]
  exact(zfj na nb fa fb sa sb nsa nsb ia ib ca cb w eq hv hv2).mono fun e w' h=>⟨.inl ⟨_,rfl,h.1⟩,h.2⟩
 rw[if_neg k3]
 by_cases k2:k= 2
 ·subst k2
  rw[if_pos (Or.inl rfl)]
  exact(zbY na nb fa fb sa sb nsa nsb ia ib ca cb w _ eq 2 (.inl rfl) hv hv2 rfl).mono fun e w' h=>⟨.inl ⟨_,rfl,h.1⟩,h.2⟩
 by_cases k4:k= 4
 ·subst k4
  rw[if_pos (Or.inr rfl)]
  exact(zbY na nb fa fb sa sb nsa nsb ia ib ca cb w _ eq 4 (.inr rfl) hv hv2 rfl).mono fun e w' h=>⟨.inl ⟨_,rfl,h.1⟩,h.2⟩
 rw[if_neg (by omega)]
 exact(zfs eq k k na nb fa fb sa sb nsa nsb ia ib ca cb w (by simpa using k2) (by simpa using k3) (by simpa using k4) hv hv2).mono fun e w' h=>⟨.inr ⟨_,rfl,h.1⟩,h.2⟩
end
section
open Go Go.RowKit
theorem z2N (P:Nat->Prop) (v:VT) (cs:List Value) (w:World) (hv:Kept P w cs v):Calls Tryz.prog 136 #[.agg ⟨cs⟩] w (UnPost P (szd v) w):=by
 have HV:=I hv
 have HCL:=I (zo hv.val).1
 have HON:=I (zo hv.val).2
 have HVW:=I hv.val
 clear hv
 go_enter Tryz.func136,Tryz.ntmps136
 go_upto_region 1 with (fail)
 have HST:=I (z7W w cs)
 rw[z0q]
 generalize (w.alloc (.cells ⟨cs⟩ 52)).alloc (.cells zV6.toArray 52)= W at*
 have HR:=I (z1x v cs W ((HVW.o.under HST.o.bel).more HST.o.bel.size))
 obtain⟨b,hb⟩:∃ b,(decide (cntV v 0<=200) && zu v 1)= b:=⟨_,rfl⟩
 have HB:Hid (zv v= b):=I hb
 rw[hb] at HR
 clear hb
 cases b with
 |true=>
  have HRES:Hid (szd v= .ok v):=I (by unfold szd;rw[if_pos HB.o])
  go_upto_region 2 with (first|((with_reducible refine za 52 _ rfl ?_ w.heap.size 0 cs _ rfl HST.o.wa.range Tryz.underlying52 rfl ?_ ?_);(exact wA rfl);rw[HCL.o];kernel_rfl)|(go_at_call 61;refine HR.o.mono ?_;rintro e z ⟨rfl,hb⟩;have HBZ:=I hb;clear hb)|(go_at_call 115;refine(zm 3 _).mono ?_;rintro e z ⟨rfl,hzw⟩;rw[hzw];clear hzw z))
  have HRA:=I (HST.o.wa.keep (HBZ.o.block _ HST.o.wa.lt))
  have HRZ:=I (HST.o.wb.keep (HBZ.o.block _ HST.o.wb.lt))
  have HRG:=I HRA.o.range
  go_wp2_with (first|((with_reducible refine za 52 _ rfl ?_ w.heap.size 0 cs _ rfl HRG.o Tryz.underlying52 rfl ?_ ?_);(exact wA rfl);rw[HCL.o];kernel_rfl)|((with_reducible refine zf 52 _ _ rfl rfl ?_ (w.heap.size+1) zV6 (cs) HRZ.o ?_ ?_ ?_ ?_ ?_ ?_);(exact wA rfl);rw[HCL.o];rfl;rfl;rfl;rw[HCL.o];kernel_rfl;exact HON.o;intro Z2 hz hb;have HX:=I hz;have HXB:=I hb;clear hz hb))
  (try simp only[Exit.inBlock,Exit.then])
  refine bodyPost_ret (zi rfl Tryz.underlying52 rfl _ _ (w.heap.size+1) (cs) (by rw[HCL.o];kernel_rfl) rfl HX.o.range) rfl ?_
  have hbel:=(HST.o.bel.trans (HBZ.o.mono HST.o.bel.size)).trans (HXB.o.below (B:=w.heap.size) (Nat.le_trans HST.o.bel.size HBZ.o.size) (by omega) (by omega))
  exact .ok HRES.o rfl (HV.o.grow hbel) hbel
 |false=>
  have HRES:Hid (szd v= .error 3):=I (by unfold szd;rw[if_neg (by rw[HB.o];decide)])
  go_wp2_with (first|((with_reducible refine za 52 _ rfl ?_ w.heap.size 0 cs _ rfl HST.o.wa.range Tryz.underlying52 rfl ?_ ?_);(exact wA rfl);rw[HCL.o];kernel_rfl)|(go_at_call 61;refine HR.o.mono ?_;rintro e z ⟨rfl,hb⟩;have HBZ:=I hb;clear hb)|(go_at_call 115;refine(zA 3 _).mono ?_;rintro e z ⟨rfl,hzw⟩;rw[hzw];clear hzw z))
  exact⟨rfl,.no HRES.o rfl (HST.o.bel.trans (HBZ.o.mono HST.o.bel.size))⟩
theorem z3D:∀ (KL:List zW) (j:Nat) (u:Value),(flat enc6 KL)[j]?= some u->∃ i k r,KL[i]?= some k/\j= i*6+r/\(enc6 k)[r]?= some u
 |[],j,u,h=>by simp[flat] at h
 |k::KL,j,u,h=>by
  have h1:flat enc6 (k::KL)= enc6 k ++ flat enc6 KL:=rfl
  rw[h1] at h
  by_cases hj:j < 6
  ·rw[List.getElem?_append_left (by rw[z0N];exact hj)] at h
   exact⟨0,k,j,rfl,by omega,h⟩
  ·rw[List.getElem?_append_right (by rw[z0N];omega),z0N] at h
   obtain⟨i,k',r,h2,h3,h4⟩:=z3D KL (j - 6) u h
   exact⟨i+1,k',r,by simpa using h2,by omega,h4⟩
theorem z3Q:∀ (K L:List zW),flat enc6 (K ++ L)= flat enc6 K ++ flat enc6 L
 |[],L=>rfl
 |k::K,L=>by
  show enc6 k ++ flat enc6 (K ++ L)=(enc6 k ++ flat enc6 K) ++ flat enc6 L
  rw[z3Q K L,List.append_assoc]
theorem z1Z:∀ (K:List zW),(flat enc6 K).length= K.length*6
 |[]=>rfl
 |k::K=>by
  show(enc6 k ++ flat enc6 K).length= _
  rw[List.length_append,z0N,z1Z K,List.length_cons];omega
theorem z1P {P:Nat->Prop} {w:World} {v:Value} {its:List VT} (h:SlAt (only w P) w.heap.size 6 (ValAt (only w P) w.heap.size) v its):∃ A c,v= .slice A its.length c/\∃ KL:List zW,KL.length= its.length/\
  (∀ (j:Nat) (k:zW) (x:VT),KL[j]?= some k->its[j]?= some x->Kept P w k.1 x)/\(0 < its.length->∃ b ob,A= some ⟨b,ob,none⟩/\b < w.heap.size/\∀ j u,(flat enc6 KL)[j]?= some u->w.cell? ⟨b,ob+j,none⟩= some u)/\(∀ u∈flat enc6 KL,u.oneCell'= true):=by
 obtain⟨_,A,c,rfl,hA⟩:=h
 refine⟨A,c,rfl,?_⟩
 rcases Nat.eq_zero_or_pos its.length with h0|h0
 ·exact⟨[],by simp[h0],fun j k x hk=>by simp at hk,fun h1=>by omega,fun u hu=>by simp[flat] at hu⟩
 ·obtain⟨b,o,rfl,hb,hc⟩:=hA h0
  have hex:∀ i:Nat,∃ k:zW,∀ x,its[i]?= some x->(only w P).rangeAt b (o+i*6) k.1/\ValAt (only w P) w.heap.size k.1 x:=fun i=>by
   cases hx:its[i]? with
   |none=>exact⟨⟨[undef,undef,undef,undef,undef,undef],rfl⟩,fun x h=>by cases h⟩
   |some x=>
    obtain⟨ks,hl,hr,hv⟩:=hc i x hx
    exact⟨⟨ks,hl⟩,fun y hy=>by injection hy with hy;subst hy;exact⟨hr,hv⟩⟩
  obtain⟨f,hf⟩:=Classical.skolem.1 hex
  have hKL:∀ (j:Nat) (k:zW),((List.range its.length).map f)[j]?= some k->j < its.length/\k= f j:=fun j k hk=>by
   rw[List.getElem?_map,Option.map_eq_some_iff] at hk
   obtain⟨i,hi,rfl⟩:=hk
   obtain⟨h1,h2⟩:=List.getElem?_eq_some_iff.1 hi
   simp at h1 h2
   subst h2
   exact⟨h1,rfl⟩
  refine⟨(List.range its.length).map f,by simp,fun j k x hk hx=> ?_,fun _=>⟨b,o,rfl,hb,fun j u hu=> ?_⟩,fun u hu=> ?_⟩
  ·obtain⟨_,rfl⟩:=hKL j k hk
   exact(hf j x hx).2
  ·obtain⟨i,k,r,h1,rfl,h3⟩:=z3D _ j u hu
   obtain⟨hi,rfl⟩:=hKL i k h1
   have:=(hf i its[i] (List.getElem?_eq_getElem hi)).1 r u h3
   rw[show o+i*6+r= o+ (i*6+r) by omega] at this
   exact(zp.1 this).2
  ·obtain⟨j,hj⟩:=List.mem_iff_getElem?.1 hu
   obtain⟨i,k,r,h1,rfl,h3⟩:=z3D _ j u hj
   obtain⟨hi,rfl⟩:=hKL i k h1
   exact ValAt.one (hf i its[i] (List.getElem?_eq_getElem hi)).2 u (List.mem_of_getElem? h3)
theorem z8k {Q:Nat->Prop} {w':World} {base:Nat} {v:Value} {KL:List zW} {its:List VT} (ho:OwnSl 52 6 enc6 w' base v KL) (hl:KL.length= its.length) (hm:its.length<=9223372036854775807) (hQ:∀ b,base<=b->Q b)
  (he:∀ (j:Nat) (k:zW) (x:VT),KL[j]?= some k->its[j]?= some x->Kept Q w' k.1 x):SlAt (only w' Q) w'.heap.size 6 (ValAt (only w' Q) w'.heap.size) v its:=by
 refine⟨hm,?_⟩
 rcases ho.2 with ⟨rfl,h0⟩|⟨g,cap,cur,hv,hg,_,_⟩
 ·exact⟨none,0,by rw[← hl,h0],fun h1=>by omega⟩
 ·refine⟨some ⟨g,0,none⟩,cap,by rw[hv,hl],fun _=> ?_⟩
  have hown:v.ownBlock= some g:=by rw[hv];rfl
  refine⟨g,0,rfl,z0u ho hown,fun i x hx=> ?_⟩
  have hi:=(List.getElem?_eq_some_iff.1 hx).1
  have hki:KL[i]?= some (KL[i]'(by rw[hl];exact hi)):=List.getElem?_eq_getElem _
  refine⟨_,(KL[i]'(by rw[hl];exact hi)).2,fun j c hc=> ?_,he i _ x hki hx⟩
  refine zp.2 ⟨hQ g hg,?_⟩
  have:=World.ownsRow.cells ho hown (i*6+j) c (z11 z0N KL i _ hki j c hc)
  rw[Addr.add_mid] at this
  rw[show 0+i*6+j= 0+ (i*6+j) by omega];exact this
theorem z4k {n:Int}:wfI n↔(-9223372036854775808<=n/\n<=9223372036854775807):=by
 refine⟨fun h=> ?_,z0b⟩
 unfold wfI Lit.wf at h
 simp only[Bool.and_eq_true,decide_eq_true_eq] at h
 exact h
theorem z5g {m n:Int} (h:okI m= .ok n): -9223372036854775808<=n/\n<=9223372036854775807:=by
 unfold okI at h
 split at h
 ·injection h with h;subst h;assumption
 ·cases h
theorem zbM {k a b n:Int} (ha: -9223372036854775808<=a/\a<=9223372036854775807) (h:z2p k a b= .ok n): -9223372036854775808<=n/\n<=9223372036854775807:=by
 unfold z2p at h
 split at h
 ·exact z5g h
 split at h
 ·exact z5g h
 split at h
 ·exact z5g h
 split at h
 ·cases h
 split at h
 ·injection h with h;subst h;exact z9d ha
 ·exact z5g h
theorem z5b (op:BinOp) (a b:Nat):(Lit.float .f64 (fopV op a b)).wf= true:=by
 unfold fopV
 split
 ·exact z3f (floatBits_wf (by assumption))
 ·decide
theorem za9 {k:Int} {a b n:Nat} (h:z1N k a b= .ok n):zl n= n/\(Lit.float .f64 n).wf= true:=by
 unfold z1N at h
 split at h
 ·injection h with h;subst h;exact⟨z2A _ _ _,z5b _ _ _⟩
 split at h
 ·injection h with h;subst h;exact⟨z2A _ _ _,z5b _ _ _⟩
 split at h
 ·injection h with h;subst h;exact⟨z2A _ _ _,z5b _ _ _⟩
 split at h
 ·injection h with h;subst h;exact⟨z2A _ _ _,z5b _ _ _⟩
 ·cases h
theorem z8d:(Tryz.prog.info? 50).map (fun i=>(i.zero,i.size,i.bytes))= some (some (.slice none 0 0),1,24):=by kernel_rfl
theorem z8H {P:Program} (w:World) (t e:TypeId) (i:TypeInfo) (z:Value) (A B:Option Addr) (n m c d:Nat) (ht:P.underlying t= some (.slice e)) (hi:P.info? e= some i) (hz:i.zero= some z) (hzc:z.cells.size= 1) (hsz:i.size= 1):
  (Instr.buildSlice t 2 #[(0,.slice A n c),(1,.slice B m d)]).run P w= .ok (.slice (some ⟨w.heap.size,0,none⟩) 2 2) (w.alloc (.cells #[.slice A n c,.slice B m d] e)):=by
 have hs:(sizeOf e).run P w= .ok 1 w:=by simp[sizeOf,typeInfo,hi,hsz]
 have hzv:(zeroValue e).run P w= .ok z w:=by simp[zeroValue,typeInfo,hi,hz]
 have hf:∀ cells:Array Value,cells.size= 2*1->Instr.fill (fun i=>some (i*1,1)) cells [(0,.slice A n c),(1,.slice B m d)]= some #[.slice A n c,.slice B m d]:=fun cells hc=>ze2 1 [.slice A n c] [.slice B m d] cells rfl rfl hc
 unfold Instr.buildSlice
 simp only[Sem.run_bind,run_underlying ht,Result.andThen_ok,hs]
 rw[if_neg (by omega),if_neg (by omega)]
 simp only[Sem.run_bind,Sem.run_pure,Result.andThen_ok,hzv]
 rw[hf _ (by simp)]
 simp[newRow]
theorem z3E {P:Program} {o:Oper} {a:Act} {w:World} (t:TypeId) (x y:Operand) (ho:o.op= .buildSlice t 2 #[(0,x),(1,y)]) (e:TypeId) (i:TypeInfo) (z:Value) (A B:Option Addr) (n m c d:Nat) (hx:a.eval x= .slice A n c) (hy:a.eval y= .slice B m d)
  (ht:P.underlying t= some (.slice e)) (hi:P.info? e= some i) (hz:i.zero= some z) (hzc:z.cells.size= 1) (hsz:i.size= 1):
  (execOp a.eval o).run P w= .ok (.value (.slice (some ⟨w.heap.size,0,none⟩) 2 2)) (w.alloc (.cells #[.slice A n c,.slice B m d] e)):=by
 unfold execOp
 have hr:=z8H (P:=P) w t e i z A B n m c d ht hi hz hzc hsz
 simp only[ho,List.map_toArray,List.map_cons,List.map_nil,hx,hy,Sem.run_bind,Sem.run_pure,Result.andThen_ok,hr]
theorem z9S (P:Nat->Prop) (k:Int) (a b:VT) (ca cb:List Value) (w:World) (hv:Kept P w ca a) (hv2:Kept P w cb b) (hra:zv a= true) (hrb:zv b= true):
  Calls Tryz.prog 138 #[.int .i64 k,.agg ⟨ca⟩,.agg ⟨cb⟩] w (UnPost P (binV k a b) w):=by
 cases a with
 |mk ka na fa sa nsa ia=>
 cases b with
 |mk kb nb fb sb nsb ib=>
 obtain⟨r,hres⟩:∃ r,binV k (.mk ka na fa sa nsa ia) (.mk kb nb fb sb nsb ib)= r:=⟨_,rfl⟩
 rw[hres]
 rw[binV] at hres
 have HV:=I hv
 have HV2:=I hv2
 have HVW:=I hv.val
 have HVW2:=I hv2.val
 have HRA:=I hra
 have HRB:=I hrb
 have HON1:=I (zo hv.val).2
 have HON2:=I (zo hv2.val).2
 obtain⟨vna,via,rfl,hkw,hnw,hfw,hsw,hns,hil,hi⟩:=ValAt.inv hv
 obtain⟨hnl,NA1,na2,rfl,hnA⟩:=hns
 have hi0:=hi
 obtain⟨hil2,A,c,rfl,hA⟩:=hi
 obtain⟨vnb,vib,rfl,hkw2,hnw2,hfw2,hsw2,hns2,hil3,hi2⟩:=ValAt.inv hv2
 obtain⟨hnl2,NB1,nb2,rfl,hnB⟩:=hns2
 have hi20:=hi2
 obtain⟨hil4,B,c2,rfl,hB⟩:=hi2
 have HWF:=I (And.intro hnw (And.intro hfw (And.intro hnw2 hfw2)))
 have HIT:=I hi0
 have HIT2:=I hi20
 clear hkw hnw hfw hsw hnl hnA hil hil2 hA hkw2 hnw2 hfw2 hsw2 hnl2 hnB hil3 hil4 hB hv hv2 hra hrb hi0 hi20
 go_enter Tryz.func138,Tryz.ntmps138
 go_upto_region 1 with (fail)
 have HST:=I (zda w [.int .i64 ka,.int .i64 na,.float .f64 fa,.string sa,.slice NA1 nsa.length na2,.slice A ia.length c] [.int .i64 kb,.int .i64 nb,.float .f64 fb,.string sb,.slice NB1 nsb.length nb2,.slice B ib.length c2])
 rw[z0q]
 generalize ((w.alloc (.cells ⟨[.int .i64 ka,.int .i64 na,.float .f64 fa,.string sa,.slice NA1 nsa.length na2,.slice A ia.length c]⟩ 52)).alloc (.cells ⟨[.int .i64 kb,.int .i64 nb,.float .f64 fb,.string sb,.slice NB1 nsb.length nb2,.slice B ib.length c2]⟩ 52)).alloc (.cells zV6.toArray 52)= W at*
 by_cases k19:k= 19
 ·subst k19
  rw[if_pos rfl] at hres
  by_cases h5:ka= 5
  ·subst h5
   by_cases h2:kb= 2
   ·subst h2
    rw[if_pos ⟨rfl,rfl⟩] at hres
    by_cases hn:0<=nb/\nb <(ia.length:Int)
    ·rw[if_pos hn] at hres
     obtain⟨j,hjn⟩:∃ j,nb.toNat= j:=⟨_,rfl⟩
     have hj:j < ia.length:=by omega
     have hgd:ia.getD j v0= ia[j]:=by simp[List.getD,List.getElem?_eq_getElem hj]
     rw[hjn,hgd] at hres
     have hnb:Hid (nb=(j:Int)):=(I (by omega))
     clear hn hjn hgd
     have HRES:Hid (r= .ok ia[j]):=I hres.symm
     clear hres
     have d0:W.cell? ⟨w.heap.size,0,none⟩= some (.int .i64 5):=HST.o.wa.cells 0 rfl
     have c0:W.cell? ⟨w.heap.size+1,0,none⟩= some (.int .i64 2):=HST.o.wb.cells 0 rfl
     have hnb:=hnb.o
     subst hnb
     have n1:W.cell? ⟨w.heap.size+1,1,none⟩= some (.int .i64 (j:Int)):=HST.o.wb.cells 1 rfl
     have n5:W.cell? ⟨w.heap.size,5,none⟩= some (.slice A ia.length c):=HST.o.wa.cells 5 rfl
     have hj2:(j:Int) <(ia.length:Int):=by omega
     have hj0:(0:Int)<=(j:Int):=by omega
     obtain⟨-,A2,c3,he2,hA⟩:=HIT.o
     simp only[Value.slice.injEq] at he2
     obtain⟨rfl, -,rfl⟩:=he2
     obtain⟨b,ob,rfl,hbb,hc⟩:=hA (by omega)
     obtain⟨ks,hkl,hkr,hkv⟩:=hc j _ (List.getElem?_eq_getElem hj)
     have HKV:Hid (Kept P w ks ia[j]):=I hkv
     have HKL:=I hkl
     have HKR:Hid (W.rangeAt b (ob+j*6) ks):=I (zc (z0l hkr fun a v h=>(zp.1 h).2) HST.o.bel hbb)
     have HON:=I (zo HKV.o.val).2
     have HRW:=I HST.o.wr
     clear hc hkl hkr hkv hA hbb
     go_wp2_with (first|(go_at_call 115;refine(zm 6 _).mono ?_;rintro e z ⟨rfl,hzw⟩;rw[hzw];clear hzw z)|(go_at_call 115;refine(zm 9 _).mono ?_;rintro e z ⟨rfl,hzw⟩;rw[hzw];clear hzw z)|((with_reducible refine za 52 _ rfl ?_ b (ob+j*6) ks _ rfl HKR.o Tryz.underlying52 rfl ?_ ?_);(exact wA rfl);rw[HKL.o];kernel_rfl)|((with_reducible refine zf 52 _ _ rfl rfl ?_ (w.heap.size+2) zV6 (ks) HRW.o ?_ ?_ ?_ ?_ ?_ ?_);(exact wA rfl);rw[HKL.o];rfl;rfl;rfl;rw[HKL.o];kernel_rfl;exact HON.o;intro Z2 hz hb;have HX:=I hz;have HXB:=I hb;clear hz hb))
     (try simp only[Exit.inBlock,Exit.then])
     refine bodyPost_ret (zi rfl Tryz.underlying52 rfl _ _ (w.heap.size+2) (ks) (by rw[HKL.o];kernel_rfl) rfl HX.o.range) rfl ?_
     have hbel:=BB.fin HST.o HXB.o
     exact .ok HRES.o rfl (HKV.o.grow hbel) hbel
    ·rw[if_neg hn] at hres
     by_cases h0:0<=nb
     ·have h1:decide (0<=nb)= true:=(decide_eq_true h0)
      have h2:decide (nb <(ia.length:Int))= false:=(decide_eq_false (by omega))
      have HRES:Hid (r= .error 9):=I hres.symm
      clear hres
      have d0:W.cell? ⟨w.heap.size,0,none⟩= some (.int .i64 5):=HST.o.wa.cells 0 rfl
      have c0:W.cell? ⟨w.heap.size+1,0,none⟩= some (.int .i64 2):=HST.o.wb.cells 0 rfl
      have n1:W.cell? ⟨w.heap.size+1,1,none⟩= some (.int .i64 nb):=HST.o.wb.cells 1 rfl
      have n5:W.cell? ⟨w.heap.size,5,none⟩= some (.slice A ia.length c):=HST.o.wa.cells 5 rfl
      go_wp2_with (first|(go_at_call 115;refine(zm 6 _).mono ?_;rintro e z ⟨rfl,hzw⟩;rw[hzw];clear hzw z)|(go_at_call 115;refine(zA 9 _).mono ?_;rintro e z ⟨rfl,hzw⟩;rw[hzw];clear hzw z))
      exact⟨rfl,.no HRES.o rfl HST.o.bel⟩
     ·have h1:decide (0<=nb)= false:=(decide_eq_false h0)
      have HRES:Hid (r= .error 9):=I hres.symm
      clear hres
      have d0:W.cell? ⟨w.heap.size,0,none⟩= some (.int .i64 5):=HST.o.wa.cells 0 rfl
      have c0:W.cell? ⟨w.heap.size+1,0,none⟩= some (.int .i64 2):=HST.o.wb.cells 0 rfl
      have n1:W.cell? ⟨w.heap.size+1,1,none⟩= some (.int .i64 nb):=HST.o.wb.cells 1 rfl
      have n5:W.cell? ⟨w.heap.size,5,none⟩= some (.slice A ia.length c):=HST.o.wa.cells 5 rfl
      go_wp2_with (first|(go_at_call 115;refine(zm 6 _).mono ?_;rintro e z ⟨rfl,hzw⟩;rw[hzw];clear hzw z)|(go_at_call 115;refine(zA 9 _).mono ?_;rintro e z ⟨rfl,hzw⟩;rw[hzw];clear hzw z))
      exact⟨rfl,.no HRES.o rfl HST.o.bel⟩
   ·rw[if_neg (by simp[h2])] at hres
    have h1:(kb ==2)= false:=(by simpa using h2)
    have HRES:Hid (r= .error 6):=I hres.symm
    clear hres
    have d0:W.cell? ⟨w.heap.size,0,none⟩= some (.int .i64 5):=HST.o.wa.cells 0 rfl
    have c0:W.cell? ⟨w.heap.size+1,0,none⟩= some (.int .i64 kb):=HST.o.wb.cells 0 rfl
    go_wp2_with ((go_at_call 115;refine(zA 6 _).mono ?_;rintro e z ⟨rfl,hzw⟩;rw[hzw];clear hzw z))
    exact⟨rfl,.no HRES.o rfl HST.o.bel⟩
  ·rw[if_neg (by simp[h5])] at hres
   have h1:(ka ==5)= false:=(by simpa using h5)
   have HRES:Hid (r= .error 6):=I hres.symm
   clear hres
   have d0:W.cell? ⟨w.heap.size,0,none⟩= some (.int .i64 ka):=HST.o.wa.cells 0 rfl
   have c0:W.cell? ⟨w.heap.size+1,0,none⟩= some (.int .i64 kb):=HST.o.wb.cells 0 rfl
   go_wp2_with ((go_at_call 115;refine(zA 6 _).mono ?_;rintro e z ⟨rfl,hzw⟩;rw[hzw];clear hzw z))
   exact⟨rfl,.no HRES.o rfl HST.o.bel⟩
 rw[if_neg k19] at hres
 have e19:(k ==19)= false:=by simpa using k19
 by_cases hkk:ka= kb
 ·subst hkk
  rw[if_neg (by simp)] at hres
  by_cases k10:k= 10
  ·subst k10
   rw[if_pos rfl] at hres
   have HRES:Hid (r= .ok (vB (eqV (.mk ka na fa sa nsa ia) (.mk ka nb fb sb nsb ib)))):=I hres.symm
   clear hres
   have d0:W.cell? ⟨w.heap.size,0,none⟩= some (.int .i64 ka):=HST.o.wa.cells 0 rfl
   have c0:W.cell? ⟨w.heap.size+1,0,none⟩= some (.int .i64 ka):=HST.o.wb.cells 0 rfl
   have HVE:=I (zf9 _ _ _ _ W ((HVW.o.under HST.o.bel).more HST.o.bel.size) ((HVW2.o.under HST.o.bel).more HST.o.bel.size))
   obtain⟨x,hx⟩:∃ x,eqV (.mk ka na fa sa nsa ia) (.mk ka nb fb sb nsb ib)= x:=⟨_,rfl⟩
   rw[hx] at HVE HRES
   clear hx
   go_wp2_with (first|(go_at_call 115;refine(zm 6 _).mono ?_;rintro e z ⟨rfl,hzw⟩;rw[hzw];clear hzw z)|((with_reducible refine za 52 _ rfl ?_ w.heap.size 0 [.int .i64 ka,.int .i64 na,.float .f64 fa,.string sa,.slice NA1 nsa.length na2,.slice A ia.length c] _ rfl HST.o.wa.range Tryz.underlying52 rfl ?_ ?_);(exact wA rfl);kernel_rfl)|((with_reducible refine za 52 _ rfl ?_ (w.heap.size+1) 0 [.int .i64 ka,.int .i64 nb,.float .f64 fb,.string sb,.slice NB1 nsb.length nb2,.slice B ib.length c2] _ rfl HST.o.wb.range Tryz.underlying52 rfl ?_ ?_);(exact wA rfl);kernel_rfl)|(go_at_call 162;refine HVE.o.mono ?_;rintro e z ⟨rfl,hb⟩;have HS1:=I (HST.o.next hb);clear hb)|(go_at_call 135;refine(z14 x _).mono ?_;rintro e z ⟨rfl,hb⟩;have HSZ:=I (BB.next HS1.o hb);have HRZ:=I HSZ.o.wr;clear hb)|((with_reducible refine zf 52 _ _ rfl rfl ?_ (w.heap.size+2) zV6 (tC x) HRZ.o ?_ ?_ ?_ ?_ ?_ ?_);(exact wA rfl);rfl;rfl;rfl;kernel_rfl;exact z22 x;intro Z2 hz hb;have HX:=I hz;have HXB:=I hb;clear hz hb))
   (try simp only[Exit.inBlock,Exit.then])
   refine bodyPost_ret (zi rfl Tryz.underlying52 rfl _ _ (w.heap.size+2) (tC x) (by kernel_rfl) rfl HX.o.range) rfl ?_
   have hbel:=BB.fin HSZ.o HXB.o
   exact .ok HRES.o rfl (z1s _ _ x) hbel
  rw[if_neg k10] at hres
  by_cases k11:k= 11
  ·subst k11
   rw[if_pos (Or.inl rfl)] at hres
   have HRES:Hid (r=(lessZ false (.mk ka na fa sa nsa ia) (.mk ka nb fb sb nsb ib)).map vB):=I hres.symm
   clear hres
   have d0:W.cell? ⟨w.heap.size,0,none⟩= some (.int .i64 ka):=HST.o.wa.cells 0 rfl
   have c0:W.cell? ⟨w.heap.size+1,0,none⟩= some (.int .i64 ka):=HST.o.wb.cells 0 rfl
   have HVE:=I (z7H false ka na nb fa fb sa sb nsa nsb ia ib _ _ W ((HVW.o.under HST.o.bel).more HST.o.bel.size) ((HVW2.o.under HST.o.bel).more HST.o.bel.size))
   generalize lessZ false (.mk ka na fa sa nsa ia) (.mk ka nb fb sb nsb ib)= res at*
   go_wp2_with (first|(go_at_call 115;refine(zm 6 _).mono ?_;rintro e z ⟨rfl,hzw⟩;rw[hzw];clear hzw z)|((with_reducible refine za 52 _ rfl ?_ w.heap.size 0 [.int .i64 ka,.int .i64 na,.float .f64 fa,.string sa,.slice NA1 nsa.length na2,.slice A ia.length c] _ rfl HST.o.wa.range Tryz.underlying52 rfl ?_ ?_);(exact wA rfl);kernel_rfl)|((with_reducible refine za 52 _ rfl ?_ (w.heap.size+1) 0 [.int .i64 ka,.int .i64 nb,.float .f64 fb,.string sb,.slice NB1 nsb.length nb2,.slice B ib.length c2] _ rfl HST.o.wb.range Tryz.underlying52 rfl ?_ ?_);(exact wA rfl);kernel_rfl)|(go_at_call 163;fail))
   refine HVE.o.mono ?_
   rintro e z ⟨⟨x,rfl,rfl⟩|⟨n,rfl,rfl⟩,hb⟩
   ·have HS1:=I (HST.o.next hb)
    have HRE2:Hid (r= .ok (vB x)):=I HRES.o
    clear hb
    go_wp2_with (first|(go_at_call 135;refine(z14 x _).mono ?_;rintro e z ⟨rfl,hb⟩;have HSZ:=I (BB.next HS1.o hb);have HRZ:=I HSZ.o.wr;clear hb)|((with_reducible refine zf 52 _ _ rfl rfl ?_ (w.heap.size+2) zV6 (tC x) HRZ.o ?_ ?_ ?_ ?_ ?_ ?_);(exact wA rfl);rfl;rfl;rfl;kernel_rfl;exact z22 x;intro Z2 hz hb;have HX:=I hz;have HXB:=I hb;clear hz hb))
    (try simp only[Exit.inBlock,Exit.then])
    refine bodyPost_ret (zi rfl Tryz.underlying52 rfl _ _ (w.heap.size+2) (tC x) (by kernel_rfl) rfl HX.o.range) rfl ?_
    have hbel:=BB.fin HSZ.o HXB.o
    exact .ok HRE2.o rfl (z1s _ _ x) hbel
   ·have HS1:=I (HST.o.next hb)
    have HRE2:Hid (r= .error n):=I HRES.o
    clear hb
    go_wp2
    exact⟨rfl,.no HRE2.o rfl HS1.o.bel⟩
  by_cases k12:k= 12
  ·subst k12
   rw[if_pos (Or.inr rfl)] at hres
   have HRES:Hid (r=(lessZ true (.mk ka na fa sa nsa ia) (.mk ka nb fb sb nsb ib)).map vB):=I hres.symm
   clear hres
   have d0:W.cell? ⟨w.heap.size,0,none⟩= some (.int .i64 ka):=HST.o.wa.cells 0 rfl
   have c0:W.cell? ⟨w.heap.size+1,0,none⟩= some (.int .i64 ka):=HST.o.wb.cells 0 rfl
   have HVE:=I (z7H true ka na nb fa fb sa sb nsa nsb ia ib _ _ W ((HVW.o.under HST.o.bel).more HST.o.bel.size) ((HVW2.o.under HST.o.bel).more HST.o.bel.size))
   generalize lessZ true (.mk ka na fa sa nsa ia) (.mk ka nb fb sb nsb ib)= res at*
   go_wp2_with (first|(go_at_call 115;refine(zm 6 _).mono ?_;rintro e z ⟨rfl,hzw⟩;rw[hzw];clear hzw z)|((with_reducible refine za 52 _ rfl ?_ w.heap.size 0 [.int .i64 ka,.int .i64 na,.float .f64 fa,.string sa,.slice NA1 nsa.length na2,.slice A ia.length c] _ rfl HST.o.wa.range Tryz.underlying52 rfl ?_ ?_);(exact wA rfl);kernel_rfl)|((with_reducible refine za 52 _ rfl ?_ (w.heap.size+1) 0 [.int .i64 ka,.int .i64 nb,.float .f64 fb,.string sb,.slice NB1 nsb.length nb2,.slice B ib.length c2] _ rfl HST.o.wb.range Tryz.underlying52 rfl ?_ ?_);(exact wA rfl);kernel_rfl)|(go_at_call 163;fail))
   refine HVE.o.mono ?_
   rintro e z ⟨⟨x,rfl,rfl⟩|⟨n,rfl,rfl⟩,hb⟩
   ·have HS1:=I (HST.o.next hb)
    have HRE2:Hid (r= .ok (vB x)):=I HRES.o
    clear hb
    go_wp2_with (first|(go_at_call 135;refine(z14 x _).mono ?_;rintro e z ⟨rfl,hb⟩;have HSZ:=I (BB.next HS1.o hb);have HRZ:=I HSZ.o.wr;clear hb)|((with_reducible refine zf 52 _ _ rfl rfl ?_ (w.heap.size+2) zV6 (tC x) HRZ.o ?_ ?_ ?_ ?_ ?_ ?_);(exact wA rfl);rfl;rfl;rfl;kernel_rfl;exact z22 x;intro Z2 hz hb;have HX:=I hz;have HXB:=I hb;clear hz hb))
    (try simp only[Exit.inBlock,Exit.then])
    refine bodyPost_ret (zi rfl Tryz.underlying52 rfl _ _ (w.heap.size+2) (tC x) (by kernel_rfl) rfl HX.o.range) rfl ?_
    have hbel:=BB.fin HSZ.o HXB.o
    exact .ok HRE2.o rfl (z1s _ _ x) hbel
   ·have HS1:=I (HST.o.next hb)
    have HRE2:Hid (r= .error n):=I HRES.o
    clear hb
    go_wp2
    exact⟨rfl,.no HRE2.o rfl HS1.o.bel⟩
  rw[if_neg (by omega)] at hres
  have e10:(k ==10)= false:=by simpa using k10
  have e11:(k ==11)= false:=by simpa using k11
  have e12:(k ==12)= false:=by simpa using k12
  by_cases h2:ka= 2
  ·subst h2
   rw[if_pos rfl] at hres
   have h19:(k ==19)= false:=e19
   have h10:(k ==10)= false:=e10
   have h11:(k ==11)= false:=e11
   have h12:(k ==12)= false:=e12
   have HRES:Hid (r=(z2p k na nb).map vI):=I hres.symm
   clear hres
   have d0:W.cell? ⟨w.heap.size,0,none⟩= some (.int .i64 2):=HST.o.wa.cells 0 rfl
   have c0:W.cell? ⟨w.heap.size+1,0,none⟩= some (.int .i64 2):=HST.o.wb.cells 0 rfl
   have n1:W.cell? ⟨w.heap.size+1,1,none⟩= some (.int .i64 nb):=HST.o.wb.cells 1 rfl
   have n2:W.cell? ⟨w.heap.size,1,none⟩= some (.int .i64 na):=HST.o.wa.cells 1 rfl
   have HWH:=I (zcD k na nb (z4k.1 HWF.o.1) (z4k.1 HWF.o.2.2.1) W)
   have HWR:=I (fun n=>zbM (k:=k) (a:=na) (b:=nb) (n:=n) (z4k.1 HWF.o.1))
   generalize z2p k na nb= res at*
   go_wp2_with (first|(go_at_call 115;refine(zm 6 _).mono ?_;rintro e z ⟨rfl,hzw⟩;rw[hzw];clear hzw z)|(go_at_call 164;fail))
   refine HWH.o.mono ?_
   rintro e z ⟨⟨x,rfl,rfl⟩|⟨n,rfl,rfl⟩,hzw⟩
   ·rw[hzw]
    clear hzw z
    have HRE2:Hid (r= .ok (vI x)):=I HRES.o
    have HWX:=I (z4k.2 (HWR.o x rfl))
    go_wp2_with (first|(go_at_call 158;refine(z1v x _).mono ?_;rintro e z ⟨rfl,hb⟩;have HSZ:=I (BB.next HST.o hb);have HRZ:=I HSZ.o.wr;clear hb)|((with_reducible refine zf 52 _ _ rfl rfl ?_ (w.heap.size+2) zV6 (valC 2 x 0 ⟨#[]⟩) HRZ.o ?_ ?_ ?_ ?_ ?_ ?_);(exact wA rfl);rfl;rfl;rfl;kernel_rfl;exact z00 _ _ _ _;intro Z2 hz hb;have HX:=I hz;have HXB:=I hb;clear hz hb))
    (try simp only[Exit.inBlock,Exit.then])
    refine bodyPost_ret (zi rfl Tryz.underlying52 rfl _ _ (w.heap.size+2) (valC 2 x 0 ⟨#[]⟩) (by kernel_rfl) rfl HX.o.range) rfl ?_
    have hbel:=BB.fin HSZ.o HXB.o
    exact .ok HRE2.o rfl (z2l _ _ x HWX.o) hbel
   ·rw[hzw]
    clear hzw z
    have HRE2:Hid (r= .error n):=I HRES.o
    go_wp2
    exact⟨rfl,.no HRE2.o rfl HST.o.bel⟩
  rw[if_neg h2] at hres
  by_cases h3:ka= 3
  ·subst h3
   rw[if_pos rfl] at hres
   have h19:(k ==19)= false:=e19
   have h10:(k ==10)= false:=e10
   have h11:(k ==11)= false:=e11
   have h12:(k ==12)= false:=e12
   have HRES:Hid (r=(z1N k fa fb).map vF):=I hres.symm
   clear hres
   have d0:W.cell? ⟨w.heap.size,0,none⟩= some (.int .i64 3):=HST.o.wa.cells 0 rfl
   have c0:W.cell? ⟨w.heap.size+1,0,none⟩= some (.int .i64 3):=HST.o.wb.cells 0 rfl
   have n1:W.cell? ⟨w.heap.size+1,2,none⟩= some (.float .f64 fb):=HST.o.wb.cells 2 rfl
   have n2:W.cell? ⟨w.heap.size,2,none⟩= some (.float .f64 fa):=HST.o.wa.cells 2 rfl
   have HWH:=I (zav k fa fb W)
   have HWR:=I (fun n=>za9 (k:=k) (a:=fa) (b:=fb) (n:=n))
   generalize z1N k fa fb= res at*
   go_wp2_with (first|(go_at_call 115;refine(zm 6 _).mono ?_;rintro e z ⟨rfl,hzw⟩;rw[hzw];clear hzw z)|(go_at_call 165;fail))
   refine HWH.o.mono ?_
   rintro e z ⟨⟨x,rfl,rfl⟩|⟨n,rfl,rfl⟩,hb⟩
   ·have HS1:=I (HST.o.next hb)
    have HRE2:Hid (r= .ok (vF (zl x))):=I (by rw[(HWR.o x rfl).1];exact HRES.o)
    have HWX:=I (HWR.o x rfl).2
    clear hb
    go_wp2_with (first|(go_at_call 155;refine(z81 x _).mono ?_;rintro e z ⟨rfl,hb⟩;have HSZ:=I (BB.next HS1.o hb);have HRZ:=I HSZ.o.wr;clear hb)|((with_reducible refine zf 52 _ _ rfl rfl ?_ (w.heap.size+2) zV6 (valC 3 0 (zl x) ⟨#[]⟩) HRZ.o ?_ ?_ ?_ ?_ ?_ ?_);(exact wA rfl);rfl;rfl;rfl;kernel_rfl;exact z00 _ _ _ _;intro Z2 hz hb;have HX:=I hz;have HXB:=I hb;clear hz hb))
    (try simp only[Exit.inBlock,Exit.then])
    refine bodyPost_ret (zi rfl Tryz.underlying52 rfl _ _ (w.heap.size+2) (valC 3 0 (zl x) ⟨#[]⟩) (by kernel_rfl) rfl HX.o.range) rfl ?_
    have hbel:=BB.fin HSZ.o HXB.o
    exact .ok HRE2.o rfl (z60 _ _ _ (z3f HWX.o)) hbel
   ·have HS1:=I (HST.o.next hb)
    have HRE2:Hid (r= .error n):=I HRES.o
    clear hb
    go_wp2
    exact⟨rfl,.no HRE2.o rfl HS1.o.bel⟩
  rw[if_neg h3] at hres
  have e2:(ka ==2)= false:=by simpa using h2
  have e3:(ka ==3)= false:=by simpa using h3
  by_cases k5:k= 5
  ·subst k5
   by_cases h4:ka= 4
   ·subst h4
    rw[if_pos ⟨rfl,Or.inl rfl⟩] at hres
    have HRES:Hid (r= szd (.mk 4 0 0 (sa ++ sb) [] (ia ++ ib))):=I hres.symm
    clear hres
    have d0:W.cell? ⟨w.heap.size,0,none⟩= some (.int .i64 4):=HST.o.wa.cells 0 rfl
    have c0:W.cell? ⟨w.heap.size+1,0,none⟩= some (.int .i64 4):=HST.o.wb.cells 0 rfl
    have n3:W.cell? ⟨w.heap.size,3,none⟩= some (.string sa):=HST.o.wa.cells 3 rfl
    have n5:W.cell? ⟨w.heap.size,5,none⟩= some (.slice A ia.length c):=HST.o.wa.cells 5 rfl
    have m3:W.cell? ⟨w.heap.size+1,3,none⟩= some (.string sb):=HST.o.wb.cells 3 rfl
    have m5:W.cell? ⟨w.heap.size+1,5,none⟩= some (.slice B ib.length c2):=HST.o.wb.cells 5 rfl
    have hcat:∀ W:World,(Op.stringOp .add sa sb).run Tryz.prog W= .ok (.string (sa ++ sb)) W:=fun W=>run_string_add_sum W _ _ (by have h1:=z0n HRA.o;have h2:=z0n HRB.o;simp;omega)
    have hcat2:∀ W:World,(binOp .add 9 (.string sa) (.string sb)).run Tryz.prog W= .ok (.string (sa ++ sb)) W:=fun W=>hcat W
    have HLA1:=I HST.o.wa.lt
    have HLB1:=I HST.o.wb.lt
    obtain⟨A',cA,heA,KLA,hlA,hkA,hcA,hoA⟩:=z1P HIT.o
    obtain⟨B',cB,heB,KLB,hlB,hkB,hcB,hoB⟩:=z1P HIT2.o
    simp only[Value.slice.injEq,true_and] at heA heB
    obtain⟨rfl,rfl⟩:=heA
    obtain⟨rfl,rfl⟩:=heB
    have HKA:=I (And.intro hlA (And.intro hkA (And.intro hcA hoA)))
    have HKB:=I (And.intro hlB (And.intro hkB (And.intro hcB hoB)))
    clear hlA hkA hcA hoA hlB hkB hcB hoB
    obtain⟨j0,hi,hz0,hz1,hz2⟩:=zX z8d
    have HJ0:=I hi
    have HY0:=I hz0
    have HY1:=I hz1
    clear hi hz0 hz1 hz2
    go_upto_region 15 with ((go_at_call 115;refine(zm 6 _).mono ?_;rintro e z ⟨rfl,hzw⟩;rw[hzw];clear hzw z))
    refine z0K 14 [(0,true),(1,true),(2,true),(3,true),(4,true),(5,true),(6,true),(7,true),(8,true),(9,true),(10,true),(11,false),(12,false),(13,true)] (fun z=>Below W.heap.size W z) (by kernel_rfl) (by kernel_rfl) rfl (by intro c a d v w h;cases d<;>exact h) ?_
    have hs:Below W.heap.size W W.drew:=(Below.refl _ _).drew
    refine z8 (some 97) (.pointer (some ⟨w.heap.size,0,none⟩)) _ rfl rfl (by exact wA rfl) hs (fun z hz=>by go_simp) ?_
    go_frame
    refine z8 (some 98) (.int .i64 4) _ rfl rfl (by exact wA rfl) hs (fun z hz=>by have e4:=(hz.cell (p:=⟨w.heap.size,0,none⟩) HLA1.o).trans d0;clear hz;go_simp) ?_
    go_frame
    refine z8 (some 99) (.pointer (some ⟨w.heap.size,3,none⟩)) _ rfl rfl (by exact wA rfl) hs (fun z hz=>by go_simp) ?_
    go_frame
    refine z8 (some 100) (.string sa) _ rfl rfl (by exact wA rfl) hs (fun z hz=>by have e4:=(hz.cell (p:=⟨w.heap.size,3,none⟩) HLA1.o).trans n3;clear hz;go_simp) ?_
    go_frame
    refine z8 (some 101) (.pointer (some ⟨w.heap.size+1,3,none⟩)) _ rfl rfl (by exact wA rfl) hs (fun z hz=>by go_simp) ?_
    go_frame
    refine z8 (some 102) (.string sb) _ rfl rfl (by exact wA rfl) hs (fun z hz=>by have e4:=(hz.cell (p:=⟨w.heap.size+1,3,none⟩) HLB1.o).trans m3;clear hz;go_simp) ?_
    go_frame
    refine z8 (some 103) (.string (sa ++ sb)) _ rfl rfl (by exact wA rfl) hs (fun z hz=>by go_simp) ?_
    go_frame
    refine z8 (some 104) (.pointer (some ⟨w.heap.size,5,none⟩)) _ rfl rfl (by exact wA rfl) hs (fun z hz=>by go_simp) ?_
    go_frame
    refine z8 (some 105) (.slice A ia.length c) _ rfl rfl (by exact wA rfl) hs (fun z hz=>by have e4:=(hz.cell (p:=⟨w.heap.size,5,none⟩) HLA1.o).trans n5;clear hz;go_simp) ?_
    go_frame
    refine z8 (some 106) (.pointer (some ⟨w.heap.size+1,5,none⟩)) _ rfl rfl (by exact wA rfl) hs (fun z hz=>by go_simp) ?_
    go_frame
    refine z8 (some 107) (.slice B ib.length c2) _ rfl rfl (by exact wA rfl) hs (fun z hz=>by have e4:=(hz.cell (p:=⟨w.heap.size+1,5,none⟩) HLB1.o).trans m5;clear hz;go_simp) ?_
    go_frame
    have hs2:Below W.heap.size W (W.drew.alloc (.cells #[.slice A ia.length c,.slice B ib.length c2] 50)):=hs.trans ((zd W.drew _).mono hs.size)
    refine z2R (some 108) (.slice (some ⟨W.drew.heap.size,0,none⟩) 2 2) (W.drew.alloc (.cells #[.slice A ia.length c,.slice B ib.length c2] 50)) _ rfl rfl (by exact wA rfl) (z3E 235 _ _ rfl 50 j0 _ A B ia.length ib.length c c2 rfl rfl Tryz.underlying235 HJ0.o HY0.o rfl HY1.o) hs2 ?_
    go_frame
    have HS2:=I hs2
    have e0:=zB W.drew #[.slice A ia.length c,.slice B ib.length c2] 50 0
    have e1:=zB W.drew #[.slice A ia.length c,.slice B ib.length c2] 50 1
    simp only[List.getElem?_toArray,List.getElem?_cons_zero,List.getElem?_cons_succ] at e0 e1
    have HE:=I (And.intro e0 e1)
    have HSZ:Hid (W.drew.heap.size <(W.drew.alloc (.cells #[.slice A ia.length c,.slice B ib.length c2] 50)).heap.size):=I (by simp)
    clear e0 e1 hs hs2 d0 c0 n3 n5 m3 m5 hcat hcat2
    generalize W.drew.alloc (.cells #[.slice A ia.length c,.slice B ib.length c2] 50)= V at*
    generalize W.drew.heap.size= hb at*
    have HWV:=I (HST.o.bel.trans (HS2.o.mono HST.o.bel.size))
    have HCC:=I (z5J hb A B ia.length ib.length c c2 (flat enc6 KLA) (flat enc6 KLB) V (by rw[z1Z,HKA.o.1]) (by rw[z1Z,HKB.o.1])
     (fun h0=>by obtain⟨b,ob,e,hbl,hc⟩:=HKA.o.2.2.1 h0;exact⟨b,ob,e,Nat.lt_of_lt_of_le hbl HWV.o.size,fun j u hj=>(HWV.o.cell (p:=⟨b,ob+j,none⟩) hbl).trans (hc j u hj)⟩)
     (fun h0=>by obtain⟨b,ob,e,hbl,hc⟩:=HKB.o.2.2.1 h0;exact⟨b,ob,e,Nat.lt_of_lt_of_le hbl HWV.o.size,fun j u hj=>(HWV.o.cell (p:=⟨b,ob+j,none⟩) hbl).trans (hc j u hj)⟩)
     HKA.o.2.2.2 HKB.o.2.2.2 HE.o.1 HE.o.2 HSZ.o (by have h1:=(z0a HRA.o).1;have h2:=(z0a HRB.o).1;omega))
    refine zC (some 109) 166 Tryz.func166 (by kernel_rfl) (by kernel_rfl) [.slice (some ⟨hb,0,none⟩) 2 2] _ _ _ rfl rfl rfl (by exact wA rfl) rfl ?_
    refine HCC.o.mono ?_
    rintro e z ⟨v,rfl,hown,hbz⟩
    have hs3:Below W.heap.size W z:=HS2.o.trans (hbz.mono HS2.o.size)
    refine⟨_,rfl,hs3,?_⟩
    have HS3:=I hs3
    have HBZ:=I hbz
    have ho:OwnSl 52 6 enc6 z V.heap.size v (KLA ++ KLB):=by
     unfold OwnSl
     rw[z3Q,List.length_append,HKA.o.1,HKB.o.1]
     exact hown
    obtain⟨VA,vn,vc,rfl⟩:=z4K ho
    have hW3:w.heap.size+2 < W.heap.size:=HST.o.wr.lt
    have HW3:=I (And.intro hW3 HS3.o.size)
    have HKV:Hid (Kept (fun b=>(P b/\b < w.heap.size)\/W.heap.size<=b) z [.int .i64 4,.int .i64 0,.float .f64 0,.string (sa ++ sb),.slice none 0 0,.slice VA vn vc] (.mk 4 0 0 (sa ++ sb) [] (ia ++ ib))):=I (by
     have hWZ:Below w.heap.size w z:=HWV.o.trans (hbz.mono HWV.o.size)
     have hl1:=(z0a HRA.o).1
     have hl2:=(z0a HRB.o).1
     have hs1:=z0n HRA.o
     have hs2:=z0n HRB.o
     refine ValAt.of (z0b (by omega)) (z0b (by omega)) (by decide) (by unfold maxLen;simp;omega) (SlAt.nil _ _ _ _) (by unfold maxLen;simp;omega) (z8k ho (by simp[HKA.o.1,HKB.o.1]) (by simp;omega) (fun b hb=> .inr (Nat.le_trans HS2.o.size hb)) fun j k x hk hx=> ?_)
     rcases Nat.lt_or_ge j KLA.length with hj|hj
     ·rw[List.getElem?_append_left hj] at hk
      rw[List.getElem?_append_left (by rw[← HKA.o.1];exact hj)] at hx
      exact(HKA.o.2.1 j k x hk hx).to (fun b hp hlt=>⟨.inl ⟨hp,hlt⟩,hWZ.block b hlt⟩) hWZ.size
     ·rw[List.getElem?_append_right hj] at hk
      rw[List.getElem?_append_right (by rw[← HKA.o.1];exact hj),← HKA.o.1] at hx
      exact(HKB.o.2.1 _ k x hk hx).to (fun b hp hlt=>⟨.inl ⟨hp,hlt⟩,hWZ.block b hlt⟩) hWZ.size)
    have HSD:=I (z2N (fun b=>(P b/\b < w.heap.size)\/W.heap.size<=b) _ _ z HKV.o)
    have HBB:Hid (BB w z [.int .i64 4,.int .i64 na,.float .f64 fa,.string sa,.slice NA1 nsa.length na2,.slice A ia.length c] [.int .i64 4,.int .i64 nb,.float .f64 fb,.string sb,.slice NB1 nsb.length nb2,.slice B ib.length c2]):=I (HST.o.next HS3.o)
    have hs:=hs3
    clear hown ho hW3 hbz hs3 HST HS2 HE HCC HKV HSZ HS3
    go_frame
    refine z8 (some 110) (.agg ⟨[.int .i64 4,.int .i64 0,.float .f64 0,.string (sa ++ sb),.slice none 0 0,.slice VA vn vc]⟩) _ rfl rfl (by exact wA rfl) hs (fun z hz=>by clear hz;go_simp) ?_
    go_frame
    refine z35 ?_
    clear hs
    generalize (.mk 4 0 0 (sa ++ sb) [] (ia ++ ib):VT)= vv at*
    generalize sa ++ sb= ss at*
    go_wp2_with (go_at_call 136;fail)
    refine HSD.o.mono ?_
    rintro e z2 (⟨u,cs',hr,rfl,hk,hb⟩|⟨n,hr,rfl,hb⟩)
    ·have HSZ:=I (HBB.o.next hb)
     have HRZ:=I HSZ.o.wr
     have HKZ:=I hk
     have HCL:=I (zo hk.val).1
     have HON:=I (zo hk.val).2
     have HRE2:Hid (r= .ok u):=I (HRES.o.trans hr)
     clear hk hb hr
     go_wp2_with (((with_reducible refine zf 52 _ _ rfl rfl ?_ (w.heap.size+2) zV6 (cs') HRZ.o ?_ ?_ ?_ ?_ ?_ ?_);(exact wA rfl);rw[HCL.o];rfl;rfl;rfl;rw[HCL.o];kernel_rfl;exact HON.o;intro Z2 hz hb;have HX:=I hz;have HXB:=I hb;clear hz hb))
     (try simp only[Exit.inBlock,Exit.then])
     refine bodyPost_ret (zi rfl Tryz.underlying52 rfl _ _ (w.heap.size+2) (cs') (by rw[HCL.o];kernel_rfl) rfl HX.o.range) rfl ?_
     have hbel:=BB.fin HSZ.o HXB.o
     exact .ok HRE2.o rfl (HKZ.o.to (fun b hp hlt=>by have h1:=HW3.o;rcases hp with (⟨h2,h3⟩|h2)|h2;exact⟨.inl h2,HXB.o.block b hlt (by omega) (by omega)⟩;exact⟨.inr (by omega),HXB.o.block b hlt (by omega) (by omega)⟩;exact⟨.inr (by omega),HXB.o.block b hlt (by omega) (by omega)⟩) HXB.o.size) hbel
    ·have HS1:=I (HBB.o.next hb)
     have HRE2:Hid (r= .error n):=I (HRES.o.trans hr)
     clear hb hr
     go_wp2
     exact⟨rfl,.no HRE2.o rfl HS1.o.bel⟩
   by_cases h5:ka= 5
   ·subst h5
    rw[if_pos ⟨rfl,Or.inr rfl⟩] at hres
    have HRES:Hid (r= szd (.mk 5 0 0 (sa ++ sb) [] (ia ++ ib))):=I hres.symm
    clear hres
    have d0:W.cell? ⟨w.heap.size,0,none⟩= some (.int .i64 5):=HST.o.wa.cells 0 rfl
    have c0:W.cell? ⟨w.heap.size+1,0,none⟩= some (.int .i64 5):=HST.o.wb.cells 0 rfl
    have n3:W.cell? ⟨w.heap.size,3,none⟩= some (.string sa):=HST.o.wa.cells 3 rfl
    have n5:W.cell? ⟨w.heap.size,5,none⟩= some (.slice A ia.length c):=HST.o.wa.cells 5 rfl
    have m3:W.cell? ⟨w.heap.size+1,3,none⟩= some (.string sb):=HST.o.wb.cells 3 rfl
    have m5:W.cell? ⟨w.heap.size+1,5,none⟩= some (.slice B ib.length c2):=HST.o.wb.cells 5 rfl
    have hcat:∀ W:World,(Op.stringOp .add sa sb).run Tryz.prog W= .ok (.string (sa ++ sb)) W:=fun W=>run_string_add_sum W _ _ (by have h1:=z0n HRA.o;have h2:=z0n HRB.o;simp;omega)
    have hcat2:∀ W:World,(binOp .add 9 (.string sa) (.string sb)).run Tryz.prog W= .ok (.string (sa ++ sb)) W:=fun W=>hcat W
    have HLA1:=I HST.o.wa.lt
    have HLB1:=I HST.o.wb.lt
    obtain⟨A',cA,heA,KLA,hlA,hkA,hcA,hoA⟩:=z1P HIT.o
    obtain⟨B',cB,heB,KLB,hlB,hkB,hcB,hoB⟩:=z1P HIT2.o
    simp only[Value.slice.injEq,true_and] at heA heB
    obtain⟨rfl,rfl⟩:=heA
    obtain⟨rfl,rfl⟩:=heB
    have HKA:=I (And.intro hlA (And.intro hkA (And.intro hcA hoA)))
    have HKB:=I (And.intro hlB (And.intro hkB (And.intro hcB hoB)))
    clear hlA hkA hcA hoA hlB hkB hcB hoB
    obtain⟨j0,hi,hz0,hz1,hz2⟩:=zX z8d
    have HJ0:=I hi
    have HY0:=I hz0
    have HY1:=I hz1
    clear hi hz0 hz1 hz2
    go_upto_region 15 with ((go_at_call 115;refine(zm 6 _).mono ?_;rintro e z ⟨rfl,hzw⟩;rw[hzw];clear hzw z))
    refine z0K 14 [(0,true),(1,true),(2,true),(3,true),(4,true),(5,true),(6,true),(7,true),(8,true),(9,true),(10,true),(11,false),(12,false),(13,true)] (fun z=>Below W.heap.size W z) (by kernel_rfl) (by kernel_rfl) rfl (by intro c a d v w h;cases d<;>exact h) ?_
    have hs:Below W.heap.size W W.drew:=(Below.refl _ _).drew
    refine z8 (some 97) (.pointer (some ⟨w.heap.size,0,none⟩)) _ rfl rfl (by exact wA rfl) hs (fun z hz=>by go_simp) ?_
    go_frame
    refine z8 (some 98) (.int .i64 5) _ rfl rfl (by exact wA rfl) hs (fun z hz=>by have e4:=(hz.cell (p:=⟨w.heap.size,0,none⟩) HLA1.o).trans d0;clear hz;go_simp) ?_
    go_frame
    refine z8 (some 99) (.pointer (some ⟨w.heap.size,3,none⟩)) _ rfl rfl (by exact wA rfl) hs (fun z hz=>by go_simp) ?_
    go_frame
    refine z8 (some 100) (.string sa) _ rfl rfl (by exact wA rfl) hs (fun z hz=>by have e4:=(hz.cell (p:=⟨w.heap.size,3,none⟩) HLA1.o).trans n3;clear hz;go_simp) ?_
    go_frame
    refine z8 (some 101) (.pointer (some ⟨w.heap.size+1,3,none⟩)) _ rfl rfl (by exact wA rfl) hs (fun z hz=>by go_simp) ?_
    go_frame
    refine z8 (some 102) (.string sb) _ rfl rfl (by exact wA rfl) hs (fun z hz=>by have e4:=(hz.cell (p:=⟨w.heap.size+1,3,none⟩) HLB1.o).trans m3;clear hz;go_simp) ?_
    go_frame
    refine z8 (some 103) (.string (sa ++ sb)) _ rfl rfl (by exact wA rfl) hs (fun z hz=>by go_simp) ?_
    go_frame
    refine z8 (some 104) (.pointer (some ⟨w.heap.size,5,none⟩)) _ rfl rfl (by exact wA rfl) hs (fun z hz=>by go_simp) ?_
    go_frame
    refine z8 (some 105) (.slice A ia.length c) _ rfl rfl (by exact wA rfl) hs (fun z hz=>by have e4:=(hz.cell (p:=⟨w.heap.size,5,none⟩) HLA1.o).trans n5;clear hz;go_simp) ?_
    go_frame
    refine z8 (some 106) (.pointer (some ⟨w.heap.size+1,5,none⟩)) _ rfl rfl (by exact wA rfl) hs (fun z hz=>by go_simp) ?_
    go_frame
    refine z8 (some 107) (.slice B ib.length c2) _ rfl rfl (by exact wA rfl) hs (fun z hz=>by have e4:=(hz.cell (p:=⟨w.heap.size+1,5,none⟩) HLB1.o).trans m5;clear hz;go_simp) ?_
    go_frame
    have hs2:Below W.heap.size W (W.drew.alloc (.cells #[.slice A ia.length c,.slice B ib.length c2] 50)):=hs.trans ((zd W.drew _).mono hs.size)
    refine z2R (some 108) (.slice (some ⟨W.drew.heap.size,0,none⟩) 2 2) (W.drew.alloc (.cells #[.slice A ia.length c,.slice B ib.length c2] 50)) _ rfl rfl (by exact wA rfl) (z3E 235 _ _ rfl 50 j0 _ A B ia.length ib.length c c2 rfl rfl Tryz.underlying235 HJ0.o HY0.o rfl HY1.o) hs2 ?_
    go_frame
    have HS2:=I hs2
    have e0:=zB W.drew #[.slice A ia.length c,.slice B ib.length c2] 50 0
    have e1:=zB W.drew #[.slice A ia.length c,.slice B ib.length c2] 50 1
    simp only[List.getElem?_toArray,List.getElem?_cons_zero,List.getElem?_cons_succ] at e0 e1
    have HE:=I (And.intro e0 e1)
    have HSZ:Hid (W.drew.heap.size <(W.drew.alloc (.cells #[.slice A ia.length c,.slice B ib.length c2] 50)).heap.size):=I (by simp)
    clear e0 e1 hs hs2 d0 c0 n3 n5 m3 m5 hcat hcat2
    generalize W.drew.alloc (.cells #[.slice A ia.length c,.slice B ib.length c2] 50)= V at*
    generalize W.drew.heap.size= hb at*
    have HWV:=I (HST.o.bel.trans (HS2.o.mono HST.o.bel.size))
    have HCC:=I (z5J hb A B ia.length ib.length c c2 (flat enc6 KLA) (flat enc6 KLB) V (by rw[z1Z,HKA.o.1]) (by rw[z1Z,HKB.o.1])
     (fun h0=>by obtain⟨b,ob,e,hbl,hc⟩:=HKA.o.2.2.1 h0;exact⟨b,ob,e,Nat.lt_of_lt_of_le hbl HWV.o.size,fun j u hj=>(HWV.o.cell (p:=⟨b,ob+j,none⟩) hbl).trans (hc j u hj)⟩)
     (fun h0=>by obtain⟨b,ob,e,hbl,hc⟩:=HKB.o.2.2.1 h0;exact⟨b,ob,e,Nat.lt_of_lt_of_le hbl HWV.o.size,fun j u hj=>(HWV.o.cell (p:=⟨b,ob+j,none⟩) hbl).trans (hc j u hj)⟩)
     HKA.o.2.2.2 HKB.o.2.2.2 HE.o.1 HE.o.2 HSZ.o (by have h1:=(z0a HRA.o).1;have h2:=(z0a HRB.o).1;omega))
    refine zC (some 109) 166 Tryz.func166 (by kernel_rfl) (by kernel_rfl) [.slice (some ⟨hb,0,none⟩) 2 2] _ _ _ rfl rfl rfl (by exact wA rfl) rfl ?_
    refine HCC.o.mono ?_
    rintro e z ⟨v,rfl,hown,hbz⟩
    have hs3:Below W.heap.size W z:=HS2.o.trans (hbz.mono HS2.o.size)
    refine⟨_,rfl,hs3,?_⟩
    have HS3:=I hs3
    have HBZ:=I hbz
    have ho:OwnSl 52 6 enc6 z V.heap.size v (KLA ++ KLB):=by
     unfold OwnSl
     rw[z3Q,List.length_append,HKA.o.1,HKB.o.1]
     exact hown
    obtain⟨VA,vn,vc,rfl⟩:=z4K ho
    have hW3:w.heap.size+2 < W.heap.size:=HST.o.wr.lt
    have HW3:=I (And.intro hW3 HS3.o.size)
    have HKV:Hid (Kept (fun b=>(P b/\b < w.heap.size)\/W.heap.size<=b) z [.int .i64 5,.int .i64 0,.float .f64 0,.string (sa ++ sb),.slice none 0 0,.slice VA vn vc] (.mk 5 0 0 (sa ++ sb) [] (ia ++ ib))):=I (by
     have hWZ:Below w.heap.size w z:=HWV.o.trans (hbz.mono HWV.o.size)
     have hl1:=(z0a HRA.o).1
     have hl2:=(z0a HRB.o).1
     have hs1:=z0n HRA.o
     have hs2:=z0n HRB.o
     refine ValAt.of (z0b (by omega)) (z0b (by omega)) (by decide) (by unfold maxLen;simp;omega) (SlAt.nil _ _ _ _) (by unfold maxLen;simp;omega) (z8k ho (by simp[HKA.o.1,HKB.o.1]) (by simp;omega) (fun b hb=> .inr (Nat.le_trans HS2.o.size hb)) fun j k x hk hx=> ?_)
     rcases Nat.lt_or_ge j KLA.length with hj|hj
     ·rw[List.getElem?_append_left hj] at hk
      rw[List.getElem?_append_left (by rw[← HKA.o.1];exact hj)] at hx
      exact(HKA.o.2.1 j k x hk hx).to (fun b hp hlt=>⟨.inl ⟨hp,hlt⟩,hWZ.block b hlt⟩) hWZ.size
     ·rw[List.getElem?_append_right hj] at hk
      rw[List.getElem?_append_right (by rw[← HKA.o.1];exact hj),← HKA.o.1] at hx
      exact(HKB.o.2.1 _ k x hk hx).to (fun b hp hlt=>⟨.inl ⟨hp,hlt⟩,hWZ.block b hlt⟩) hWZ.size)
    have HSD:=I (z2N (fun b=>(P b/\b < w.heap.size)\/W.heap.size<=b) _ _ z HKV.o)
    have HBB:Hid (BB w z [.int .i64 5,.int .i64 na,.float .f64 fa,.string sa,.slice NA1 nsa.length na2,.slice A ia.length c] [.int .i64 5,.int .i64 nb,.float .f64 fb,.string sb,.slice NB1 nsb.length nb2,.slice B ib.length c2]):=I (HST.o.next HS3.o)
    have hs:=hs3
    clear hown ho hW3 hbz hs3 HST HS2 HE HCC HKV HSZ HS3
    go_frame
    refine z8 (some 110) (.agg ⟨[.int .i64 5,.int .i64 0,.float .f64 0,.string (sa ++ sb),.slice none 0 0,.slice VA vn vc]⟩) _ rfl rfl (by exact wA rfl) hs (fun z hz=>by clear hz;go_simp) ?_
    go_frame
    refine z35 ?_
    clear hs
    generalize (.mk 5 0 0 (sa ++ sb) [] (ia ++ ib):VT)= vv at*
    generalize sa ++ sb= ss at*
    go_wp2_with (go_at_call 136;fail)
    refine HSD.o.mono ?_
    rintro e z2 (⟨u,cs',hr,rfl,hk,hb⟩|⟨n,hr,rfl,hb⟩)
    ·have HSZ:=I (HBB.o.next hb)
     have HRZ:=I HSZ.o.wr
     have HKZ:=I hk
     have HCL:=I (zo hk.val).1
     have HON:=I (zo hk.val).2
     have HRE2:Hid (r= .ok u):=I (HRES.o.trans hr)
     clear hk hb hr
     go_wp2_with (((with_reducible refine zf 52 _ _ rfl rfl ?_ (w.heap.size+2) zV6 (cs') HRZ.o ?_ ?_ ?_ ?_ ?_ ?_);(exact wA rfl);rw[HCL.o];rfl;rfl;rfl;rw[HCL.o];kernel_rfl;exact HON.o;intro Z2 hz hb;have HX:=I hz;have HXB:=I hb;clear hz hb))
     (try simp only[Exit.inBlock,Exit.then])
     refine bodyPost_ret (zi rfl Tryz.underlying52 rfl _ _ (w.heap.size+2) (cs') (by rw[HCL.o];kernel_rfl) rfl HX.o.range) rfl ?_
     have hbel:=BB.fin HSZ.o HXB.o
     exact .ok HRE2.o rfl (HKZ.o.to (fun b hp hlt=>by have h1:=HW3.o;rcases hp with (⟨h2,h3⟩|h2)|h2;exact⟨.inl h2,HXB.o.block b hlt (by omega) (by omega)⟩;exact⟨.inr (by omega),HXB.o.block b hlt (by omega) (by omega)⟩;exact⟨.inr (by omega),HXB.o.block b hlt (by omega) (by omega)⟩) HXB.o.size) hbel
    ·have HS1:=I (HBB.o.next hb)
     have HRE2:Hid (r= .error n):=I (HRES.o.trans hr)
     clear hb hr
     go_wp2
     exact⟨rfl,.no HRE2.o rfl HS1.o.bel⟩
   rw[if_neg (by omega)] at hres
   have h2:(ka ==2)= false:=e2
   have h3:(ka ==3)= false:=e3
   have h4:(ka ==4)= false:=(by simpa using h4)
   have h5:(ka ==5)= false:=(by simpa using h5)
   have HRES:Hid (r= .error 6):=I hres.symm
   clear hres
   have d0:W.cell? ⟨w.heap.size,0,none⟩= some (.int .i64 ka):=HST.o.wa.cells 0 rfl
   have c0:W.cell? ⟨w.heap.size+1,0,none⟩= some (.int .i64 ka):=HST.o.wb.cells 0 rfl
   go_wp2_with (go_at_call 115;first|((with_reducible refine(zm 6 _).mono ?_);rintro e z ⟨rfl,hzw⟩;rw[hzw];clear hzw z)|((with_reducible refine(zA 6 _).mono ?_);rintro e z ⟨rfl,hzw⟩;rw[hzw];clear hzw z))
   exact⟨rfl,.no HRES.o rfl HST.o.bel⟩
  ·rw[if_neg (by omega)] at hres
   have h19:(k ==19)= false:=e19
   have h10:(k ==10)= false:=e10
   have h11:(k ==11)= false:=e11
   have h12:(k ==12)= false:=e12
   have h2:(ka ==2)= false:=e2
   have h3:(ka ==3)= false:=e3
   have h5:(k ==5)= false:=(by simpa using k5)
   have HRES:Hid (r= .error 6):=I hres.symm
   clear hres
   have d0:W.cell? ⟨w.heap.size,0,none⟩= some (.int .i64 ka):=HST.o.wa.cells 0 rfl
   have c0:W.cell? ⟨w.heap.size+1,0,none⟩= some (.int .i64 ka):=HST.o.wb.cells 0 rfl
   go_wp2_with (go_at_call 115;first|((with_reducible refine(zm 6 _).mono ?_);rintro e z ⟨rfl,hzw⟩;rw[hzw];clear hzw z)|((with_reducible refine(zA 6 _).mono ?_);rintro e z ⟨rfl,hzw⟩;rw[hzw];clear hzw z))
   exact⟨rfl,.no HRES.o rfl HST.o.bel⟩
 ·rw[if_pos hkk] at hres
  have h0:(k ==19)= false:=e19
  have h1:(ka ==kb)= false:=(by simpa using hkk)
  have HRES:Hid (r= .error 6):=I hres.symm
  clear hres
  have d0:W.cell? ⟨w.heap.size,0,none⟩= some (.int .i64 ka):=HST.o.wa.cells 0 rfl
  have c0:W.cell? ⟨w.heap.size+1,0,none⟩= some (.int .i64 kb):=HST.o.wb.cells 0 rfl
  go_wp2_with ((go_at_call 115;refine(zA 6 _).mono ?_;rintro e z ⟨rfl,hzw⟩;rw[hzw];clear hzw z))
  exact⟨rfl,.no HRES.o rfl HST.o.bel⟩
end
section
open Go Go.RowKit
structure EB (w W:World) (q:Nat):Prop where
 wb:Whole 52 W q zV6
 bel:Below w.heap.size w W
 ge:w.heap.size<=q
 lt:q < W.heap.size
theorem z1p {w W:World} (h:Below w.heap.size w W):EB w (W.alloc (.cells zV6.toArray 52)) W.heap.size:=⟨Whole.new W zV6 52,h.trans ((zd W _).mono h.size),h.size,by simp⟩
theorem EB.next {w W W':World} {q:Nat} (h:EB w W q) (hb:Below W.heap.size W W'):EB w W' q:=⟨h.wb.keep (hb.block _ h.lt),h.bel.trans (hb.mono h.bel.size),h.ge,Nat.lt_of_lt_of_le h.lt hb.size⟩
theorem EB.drew {w W:World} {q:Nat} (h:EB w W q):EB w W.drew q:=h.next (Below.refl _ _).drew
theorem EB.fin {w W Z:World} {q:Nat} (h:EB w W q) (hx:But W Z q q):Below w.heap.size w Z:=h.bel.trans (hx.below (B:=w.heap.size) h.bel.size h.ge h.ge)
theorem EB.kept {w W Z:World} {q:Nat} {cs:List Value} {v:VT} (he:EB w W q) (h:Kept (fun b=>q < b) W cs v) (hx:But W Z q q):Kept (fun b=>w.heap.size<=b) Z cs v:=
 h.to (fun b hp hlt=>⟨Nat.le_trans he.ge (Nat.le_of_lt hp),hx.block b hlt (Nat.ne_of_gt hp) (Nat.ne_of_gt hp)⟩) hx.size
theorem EB.keptN {w W:World} {q:Nat} (he:EB w W q) {z:World} {cs:List Value} {v:VT} (h:Kept (fun b=>W.heap.size<=b) z cs v):Kept (fun b=>q < b) z cs v:=h.to (fun b hp hlt=>⟨Nat.lt_of_lt_of_le he.lt hp,rfl⟩) (Nat.le_refl _)
theorem EvPost.ok {r:Res} {w:World} {e:Ending} {w':World} {v:VT} {cs:List Value} (hr:r= .ok v) (he:e= .returned (.agg ⟨cs⟩)) (hk:Kept (fun b=>w.heap.size<=b) w' cs v) (hw:zv v= true) (hb:Below w.heap.size w w'):EvPost r w e w':= .inl ⟨v,cs,hr,he,hk,hw,hb⟩
theorem EvPost.no {r:Res} {w:World} {e:Ending} {w':World} {n:Int} (hr:r= .error n) (he:e= panE n) (hb:Below w.heap.size w w'):EvPost r w e w':= .inr ⟨n,hr,he,hb⟩
theorem zc0 (mp:Nat) (va vb:Value) (E:List VarT) (V:List VT) (s:ByteArray) (w:World) (hm:MacAt w mp va vb E V):Calls Tryz.prog 133 #[.pointer (some ⟨mp,0,none⟩),.string s] w (EvPost (nameR E V s) w):=by
 have HM:=I hm
 have hvl:=hm.vals.1
 obtain⟨VB,vc,rfl,hvA⟩:=hm.vals.2
 have HVA:=I hvA
 have HFC:=z6y E s
 clear hm hvA
 go_enter Tryz.func133,Tryz.ntmps133
 go_upto_region 1 with (fail)
 rw[z0q]
 have HE0:=I (z1p (zd w (.cells #[.string s] 9)))
 have c0:=zB w #[.string s] 9 0
 simp only[List.getElem?_toArray,List.getElem?_cons_zero] at c0
 have HC0:=I ((zd (w.alloc (.cells #[.string s] 9)) (.cells zV6.toArray 52)).cell (p:=⟨w.heap.size,0,none⟩) (by simp)|>.trans c0)
 have hs1:(w.alloc (.cells #[.string s] 9)).heap.size= w.heap.size+1:=by simp
 rw[hs1] at HE0
 clear c0 hs1
 generalize (w.alloc (.cells #[.string s] 9)).alloc (.cells zV6.toArray 52)= W at*
 have HMW:=I (HM.o.below HE0.o.bel)
 have HLS:Hid (w.heap.size < W.heap.size):=I (by have:=HE0.o.lt;omega)
 have HIX:=I (za8 E s va w.heap.size W HMW.o.vars HMW.o.few HC0.o HLS.o)
 have m0:W.cell? ⟨mp,0,none⟩= some va:=HMW.o.cells 0 _ rfl
 obtain⟨ix,hix⟩:∃ ix,findV E s= ix:=⟨_,rfl⟩
 have HRN:Hid (nameR E V s= if ix= -1 then .error 11 else match V[ix.toNat]? with|some v=> .ok (z08 v)|none=> .error 11):=I (by unfold nameR;rw[hix];rfl)
 rw[hix] at HIX HFC
 generalize nameR E V s= res at*
 clear hix
 have hmf:∀ (fn:Fn) (first cap:Array Value) (w:World),(Instr.makeFunc fn first cap).run Tryz.prog w= .ok (.func fn first cap) w:=fun _ _ _ _=>rfl
 go_upto_region 2 with (go_at_call 147;refine HIX.o.mono ?_;rintro e z ⟨rfl,hb⟩;have HBZ:=I hb;clear hb)
 have HMZ:=I (HMW.o.below HBZ.o)
 have HEZ:=I (HE0.o.next HBZ.o)
 clear m0 hmf HIX HMW HE0 HC0 HLS HBZ
 have m1:z.cell? ⟨mp,1,none⟩= some (.slice VB V.length vc):=HMZ.o.cells 1 _ rfl
 rcases HFC with rfl|⟨h0,h1⟩
 ·have HRES:Hid (res= .error 11):=I (by rw[HRN.o,if_pos rfl])
  clear m1
  go_wp2_with ((go_at_call 115;refine(zA 11 _).mono ?_;rintro e z ⟨rfl,hzw⟩;rw[hzw];clear hzw z))
  exact⟨rfl,.no HRES.o rfl HEZ.o.bel⟩
 ·obtain⟨j,rfl⟩:∃ j:Nat,ix=(j:Int):=⟨ix.toNat,by omega⟩
  have hj0:(0:Int)<=(j:Int):=by omega
  have hne: ¬ ((j:Int)= -1):=by omega
  have htn:(j:Int).toNat= j:=by omega
  rw[if_neg hne,htn] at HRN
  by_cases hj:j < V.length
  ·have hj1:(j:Int) <(V.length:Int):=by omega
   obtain⟨v,hv⟩:∃ v,V[j]?= some v:=⟨_,List.getElem?_eq_getElem hj⟩
   have HRES:Hid (res= .ok (z08 v)):=I (by rw[HRN.o,hv])
   have hrv:=HM.o.right v (List.mem_of_getElem? hv)
   have HRW:Hid (zv (z08 v)= true):=I (by rw[z3T];exact hrv)
   obtain⟨b,ob,rfl,hbb,hc⟩:=HVA.o (by omega)
   obtain⟨ks,hkl,hkr,hkv⟩:=hc j v hv
   have HCLL:=I hkl
   have HBE:=I HEZ.o.bel
   have HKR:Hid (z.rangeAt b (ob+j*6) ks):=I (zc hkr HBE.o hbb)
   have HCN:=I (z6J v ks z (z6Y v hrv) ((hkv.under HBE.o).more HBE.o.size))
   clear hc hkl hkr hkv hrv hv h0 h1 hne htn
   go_upto_region 3 with ((go_at_call 115;refine(zm 11 _).mono ?_;rintro e z ⟨rfl,hzw⟩;rw[hzw];clear hzw z))
   go_wp2_with (first|((with_reducible refine za 52 _ rfl ?_ b (ob+j*6) ks _ rfl HKR.o Tryz.underlying52 rfl ?_ ?_);(exact wA rfl);rw[HCLL.o];kernel_rfl)|(go_at_call 132;refine HCN.o.mono ?_;rintro e z2 ⟨cs',rfl,hk,hb⟩;have HCL:=I (zo hk.val).1;have HON:=I (zo hk.val).2;have HKZ:=I (HEZ.o.keptN hk);have HE2:=I (HEZ.o.next hb);clear hk hb)|((with_reducible refine zf 52 _ _ rfl rfl ?_ (w.heap.size+1) zV6 (cs') HE2.o.wb ?_ ?_ ?_ ?_ ?_ ?_);(exact wA rfl);rw[HCL.o];rfl;rfl;rfl;rw[HCL.o];kernel_rfl;exact HON.o;intro Z2 hz hb;have HX:=I hz;have HXB:=I hb;clear hz hb))
   (try simp only[Exit.inBlock,Exit.then])
   refine bodyPost_ret (zi rfl Tryz.underlying52 rfl _ _ (w.heap.size+1) (cs') (by rw[HCL.o];kernel_rfl) rfl HX.o.range) rfl ?_
   exact .ok HRES.o rfl (HE2.o.kept HKZ.o HXB.o) (HRW.o) (HE2.o.fin HXB.o)
  ·have hj1: ¬ ((j:Int) <(V.length:Int)):=by omega
   have HRES:Hid (res= .error 11):=I (by rw[HRN.o,List.getElem?_eq_none (by omega)])
   clear h0 h1 hne htn
   go_wp2_with ((go_at_call 115;refine(zA 11 _).mono ?_;rintro e z ⟨rfl,hzw⟩;rw[hzw];clear hzw z))
   exact⟨rfl,.no HRES.o rfl HEZ.o.bel⟩
theorem z1U (mp p o:Nat) (r:Res) (w:World) (h:Calls Tryz.prog 116 #[.pointer (some ⟨mp,0,none⟩),.pointer (some ⟨p,o,none⟩)] w (EvPost r w)):Calls Tryz.prog 134 #[.pointer (some ⟨mp,0,none⟩),.pointer (some ⟨p,o,none⟩)] w (z7C (boolR r) w):=by
 have HE:=I h
 clear h
 go_enter Tryz.func134,Tryz.ntmps134
 go_wp2_with (go_at_call 116;fail)
 refine HE.o.mono ?_
 rintro e z (⟨v,cs,rfl,rfl,hk,hr,hb⟩|⟨n,rfl,rfl,hb⟩)
 ·have HCL:=I (zo hk.val).1
  have HON:=I (zo hk.val).2
  have HB:=I hb
  cases v with
  |mk kv n f sv ns its=>
  obtain⟨vn,vi,rfl, -, -, -, -, -, -, -⟩:=ValAt.inv hk
  have HRB:Hid (boolR (.ok (.mk kv n f sv ns its))= if kv= 1 then .ok (n ==1) else .error 6):=I (by rw[boolR])
  clear hk hr hb HE
  generalize boolR (.ok (.mk kv n f sv ns its))= res at*
  go_upto_region 2 with (first|((with_reducible refine zJ 52 _ _ rfl ?hwx z ?zz [.int .i64 kv,.int .i64 n,.float .f64 f,.string sv,vn,vi] ?hwld ?hz ?hx ?hy ?hi ?h1 ?_);(case hwld=>rfl);(case hx=>rfl);(case hy=>rfl);(case hwx=>(exact wA rfl));(case hz=>rfl);(case hi=>kernel_rfl);(case h1=>exact HON.o);intro Z hZ;have HX:=I hZ;clear hZ))
  have d0:Z.cell? ⟨z.heap.size,0,none⟩= some (.int .i64 kv):=by have:=HX.o.range 0 _ rfl;rwa [Nat.zero_add] at this
  have d1:Z.cell? ⟨z.heap.size,1,none⟩= some (.int .i64 n):=by have:=HX.o.range 1 _ rfl;rwa [Nat.zero_add] at this
  have HBZ:=I (HB.o.trans (HX.o.below.mono HB.o.size))
  by_cases h1:kv= 1
  ·subst h1
   have HRES:Hid (res= .ok (n ==1)):=I (by rw[HRB.o,if_pos rfl])
   go_wp2_with ((go_at_call 115;refine(zm 6 _).mono ?_;rintro e z ⟨rfl,hzw⟩;rw[hzw];clear hzw z))
   go_ret
   exact⟨.inl ⟨_,HRES.o,rfl⟩,HBZ.o⟩
  ·have h1b:(kv ==1)= false:=by simpa using h1
   have HRES:Hid (res= .error 6):=I (by rw[HRB.o,if_neg h1])
   clear h1
   go_wp2_with ((go_at_call 115;refine(zA 6 _).mono ?_;rintro e z ⟨rfl,hzw⟩;rw[hzw];clear hzw z))
   exact⟨rfl,.inr ⟨_,HRES.o,rfl⟩,HBZ.o⟩
 ·have HB:=I hb
  clear hb HE
  go_wp2
  exact⟨rfl,.inr ⟨_,rfl,rfl⟩,HB.o⟩
theorem lz_if {a b c:Res}:lazyR 15 [a,b,c]= match boolR a with| .error e=> .error e| .ok x=>if x= true then b else c:=by
 unfold lazyR
 rw[show ∀ l:List Res,(a::l).getD 0 (.error 0)= a from fun _=>rfl]
 cases boolR a with
 |error e=>rfl
 |ok x=>cases x<;>rfl
theorem zfd {a b:Res}:lazyR 13 [a,b]= match boolR a with| .error e=> .error e| .ok x=>if x= true then(boolR b).map vB else .ok (vB false):=by
 unfold lazyR
 rw[show ∀ l:List Res,(a::l).getD 0 (.error 0)= a from fun _=>rfl]
 cases boolR a with
 |error e=>rfl
 |ok x=>cases x<;>rfl
theorem lz_or {a b:Res}:lazyR 14 [a,b]= match boolR a with| .error e=> .error e| .ok x=>if x= true then .ok (vB true) else(boolR b).map vB:=by
 unfold lazyR
 rw[show ∀ l:List Res,(a::l).getD 0 (.error 0)= a from fun _=>rfl]
 cases boolR a with
 |error e=>rfl
 |ok x=>cases x<;>rfl
def EvAt (mp b o:Nat) (W:World) (r:Res):Prop:=∀ u,Below W.heap.size W u->Calls Tryz.prog 116 #[.pointer (some ⟨mp,0,none⟩),.pointer (some ⟨b,o,none⟩)] u (EvPost r u)
theorem EvAt.later {mp b o:Nat} {W W':World} {r:Res} (h:EvAt mp b o W r) (hb:Below W.heap.size W W'):EvAt mp b o W' r:=fun u hu=>h u (hb.trans (hu.mono hb.size))
section
variable (mp:Nat) (va vb:Value) (E:List VarT) (V:List VT) (p o:Nat) (w:World)
theorem zdV (s:ByteArray) (v:VT) (v0 v1 v2 v3 v4 v5 vn vi:Value) (hr:w.rangeAt p o [.int .i64 1,.string s,v0,v1,v2,v3,v4,v5,vn,vi]) (hp:p < w.heap.size) (hvv:ValAt w w.heap.size [v0,v1,v2,v3,v4,v5] v) (hc:z0p v= true) (hm:MacAt w mp va vb E V):
  Calls Tryz.prog 116 #[.pointer (some ⟨mp,0,none⟩),.pointer (some ⟨p,o,none⟩)] w (EvPost (.ok (z08 v)) w):=by
 have HM:=I hm
 have HR0:=I hr
 have HP:=I hp
 have hrv:zv v= true:=by cases v;unfold z0p at hc;rw[Bool.and_eq_true] at hc;exact hc.2
 have HRW:Hid (zv (z08 v)= true):=I (by rw[z3T];exact hrv)
 have HVV:=I hvv
 have HFT:=I (z6Y v hrv)
 clear hm hr hp hvv hc hrv
 go_enter Tryz.func116,Tryz.ntmps116
 go_upto_region 1 with (fail)
 rw[z0q]
 have HE0:=I (z1p (Below.refl w.heap.size w))
 generalize w.alloc (.cells zV6.toArray 52)= W at*
 have HMW:=I (HM.o.below HE0.o.bel)
 have HRR:Hid (W.rangeAt p o [.int .i64 1,.string s,v0,v1,v2,v3,v4,v5,vn,vi]):=I (zc HR0.o HE0.o.bel HP.o)
 have d0:W.cell? ⟨p,o,none⟩= some (.int .i64 1):=HRR.o 0 _ rfl
 have HVR:Hid (W.rangeAt p (o+2) [v0,v1,v2,v3,v4,v5]):=I (z5u HRR.o (fun j x h=>match j,h with|0,h=>h|1,h=>h|2,h=>h|3,h=>h|4,h=>h|5,h=>h|j+6,h=>by simp at h))
 have HCN:=I (z6J v [v0,v1,v2,v3,v4,v5] W HFT.o ((HVV.o.under HE0.o.bel).more HE0.o.bel.size))
 go_upto_region 3 with (fail)
 clear d0
 go_wp2_with (first|((with_reducible refine za 52 _ rfl ?_ p (o+2) [v0,v1,v2,v3,v4,v5] _ rfl HVR.o Tryz.underlying52 rfl ?_ ?_);(exact wA rfl);kernel_rfl)|(go_at_call 132;refine HCN.o.mono ?_;rintro e z2 ⟨cs',rfl,hk,hb⟩;have HCL:=I (zo hk.val).1;have HON:=I (zo hk.val).2;have HKZ:=I (HE0.o.keptN hk);have HEZ:=I (HE0.o.next hb);clear hk hb)|((with_reducible refine zf 52 _ _ rfl rfl ?_ (w.heap.size) zV6 (cs') HEZ.o.wb ?_ ?_ ?_ ?_ ?_ ?_);(exact wA rfl);rw[HCL.o];rfl;rfl;rfl;rw[HCL.o];kernel_rfl;exact HON.o;intro Z2 hz hb;have HX:=I hz;have HXB:=I hb;clear hz hb))
 (try simp only[Exit.inBlock,Exit.then])
 refine bodyPost_ret (zi rfl Tryz.underlying52 rfl _ _ (w.heap.size) (cs') (by rw[HCL.o];kernel_rfl) rfl HX.o.range) rfl ?_
 exact .ok rfl rfl (HEZ.o.kept HKZ.o HXB.o) (HRW.o) (HEZ.o.fin HXB.o)
theorem ze7 (s:ByteArray) (v0 v1 v2 v3 v4 v5 vn vi:Value) (hr:w.rangeAt p o [.int .i64 2,.string s,v0,v1,v2,v3,v4,v5,vn,vi]) (hp:p < w.heap.size) (hm:MacAt w mp va vb E V):
  Calls Tryz.prog 116 #[.pointer (some ⟨mp,0,none⟩),.pointer (some ⟨p,o,none⟩)] w (EvPost (nameR E V s) w):=by
 have HM:=I hm
 have HR0:=I hr
 have HP:=I hp
 clear hm hr hp
 go_enter Tryz.func116,Tryz.ntmps116
 go_upto_region 1 with (fail)
 rw[z0q]
 have HE0:=I (z1p (Below.refl w.heap.size w))
 generalize w.alloc (.cells zV6.toArray 52)= W at*
 have HMW:=I (HM.o.below HE0.o.bel)
 have HRR:Hid (W.rangeAt p o [.int .i64 2,.string s,v0,v1,v2,v3,v4,v5,vn,vi]):=I (zc HR0.o HE0.o.bel HP.o)
 have d0:W.cell? ⟨p,o,none⟩= some (.int .i64 2):=HRR.o 0 _ rfl
 have d1:W.cell? ⟨p,o+1,none⟩= some (.string s):=HRR.o 1 _ rfl
 have HN:=I (zc0 mp va vb E V s W HMW.o)
 generalize nameR E V s= res at*
 go_wp2_with (go_at_call 133;fail)
 refine HN.o.mono ?_
 rintro e z (⟨v,cs',rfl,rfl,hk,hrw,hb⟩|⟨n,rfl,rfl,hb⟩)
 ·have HCL:=I (zo hk.val).1
  have HON:=I (zo hk.val).2
  have HKZ:=I (HE0.o.keptN hk)
  have HEZ:=I (HE0.o.next hb)
  have HRW:=I hrw
  clear hk hb hrw d0 d1
  go_wp2_with (((with_reducible refine zf 52 _ _ rfl rfl ?_ (w.heap.size) zV6 (cs') HEZ.o.wb ?_ ?_ ?_ ?_ ?_ ?_);(exact wA rfl);rw[HCL.o];rfl;rfl;rfl;rw[HCL.o];kernel_rfl;exact HON.o;intro Z2 hz hb;have HX:=I hz;have HXB:=I hb;clear hz hb))
  (try simp only[Exit.inBlock,Exit.then])
  refine bodyPost_ret (zi rfl Tryz.underlying52 rfl _ _ (w.heap.size) (cs') (by rw[HCL.o];kernel_rfl) rfl HX.o.range) rfl ?_
  exact .ok rfl rfl (HEZ.o.kept HKZ.o HXB.o) (HRW.o) (HEZ.o.fin HXB.o)
 ·have HB:=I hb
  clear hb d0 d1
  go_wp2
  exact⟨rfl,.no rfl rfl (HE0.o.next HB.o).bel⟩
theorem ev_if (s:ByteArray) (v0 v1 v2 v3 v4 v5 vn:Value) (b ob c:Nat) (ra rb rc res:Res) (hres:res= lazyR 15 [ra,rb,rc]) (hr:w.rangeAt p o [.int .i64 15,.string s,v0,v1,v2,v3,v4,v5,vn,.slice (some ⟨b,ob,none⟩) 3 c]) (hp:p < w.heap.size) (ha:EvAt mp b ob w ra) (hb:EvAt mp b (ob+10) w rb) (hc:EvAt mp b (ob+20) w rc) (hm:MacAt w mp va vb E V):
  Calls Tryz.prog 116 #[.pointer (some ⟨mp,0,none⟩),.pointer (some ⟨p,o,none⟩)] w (EvPost res w):=by
 have HM:=I hm
 have HR0:=I hr
 have HP:=I hp
 rw[lz_if] at hres
 have HRES0:=I hres
 have HA:=I ha
 have HBB:=I hb
 have HCC:=I hc
 clear hm hr hp ha hb hc hres
 go_enter Tryz.func116,Tryz.ntmps116
 go_upto_region 1 with (fail)
 rw[z0q]
 have HE0:=I (z1p (Below.refl w.heap.size w))
 generalize w.alloc (.cells zV6.toArray 52)= W at*
 have HMW:=I (HM.o.below HE0.o.bel)
 have HRR:Hid (W.rangeAt p o [.int .i64 15,.string s,v0,v1,v2,v3,v4,v5,vn,.slice (some ⟨b,ob,none⟩) 3 c]):=I (zc HR0.o HE0.o.bel HP.o)
 have d0:W.cell? ⟨p,o,none⟩= some (.int .i64 15):=HRR.o 0 _ rfl
 have d9:W.cell? ⟨p,o+9,none⟩= some (.slice (some ⟨b,ob,none⟩) 3 c):=HRR.o 9 _ rfl
 have HB0:=I (z1U mp b ob ra W (HA.o W HE0.o.bel))
 have HB1:=HBB.o.later HE0.o.bel
 have HC1:=HCC.o.later HE0.o.bel
 have HX1:=I HB1
 have HX2:=I HC1
 clear HB1 HC1
 go_wp2_with (go_at_call 134;fail)
 refine HB0.o.mono ?_
 rintro e z ⟨⟨x,hx,rfl⟩|⟨n,hx,rfl⟩,hbz⟩
 ·have HBZ:=I hbz
  have d9':z.cell? ⟨p,o+9,none⟩= some (.slice (some ⟨b,ob,none⟩) 3 c):=(hbz.cell (p:=⟨p,o+9,none⟩) (Nat.lt_of_lt_of_le HP.o HE0.o.bel.size)).trans d9
  rw[hx] at HRES0
  clear hbz hx d0 d9
  cases x with
  |true=>
   have HRR2:Hid (res= rb):=I HRES0.o
   go_wp2_with (go_at_call 116;fail)
   refine(HX1.o _ HBZ.o).mono ?_
   rintro e z2 (⟨v,cs',hres,rfl,hk,hrw,hb⟩|⟨n,hres,rfl,hb⟩)
   ·have HE1:=I (HE0.o.next HBZ.o)
    have HCL:=I (zo hk.val).1
    have HON:=I (zo hk.val).2
    have HKZ:=I (HE1.o.keptN hk)
    have HEZ:=I (HE1.o.next hb)
    have HRW:=I hrw
    have HRES:=I (HRR2.o.trans hres)
    clear hk hb hrw hres
    go_wp2_with (((with_reducible refine zf 52 _ _ rfl rfl ?_ (w.heap.size) zV6 (cs') HEZ.o.wb ?_ ?_ ?_ ?_ ?_ ?_);(exact wA rfl);rw[HCL.o];rfl;rfl;rfl;rw[HCL.o];kernel_rfl;exact HON.o;intro Z2 hz hb;have HX:=I hz;have HXB:=I hb;clear hz hb))
    (try simp only[Exit.inBlock,Exit.then])
    refine bodyPost_ret (zi rfl Tryz.underlying52 rfl _ _ (w.heap.size) (cs') (by rw[HCL.o];kernel_rfl) rfl HX.o.range) rfl ?_
    exact .ok HRES.o rfl (HEZ.o.kept HKZ.o HXB.o) (HRW.o) (HEZ.o.fin HXB.o)
   ·have HB:=I hb
    have HRES:=I (HRR2.o.trans hres)
    clear hb hres
    go_wp2
    exact⟨rfl,.no HRES.o rfl ((HE0.o.next HBZ.o).next HB.o).bel⟩
  |false=>
   have HRR2:Hid (res= rc):=I HRES0.o
   go_wp2_with (go_at_call 116;fail)
   refine(HX2.o _ HBZ.o).mono ?_
   rintro e z2 (⟨v,cs',hres,rfl,hk,hrw,hb⟩|⟨n,hres,rfl,hb⟩)
   ·have HE1:=I (HE0.o.next HBZ.o)
    have HCL:=I (zo hk.val).1
    have HON:=I (zo hk.val).2
    have HKZ:=I (HE1.o.keptN hk)
    have HEZ:=I (HE1.o.next hb)
    have HRW:=I hrw
    have HRES:=I (HRR2.o.trans hres)
    clear hk hb hrw hres
    go_wp2_with (((with_reducible refine zf 52 _ _ rfl rfl ?_ (w.heap.size) zV6 (cs') HEZ.o.wb ?_ ?_ ?_ ?_ ?_ ?_);(exact wA rfl);rw[HCL.o];rfl;rfl;rfl;rw[HCL.o];kernel_rfl;exact HON.o;intro Z2 hz hb;have HX:=I hz;have HXB:=I hb;clear hz hb))
    (try simp only[Exit.inBlock,Exit.then])
    refine bodyPost_ret (zi rfl Tryz.underlying52 rfl _ _ (w.heap.size) (cs') (by rw[HCL.o];kernel_rfl) rfl HX.o.range) rfl ?_
    exact .ok HRES.o rfl (HEZ.o.kept HKZ.o HXB.o) (HRW.o) (HEZ.o.fin HXB.o)
   ·have HB:=I hb
    have HRES:=I (HRR2.o.trans hres)
    clear hb hres
    go_wp2
    exact⟨rfl,.no HRES.o rfl ((HE0.o.next HBZ.o).next HB.o).bel⟩
 ·have HB:=I hbz
  have HRES:Hid (res= .error n):=I (by rw[HRES0.o,hx])
  clear hbz hx d0 d9
  go_wp2
  exact⟨rfl,.no HRES.o rfl (HE0.o.next HB.o).bel⟩
theorem zft (s:ByteArray) (v0 v1 v2 v3 v4 v5 vn:Value) (b ob c:Nat) (ra rb res:Res) (hres:res= lazyR 13 [ra,rb]) (hr:w.rangeAt p o [.int .i64 13,.string s,v0,v1,v2,v3,v4,v5,vn,.slice (some ⟨b,ob,none⟩) 2 c]) (hp:p < w.heap.size) (ha:EvAt mp b ob w ra) (hb:EvAt mp b (ob+10) w rb) (hm:MacAt w mp va vb E V):
  Calls Tryz.prog 116 #[.pointer (some ⟨mp,0,none⟩),.pointer (some ⟨p,o,none⟩)] w (EvPost res w):=by
 have HM:=I hm
 have HR0:=I hr
 have HP:=I hp
 rw[zfd] at hres
 have HRES0:=I hres
 have HA:=I ha
 have HBB:=I hb
 clear hm hr hp ha hb hres
 go_enter Tryz.func116,Tryz.ntmps116
 go_upto_region 1 with (fail)
 rw[z0q]
 have HE0:=I (z1p (Below.refl w.heap.size w))
 generalize w.alloc (.cells zV6.toArray 52)= W at*
 have HMW:=I (HM.o.below HE0.o.bel)
 have HRR:Hid (W.rangeAt p o [.int .i64 13,.string s,v0,v1,v2,v3,v4,v5,vn,.slice (some ⟨b,ob,none⟩) 2 c]):=I (zc HR0.o HE0.o.bel HP.o)
 have d0:W.cell? ⟨p,o,none⟩= some (.int .i64 13):=HRR.o 0 _ rfl
 have d9:W.cell? ⟨p,o+9,none⟩= some (.slice (some ⟨b,ob,none⟩) 2 c):=HRR.o 9 _ rfl
 have HB0:=I (z1U mp b ob ra W (HA.o W HE0.o.bel))
 have HB1:=HBB.o.later HE0.o.bel
 have HX1:=I HB1
 clear HB1
 go_wp2_with (go_at_call 134;fail)
 refine HB0.o.mono ?_
 rintro e z ⟨⟨x,hx,rfl⟩|⟨n,hx,rfl⟩,hbz⟩
 ·have HBZ:=I hbz
  have d9':z.cell? ⟨p,o+9,none⟩= some (.slice (some ⟨b,ob,none⟩) 2 c):=(hbz.cell (p:=⟨p,o+9,none⟩) (Nat.lt_of_lt_of_le HP.o HE0.o.bel.size)).trans d9
  rw[hx] at HRES0
  have HE1:=I (HE0.o.next HBZ.o)
  clear hbz hx d0 d9
  cases x with
  |true=>
   have HRR2:Hid (res=(boolR rb).map vB):=I HRES0.o
   have HB2:=I (z1U mp b (ob+10) rb z (HX1.o z HBZ.o))
   go_wp2_with (go_at_call 134;fail)
   refine HB2.o.mono ?_
   rintro e z2 ⟨⟨y,hy,rfl⟩|⟨n,hy,rfl⟩,hbz⟩
   ·rw[hy] at HRR2
    have HRES:Hid (res= .ok (vB y)):=I HRR2.o
    have HE2:=I (HE1.o.next hbz)
    clear hbz hy
    go_wp2_with (first|(go_at_call 135;refine(z14 y _).mono ?_;rintro e z3 ⟨rfl,hb⟩;have HEZ:=I (HE2.o.next hb);clear hb)|((with_reducible refine zf 52 _ _ rfl rfl ?_ (w.heap.size) zV6 (tC y) HEZ.o.wb ?_ ?_ ?_ ?_ ?_ ?_);(exact wA rfl);rfl;rfl;rfl;kernel_rfl;exact z22 y;intro Z2 hz hb;have HX:=I hz;have HXB:=I hb;clear hz hb))
    (try simp only[Exit.inBlock,Exit.then])
    refine bodyPost_ret (zi rfl Tryz.underlying52 rfl _ _ (w.heap.size) (tC y) (by kernel_rfl) rfl HX.o.range) rfl ?_
    exact .ok HRES.o rfl (z1s _ _ y) (z1q y) (HEZ.o.fin HXB.o)
   ·rw[hy] at HRR2
    have HRES:Hid (res= .error n):=I HRR2.o
    have HE2:=I (HE1.o.next hbz)
    clear hbz hy
    go_wp2
    exact⟨rfl,.no HRES.o rfl HE2.o.bel⟩
  |false=>
   have HRES:Hid (res= .ok (vB false)):=I HRES0.o
   go_wp2_with (first|(go_at_call 135;refine(z14 false _).mono ?_;rintro e z3 ⟨rfl,hb⟩;have HEZ:=I (HE1.o.next hb);clear hb)|((with_reducible refine zf 52 _ _ rfl rfl ?_ (w.heap.size) zV6 (tC false) HEZ.o.wb ?_ ?_ ?_ ?_ ?_ ?_);(exact wA rfl);rfl;rfl;rfl;kernel_rfl;exact z22 false;intro Z2 hz hb;have HX:=I hz;have HXB:=I hb;clear hz hb))
   (try simp only[Exit.inBlock,Exit.then])
   refine bodyPost_ret (zi rfl Tryz.underlying52 rfl _ _ (w.heap.size) (tC false) (by kernel_rfl) rfl HX.o.range) rfl ?_
   exact .ok HRES.o rfl (z1s _ _ false) (z1q false) (HEZ.o.fin HXB.o)
 ·have HB:=I hbz
  have HRES:Hid (res= .error n):=I (by rw[HRES0.o,hx])
  clear hbz hx d0 d9
  go_wp2
  exact⟨rfl,.no HRES.o rfl (HE0.o.next HB.o).bel⟩
theorem ev_or (s:ByteArray) (v0 v1 v2 v3 v4 v5 vn:Value) (b ob c:Nat) (ra rb res:Res) (hres:res= lazyR 14 [ra,rb]) (hr:w.rangeAt p o [.int .i64 14,.string s,v0,v1,v2,v3,v4,v5,vn,.slice (some ⟨b,ob,none⟩) 2 c]) (hp:p < w.heap.size) (ha:EvAt mp b ob w ra) (hb:EvAt mp b (ob+10) w rb) (hm:MacAt w mp va vb E V):
  Calls Tryz.prog 116 #[.pointer (some ⟨mp,0,none⟩),.pointer (some ⟨p,o,none⟩)] w (EvPost res w):=by
 have HM:=I hm
 have HR0:=I hr
 have HP:=I hp
 rw[lz_or] at hres
 have HRES0:=I hres
 have HA:=I ha
 have HBB:=I hb
 clear hm hr hp ha hb hres
 go_enter Tryz.func116,Tryz.ntmps116
 go_upto_region 1 with (fail)
 rw[z0q]
 have HE0:=I (z1p (Below.refl w.heap.size w))
 generalize w.alloc (.cells zV6.toArray 52)= W at*
 have HMW:=I (HM.o.below HE0.o.bel)
 have HRR:Hid (W.rangeAt p o [.int .i64 14,.string s,v0,v1,v2,v3,v4,v5,vn,.slice (some ⟨b,ob,none⟩) 2 c]):=I (zc HR0.o HE0.o.bel HP.o)
 have d0:W.cell? ⟨p,o,none⟩= some (.int .i64 14):=HRR.o 0 _ rfl
 have d9:W.cell? ⟨p,o+9,none⟩= some (.slice (some ⟨b,ob,none⟩) 2 c):=HRR.o 9 _ rfl
 have HB0:=I (z1U mp b ob ra W (HA.o W HE0.o.bel))
 have HB1:=HBB.o.later HE0.o.bel
 have HX1:=I HB1
 clear HB1
 go_wp2_with (go_at_call 134;fail)
 refine HB0.o.mono ?_
 rintro e z ⟨⟨x,hx,rfl⟩|⟨n,hx,rfl⟩,hbz⟩
 ·have HBZ:=I hbz
  have d9':z.cell? ⟨p,o+9,none⟩= some (.slice (some ⟨b,ob,none⟩) 2 c):=(hbz.cell (p:=⟨p,o+9,none⟩) (Nat.lt_of_lt_of_le HP.o HE0.o.bel.size)).trans d9
  rw[hx] at HRES0
  have HE1:=I (HE0.o.next HBZ.o)
  clear hbz hx d0 d9
  cases x with
  |false=>
   have HRR2:Hid (res=(boolR rb).map vB):=I HRES0.o
   have HB2:=I (z1U mp b (ob+10) rb z (HX1.o z HBZ.o))
   go_wp2_with (go_at_call 134;fail)
   refine HB2.o.mono ?_
   rintro e z2 ⟨⟨y,hy,rfl⟩|⟨n,hy,rfl⟩,hbz⟩
   ·rw[hy] at HRR2
    have HRES:Hid (res= .ok (vB y)):=I HRR2.o
    have HE2:=I (HE1.o.next hbz)
    clear hbz hy
    go_wp2_with (first|(go_at_call 135;refine(z14 y _).mono ?_;rintro e z3 ⟨rfl,hb⟩;have HEZ:=I (HE2.o.next hb);clear hb)|((with_reducible refine zf 52 _ _ rfl rfl ?_ (w.heap.size) zV6 (tC y) HEZ.o.wb ?_ ?_ ?_ ?_ ?_ ?_);(exact wA rfl);rfl;rfl;rfl;kernel_rfl;exact z22 y;intro Z2 hz hb;have HX:=I hz;have HXB:=I hb;clear hz hb))
    (try simp only[Exit.inBlock,Exit.then])
    refine bodyPost_ret (zi rfl Tryz.underlying52 rfl _ _ (w.heap.size) (tC y) (by kernel_rfl) rfl HX.o.range) rfl ?_
    exact .ok HRES.o rfl (z1s _ _ y) (z1q y) (HEZ.o.fin HXB.o)
   ·rw[hy] at HRR2
    have HRES:Hid (res= .error n):=I HRR2.o
    have HE2:=I (HE1.o.next hbz)
    clear hbz hy
    go_wp2
    exact⟨rfl,.no HRES.o rfl HE2.o.bel⟩
  |true=>
   have HRES:Hid (res= .ok (vB true)):=I HRES0.o
   go_wp2_with (first|(go_at_call 135;refine(z14 true _).mono ?_;rintro e z3 ⟨rfl,hb⟩;have HEZ:=I (HE1.o.next hb);clear hb)|((with_reducible refine zf 52 _ _ rfl rfl ?_ (w.heap.size) zV6 (tC true) HEZ.o.wb ?_ ?_ ?_ ?_ ?_ ?_);(exact wA rfl);rfl;rfl;rfl;kernel_rfl;exact z22 true;intro Z2 hz hb;have HX:=I hz;have HXB:=I hb;clear hz hb))
   (try simp only[Exit.inBlock,Exit.then])
   refine bodyPost_ret (zi rfl Tryz.underlying52 rfl _ _ (w.heap.size) (tC true) (by kernel_rfl) rfl HX.o.range) rfl ?_
   exact .ok HRES.o rfl (z1s _ _ true) (z1q true) (HEZ.o.fin HXB.o)
 ·have HB:=I hbz
  have HRES:Hid (res= .error n):=I (by rw[HRES0.o,hx])
  clear hbz hx d0 d9
  go_wp2
  exact⟨rfl,.no HRES.o rfl (HE0.o.next HB.o).bel⟩
end
end
section
open Go Go.RowKit
theorem zcu {E:List VarT} {V:List VT} {its:List ET} {j:Nat} {y:ET} (h:its[j]?= some y):seqR (zY E V (its.drop j))= match evalE E V y with| .error e=> .error e| .ok v=>(seqR (zY E V (its.drop (j+1)))).map (v:: ·):=by
 rw[z58 h,zY]
 cases evalE E V y with
 |error e=>rfl
 |ok v=>
  rw[seqR]
  cases seqR (zY E V (its.drop (j+1)))<;>rfl
theorem z8D (r:Except Int (List VT)) (vs:List VT) (v:VT):(r.map (v:: ·)).map (vs ++ ·)= r.map ((vs ++ [v]) ++ ·):=by
 cases r with
 |error e=>rfl
 |ok l=>show Except.ok (vs ++ (v::l))= Except.ok ((vs ++ [v]) ++ l);simp
theorem z4X:∀ (l:List ET),l.length<=szEL l
 |[]=>by simp
 |a::l=>by
  have:=z4X l
  have:=zeG a
  rw[szEL,List.length_cons];omega
theorem z4P:∀ {l:List ET} {x:ET},x∈l->szE x<=szEL l
 |a::l,x,hx=>by
  rw[szEL]
  rcases List.mem_cons.1 hx with rfl|hx
  ·omega
  ·have:=z4P hx;omega
theorem z3k {E:List VarT} {V:List VT} {k:Int} {s:ByteArray} {v:VT} {ns:List ByteArray} {its:List ET} (h: ¬ k= 1/\¬ k= 2/\¬ (k= 13\/k= 14\/k= 15)):evalE E V (.mk k s v ns its)= match seqR (zY E V its) with| .error e=> .error e| .ok l=>combR k s ns l:=by
 rw[evalE,if_neg h.1,if_neg h.2.1,if_neg h.2.2]
 rfl
theorem za3 {vs:List VT} {v:VT} (h:∀ z∈vs,zv z= true) (hv:zv v= true):∀ z∈vs ++ [v],zv z= true:=fun z hz=>by
 rcases List.mem_append.1 hz with h1|h1
 ·exact h z h1
 ·have:z= v:=by simpa using h1
  rw[this];exact hv
theorem z0x {α:Type} {T:TypeId} {k base:Nat} {enc:α->List Value} {w:World} {v:Value} {l:List α} (h:OwnSl T k enc w base v l):∃ A c,v= .slice A l.length c:=by
 rcases h.2 with ⟨rfl,h0⟩|⟨g,cap,cur,rfl,_⟩
 ·exact⟨none,0,by rw[h0]⟩
 ·exact⟨_,_,rfl⟩
section
variable (mp:Nat) (va vb:Value) (E:List VarT) (V:List VT) (p o:Nat) (w:World)
theorem z66 (k:Int) (s:ByteArray) (v0 v1 v2 v3 v4 v5 vn:Value) (A:Option Addr) (c:Nat) (ns:List ByteArray) (its:List ET) (e1:(k ==1)= false) (e2:(k ==2)= false) (e15:(k ==15)= false) (e13:(k ==13)= false) (e14:(k ==14)= false)
  (hlen:its.length<=199) (hkl:(k= 16\/k= 17)\/(¬ k= 16/\¬ k= 17/\(its.length= 1\/its.length= 2)))
  (hr:w.rangeAt p o [.int .i64 k,.string s,v0,v1,v2,v3,v4,v5,vn,.slice A its.length c]) (hp:p < w.heap.size) (hns:SlAt w w.heap.size 1 StrR vn ns) (hnl:ns.length<=1000)
  (hA:0 < its.length->∃ b ob,A= some ⟨b,ob,none⟩/\∀ j x,its[j]?= some x->EvAt mp b (ob+j*10) w (evalE E V x)) (hm:MacAt w mp va vb E V) {res:Res}
  (hres:res= match seqR (zY E V its) with| .error e=> .error e| .ok l=>combR k s ns l):
  Calls Tryz.prog 116 #[.pointer (some ⟨mp,0,none⟩),.pointer (some ⟨p,o,none⟩)] w (EvPost res w):=by
 have HM:=I hm
 have HR0:=I hr
 have HP:=I hp
 have HRES:=I hres
 have HNS:=I hns
 have HNL:=I hnl
 have HA:=I hA
 have HLEN:=I hlen
 have HKL:=I hkl
 clear hm hr hp hns hnl hA hlen hkl hres
 go_enter Tryz.func116,Tryz.ntmps116
 go_upto_region 1 with (fail)
 rw[z0q]
 have HE0:=I (z1p (Below.refl w.heap.size w))
 generalize w.alloc (.cells zV6.toArray 52)= W at*
 have HMW:=I (HM.o.below HE0.o.bel)
 have HRR:Hid (W.rangeAt p o [.int .i64 k,.string s,v0,v1,v2,v3,v4,v5,vn,.slice A its.length c]):=I (zc HR0.o HE0.o.bel HP.o)
 have d0:W.cell? ⟨p,o,none⟩= some (.int .i64 k):=HRR.o 0 _ rfl
 have d9:W.cell? ⟨p,o+9,none⟩= some (.slice A its.length c):=HRR.o 9 _ rfl
 have HPW:Hid (p < W.heap.size):=I (Nat.lt_of_lt_of_le HP.o HE0.o.bel.size)
 obtain⟨j0,hi,hz0,hz1,hz2⟩:=zX z2a
 have HJ0:=I hi
 have HY0:=I hz0
 have HY1:=I hz1
 have HY2:=I hz2
 clear hi hz0 hz1 hz2
 go_upto_region 16 with (fail)
 clear d0 d9
 go_loopg [5,92] its.length (fun q x y u=>∃ (j:Nat) (vs:List VT) (KL:List zW),j+q= its.length/\y= .int .i64 j/\vs.length= j/\seqR (zY E V its)=(seqR (zY E V (its.drop j))).map (vs ++ ·)/\(∀ z∈vs,zv z= true)/\RowInv 52 W u x vs KL)
 case atStart=>exact⟨0,[],[],by omega,rfl,rfl,by rw[List.drop_zero];cases seqR (zY E V its)<;>rfl,(fun z hz=>by cases hz),RowInv.start _ _⟩
 case round=>
  obtain⟨j,vs,KL,hj,rfl,hvl,hseq,hright,hI⟩:=hrel
  have HI:=I hI
  have HSEQ:=I hseq
  have HRI:=I hright
  have HVL:=I hvl
  have HEU:=I (HE0.o.next HI.o.bel)
  obtain⟨UA,uc,rfl⟩:=z0x hI.own
  have HKLL:=I hI.len
  clear hI hseq hright
  have d0:wr.cell? ⟨p,o,none⟩= some (.int .i64 k):=(HI.o.bel.cell (p:=⟨p,o,none⟩) HPW.o).trans (HRR.o 0 _ rfl)
  have d9:wr.cell? ⟨p,o+9,none⟩= some (.slice A its.length c):=(HI.o.bel.cell (p:=⟨p,o+9,none⟩) HPW.o).trans (HRR.o 9 _ rfl)
  cases gk with
  |zero=>
   obtain rfl:j= its.length:=by omega
   have hge: ¬ ((its.length:Int) <(its.length:Int)):=by omega
   have HSQ:Hid (res= combR k s ns vs):=I (by
    have h1:=HSEQ.o
    rw[List.drop_length,zY,seqR] at h1
    have h2:seqR (zY E V its)= .ok vs:=by rw[h1];show Except.ok (vs ++ [])= _;rw[List.append_nil]
    rw[HRES.o,h2])
   have HVM:Hid (vs.length<=maxLen):=I (by have h1:=HVL.o;have h2:=HLEN.o;unfold maxLen;omega)
   have HKR:=HKL.o
   rcases HKR with (hk16|hk17)|⟨hn16,hn17,hl12⟩
   ·subst hk16
    have HKV:Hid (Kept (fun b=>W.heap.size<=b) wr [.int .i64 5,.int .i64 0,.float .f64 0,.string ⟨#[]⟩,.slice none 0 0,.slice UA KL.length uc] (.mk 5 0 0 ⟨#[]⟩ [] vs)):=I (ValAt.of (z0b (by omega)) (z0b (by omega)) (by decide) (by decide) (SlAt.nil _ _ _ _) HVM.o (HI.o.row HVM.o (Nat.le_refl _) (fun _ _ _=>rfl) (Nat.le_refl _)))
    have HSD:=I (z2N (fun b=>W.heap.size<=b) _ _ wr HKV.o)
    have HRE:Hid (res= szd (.mk 5 0 0 ⟨#[]⟩ [] vs)):=I (by rw[HSQ.o];unfold combR;rw[if_pos rfl])
    clear d9
    go_wp2_with (go_at_call 136;fail)
    refine HSD.o.mono ?_
    rintro e z2 (⟨u,cs',hr,rfl,hk,hb⟩|⟨n,hr,rfl,hb⟩)
    ·have HEZ:=I (HEU.o.next hb)
     have HKZ:Hid (Kept (fun b=>w.heap.size < b) z2 cs' u):=I (hk.to (fun b hp hlt=>⟨by have h1:=HE0.o.lt;have h2:=HI.o.bel.size;rcases hp with h|h<;>omega,rfl⟩) (Nat.le_refl _))
     have HCL:=I (zo hk.val).1
     have HON:=I (zo hk.val).2
     have HRE2:Hid (res= .ok u):=I (HRE.o.trans hr)
     have HRW:Hid (zv u= true):=I (z40 hr).2
     clear hk hb hr
     go_wp2_with (((with_reducible refine zf 52 _ _ rfl rfl ?_ (w.heap.size) zV6 (cs') HEZ.o.wb ?_ ?_ ?_ ?_ ?_ ?_);(exact wA rfl);rw[HCL.o];rfl;rfl;rfl;rw[HCL.o];kernel_rfl;exact HON.o;intro Z2 hz hb;have HX:=I hz;have HXB:=I hb;clear hz hb))
     (try simp only[Exit.inBlock,Exit.then])
     refine bodyPost_ret (zi rfl Tryz.underlying52 rfl _ _ (w.heap.size) (cs') (by rw[HCL.o];kernel_rfl) rfl HX.o.range) rfl ?_
     exact .ok HRE2.o rfl (HEZ.o.kept HKZ.o HXB.o) (HRW.o) (HEZ.o.fin HXB.o)
    ·have HRE2:Hid (res= .error n):=I (HRE.o.trans hr)
     have HB:=I hb
     clear hb hr
     go_wp2
     exact⟨rfl,.no HRE2.o rfl (HEU.o.next HB.o).bel⟩
   ·subst hk17
    obtain⟨-,NA,nc,rfl, -⟩:=id HNS.o
    have d8:wr.cell? ⟨p,o+8,none⟩= some (.slice NA ns.length nc):=(HI.o.bel.cell (p:=⟨p,o+8,none⟩) HPW.o).trans (HRR.o 8 _ rfl)
    have HWU:=I (HE0.o.bel.trans (HI.o.bel.mono HE0.o.bel.size))
    have HCN:=I (z1l wr (.slice NA ns.length nc) ns ((HNS.o.below HWU.o fun _ _ _ h=>h).more HWU.o.size) (by have h1:=HNL.o;have h2:reachBytes= 140737488351232:=rfl;omega))
    go_upto_region 23 with (fail)
    clear d0 d9
    go_wp2_with (first|(go_at_call 130;fail))
    refine HCN.o.mono ?_
    rintro e z ⟨v',rfl,hbz,hkn⟩
    obtain⟨-,NA2,nc2,rfl, -⟩:=id hkn
    have HKV:Hid (Kept (fun b=>W.heap.size<=b) z [.int .i64 6,.int .i64 0,.float .f64 0,.string ⟨#[]⟩,.slice NA2 ns.length nc2,.slice UA KL.length uc] (.mk 6 0 0 ⟨#[]⟩ ns vs)):=I (ValAt.of (z0b (by omega)) (z0b (by omega)) (by decide) (by decide) (hkn.to (fun b hp hlt=>⟨Nat.le_trans HI.o.bel.size hp,rfl⟩) (Nat.le_refl _)) HVM.o (HI.o.row HVM.o (Nat.le_refl _) (fun b _ hlt=>hbz.block b hlt) hbz.size))
    have HSD:=I (z2N (fun b=>W.heap.size<=b) _ _ z HKV.o)
    have HRE:Hid (res= szd (.mk 6 0 0 ⟨#[]⟩ ns vs)):=I (by rw[HSQ.o];unfold combR;rw[if_neg (by decide),if_pos rfl])
    have HEY:=I (HEU.o.next hbz)
    have HZS:=I hbz.size
    clear hbz hkn d8 HCN
    go_wp2_with (go_at_call 136;fail)
    refine HSD.o.mono ?_
    rintro e z2 (⟨u,cs',hr,rfl,hk,hb⟩|⟨n,hr,rfl,hb⟩)
    ·have HEZ:=I (HEY.o.next hb)
     have HKZ:Hid (Kept (fun b=>w.heap.size < b) z2 cs' u):=I (hk.to (fun b hp hlt=>⟨by have h1:=HE0.o.lt;have h2:=HI.o.bel.size;have h3:=HZS.o;rcases hp with h|h<;>omega,rfl⟩) (Nat.le_refl _))
     have HCL:=I (zo hk.val).1
     have HON:=I (zo hk.val).2
     have HRE2:Hid (res= .ok u):=I (HRE.o.trans hr)
     have HRW:Hid (zv u= true):=I (z40 hr).2
     clear hk hb hr
     go_wp2_with (((with_reducible refine zf 52 _ _ rfl rfl ?_ (w.heap.size) zV6 (cs') HEZ.o.wb ?_ ?_ ?_ ?_ ?_ ?_);(exact wA rfl);rw[HCL.o];rfl;rfl;rfl;rw[HCL.o];kernel_rfl;exact HON.o;intro Z2 hz hb;have HX:=I hz;have HXB:=I hb;clear hz hb))
     (try simp only[Exit.inBlock,Exit.then])
     refine bodyPost_ret (zi rfl Tryz.underlying52 rfl _ _ (w.heap.size) (cs') (by rw[HCL.o];kernel_rfl) rfl HX.o.range) rfl ?_
     exact .ok HRE2.o rfl (HEZ.o.kept HKZ.o HXB.o) (HRW.o) (HEZ.o.fin HXB.o)
    ·have HRE2:Hid (res= .error n):=I (HRE.o.trans hr)
     have HB:=I hb
     clear hb hr
     go_wp2
     exact⟨rfl,.no HRE2.o rfl (HEY.o.next HB.o).bel⟩
   ·have e16:(k ==16)= false:=by simpa using hn16
    have e17:(k ==17)= false:=by simpa using hn17
    have HROW:=I (HI.o.row HVM.o (Nat.le_refl _) (fun _ _ _=>rfl) (Nat.le_refl _))
    have HTAB:=I (HM.o.tab.next (HE0.o.bel.trans (HI.o.bel.mono HE0.o.bel.size)))
    have d1:wr.cell? ⟨p,o+1,none⟩= some (.string s):=(HI.o.bel.cell (p:=⟨p,o+1,none⟩) HPW.o).trans (HRR.o 1 _ rfl)
    have HPU:Hid (p < wr.heap.size):=I (Nat.lt_of_lt_of_le HPW.o HI.o.bel.size)
    have HNK:=I (And.intro hn16 hn17)
    clear d9 hn16 hn17
    obtain⟨n,hn⟩:∃ n,KL.length= n:=⟨_,rfl⟩
    have hnl:=hn.symm.trans (HKLL.o.trans HVL.o)
    rw[hn] at HROW
    rw[hn]
    rcases hl12 with hl1|hl2
    ·obtain rfl:n= 1:=by omega
     obtain⟨a,rfl⟩:∃ a,vs=[a]:=by
      have h1:=HVL.o
      match vs,h1.trans hl1 with
      |[a],_=>exact⟨a,rfl⟩
     clear hl1 hnl hn
     obtain⟨-,RA,rc,hre,hA1⟩:=HROW.o
     simp only[Value.slice.injEq] at hre
     obtain⟨rfl, -,rfl⟩:=hre
     obtain⟨b0,o0,rfl,hb0,hc0⟩:=hA1 (by simp)
     obtain⟨ks,hkl3,hkr,hkv⟩:=hc0 0 a rfl
     rw[Nat.zero_mul,Nat.add_zero] at hkr
     have HKS:Hid (Kept (fun b=>W.heap.size<=b) wr ks a):=I hkv
     have HCLL:=I hkl3
     have HKRR:Hid (wr.rangeAt b0 o0 ks):=I (z0l hkr fun a v h=>(zp.1 h).2)
     have HUN:=I (zbb (fun b=>W.heap.size<=b) k s p o a ks wr d0 d1 HPU.o HKS.o (HRI.o a (by simp)) HTAB.o)
     have HRE:Hid (res= unV k s a):=I (by rw[HSQ.o];unfold combR;rw[if_neg HNK.o.1,if_neg HNK.o.2])
     have HSA:=I (z9p _ _ HKS.o.val)
     have HRA:=I (HRI.o a (by simp))
     clear hA1 hc0 hkl3 hkr hkv hb0 d1
     go_wp2_with (first|((with_reducible refine za 52 _ rfl ?_ b0 (o0) ks _ rfl HKRR.o Tryz.underlying52 rfl ?_ ?_);(exact wA rfl);rw[HCLL.o];kernel_rfl)|(go_at_call 137;fail))
     refine HUN.o.mono ?_
     rintro e z2 (⟨u,cs',hr,rfl,hk,hb⟩|⟨n,hr,rfl,hb⟩)
     ·have HEZ:=I (HEU.o.next hb)
      have HKZ:Hid (Kept (fun b=>w.heap.size < b) z2 cs' u):=I (hk.to (fun b hp hlt=>⟨by have h1:=HE0.o.lt;have h2:=HI.o.bel.size;rcases hp with h|h<;>omega,rfl⟩) (Nat.le_refl _))
      have HCL:=I (zo hk.val).1
      have HON:=I (zo hk.val).2
      have HRE2:Hid (res= .ok u):=I (HRE.o.trans hr)
      have HRW:Hid (zv u= true):=I (zcx HSA.o HRA.o hr)
      clear hk hb hr
      go_wp2_with (((with_reducible refine zf 52 _ _ rfl rfl ?_ (w.heap.size) zV6 (cs') HEZ.o.wb ?_ ?_ ?_ ?_ ?_ ?_);(exact wA rfl);rw[HCL.o];rfl;rfl;rfl;rw[HCL.o];kernel_rfl;exact HON.o;intro Z2 hz hb;have HX:=I hz;have HXB:=I hb;clear hz hb))
      (try simp only[Exit.inBlock,Exit.then])
      refine bodyPost_ret (zi rfl Tryz.underlying52 rfl _ _ (w.heap.size) (cs') (by rw[HCL.o];kernel_rfl) rfl HX.o.range) rfl ?_
      exact .ok HRE2.o rfl (HEZ.o.kept HKZ.o HXB.o) (HRW.o) (HEZ.o.fin HXB.o)
     ·have HRE2:Hid (res= .error n):=I (HRE.o.trans hr)
      have HB:=I hb
      clear hb hr
      go_wp2
      exact⟨rfl,.no HRE2.o rfl (HEU.o.next HB.o).bel⟩
    ·obtain rfl:n= 2:=by omega
     obtain⟨a,a2,rfl⟩:∃ a a2,vs=[a,a2]:=by
      have h1:=HVL.o
      match vs,h1.trans hl2 with
      |[a,b],_=>exact⟨a,b,rfl⟩
     clear hl2 hnl hn
     obtain⟨-,RA,rc,hre,hA1⟩:=HROW.o
     simp only[Value.slice.injEq] at hre
     obtain⟨rfl, -,rfl⟩:=hre
     obtain⟨b0,o0,rfl,hb0,hc0⟩:=hA1 (by simp)
     obtain⟨ks,hkl3,hkr,hkv⟩:=hc0 0 a rfl
     obtain⟨ks2,hkl4,hkr2,hkv2⟩:=hc0 1 a2 rfl
     rw[Nat.zero_mul,Nat.add_zero] at hkr
     rw[Nat.one_mul] at hkr2
     have HKS:Hid (Kept (fun b=>W.heap.size<=b) wr ks a):=I hkv
     have HKS2:Hid (Kept (fun b=>W.heap.size<=b) wr ks2 a2):=I hkv2
     have HCLL:=I hkl3
     have HCLM:=I hkl4
     have HKRR:Hid (wr.rangeAt b0 o0 ks):=I (z0l hkr fun a v h=>(zp.1 h).2)
     have HKRS:Hid (wr.rangeAt b0 (o0+6) ks2):=I (z0l hkr2 fun a v h=>(zp.1 h).2)
     have HB0:=I hb0
     have HRE:Hid (res= binV k a a2):=I (by rw[HSQ.o];unfold combR;rw[if_neg HNK.o.1,if_neg HNK.o.2])
     have HRA:=I (HRI.o a (by simp))
     have HRB:=I (HRI.o a2 (by simp))
     clear hA1 hc0 hkl3 hkr hkv hkl4 hkr2 hkv2 hb0 d1
     go_upto_region 26 with (fail)
     refine z0K 10 [(0,true),(1,true),(2,true),(3,true),(4,true),(5,true),(6,true),(7,true),(8,true),(9,true)] (fun z=>Below wr.heap.size wr z) (by kernel_rfl) (by kernel_rfl) rfl (by intro c a d v w h;cases d<;>exact h) ?_
     have hs:Below wr.heap.size wr wr.drew:=(Below.refl _ _).drew
     refine zh (some 139) (.pointer (some ⟨p,o,none⟩)) _ _ rfl rfl rfl (by exact wA rfl) hs rfl ?_
     go_frame
     refine z8 (some 140) (.pointer (some ⟨p,o,none⟩)) _ rfl rfl (by exact wA rfl) hs (fun z hz=>by go_simp) ?_
     go_frame
     refine z8 (some 141) (.pointer (some ⟨p,o,none⟩)) _ rfl rfl (by exact wA rfl) hs (fun z hz=>by go_simp) ?_
     go_frame
     refine z8 (some 142) (.int .i64 k) _ rfl rfl (by exact wA rfl) hs (fun z hz=>by have e4:=(hz.cell (p:=⟨p,o,none⟩) HPU.o).trans d0;clear hz;go_simp) ?_
     go_frame
     refine zh (some 143) (.slice (some ⟨b0,o0,none⟩) 2 uc) _ _ rfl rfl rfl (by exact wA rfl) hs rfl ?_
     go_frame
     refine z8 (some 144) (.pointer (some ⟨b0,o0,none⟩)) _ rfl rfl (by exact wA rfl) hs (fun z hz=>by go_simp) ?_
     go_frame
     refine z8 (some 145) (.agg ⟨ks⟩) _ rfl rfl (by exact wA rfl) hs (fun z hz=>zt 52 rfl b0 o0 ks _ rfl (zc HKRR.o hz HB0.o) Tryz.underlying52 rfl (by rw[HCLL.o];kernel_rfl)) ?_
     go_frame
     refine zh (some 146) (.slice (some ⟨b0,o0,none⟩) 2 uc) _ _ rfl rfl rfl (by exact wA rfl) hs rfl ?_
     go_frame
     refine z8 (some 147) (.pointer (some ⟨b0,o0+6,none⟩)) _ rfl rfl (by exact wA rfl) hs (fun z hz=>by go_simp) ?_
     go_frame
     refine z8 (some 148) (.agg ⟨ks2⟩) _ rfl rfl (by exact wA rfl) hs (fun z hz=>zt 52 rfl b0 (o0+6) ks2 _ rfl (zc HKRS.o hz HB0.o) Tryz.underlying52 rfl (by rw[HCLM.o];kernel_rfl)) ?_
     go_frame
     refine z35 ?_
     have HED:=I HEU.o.drew
     have HKD:Hid (Kept (fun b=>W.heap.size<=b) wr.drew ks a):=I (HKS.o.to (fun b hp _=>⟨hp,rfl⟩) (Nat.le_refl _))
     have HKD2:Hid (Kept (fun b=>W.heap.size<=b) wr.drew ks2 a2):=I (HKS2.o.to (fun b hp _=>⟨hp,rfl⟩) (Nat.le_refl _))
     have HUS:Hid (W.heap.size<=wr.drew.heap.size):=I HI.o.bel.size
     have HBI:=I (z9S (fun b=>W.heap.size<=b) k a a2 ks ks2 wr.drew HKD.o HKD2.o HRA.o HRB.o)
     clear hs d0
     generalize wr.drew= wd at*
     go_wp2_with (go_at_call 138;fail)
     refine HBI.o.mono ?_
     rintro e z2 (⟨u,cs',hr,rfl,hk,hb⟩|⟨n,hr,rfl,hb⟩)
     ·have HEZ:=I (HED.o.next hb)
      have HKZ:Hid (Kept (fun b=>w.heap.size < b) z2 cs' u):=I (hk.to (fun b hp hlt=>⟨by have h1:=HE0.o.lt;have h2:=HUS.o;rcases hp with h|h<;>omega,rfl⟩) (Nat.le_refl _))
      have HCL:=I (zo hk.val).1
      have HON:=I (zo hk.val).2
      have HRE2:Hid (res= .ok u):=I (HRE.o.trans hr)
      have HRW:Hid (zv u= true):=I (za7 HRA.o hr)
      clear hk hb hr
      go_wp2_with (((with_reducible refine zf 52 _ _ rfl rfl ?_ (w.heap.size) zV6 (cs') HEZ.o.wb ?_ ?_ ?_ ?_ ?_ ?_);(exact wA rfl);rw[HCL.o];rfl;rfl;rfl;rw[HCL.o];kernel_rfl;exact HON.o;intro Z2 hz hb;have HX:=I hz;have HXB:=I hb;clear hz hb))
      (try simp only[Exit.inBlock,Exit.then])
      refine bodyPost_ret (zi rfl Tryz.underlying52 rfl _ _ (w.heap.size) (cs') (by rw[HCL.o];kernel_rfl) rfl HX.o.range) rfl ?_
      exact .ok HRE2.o rfl (HEZ.o.kept HKZ.o HXB.o) (HRW.o) (HEZ.o.fin HXB.o)
     ·have HRE2:Hid (res= .error n):=I (HRE.o.trans hr)
      have HB:=I hb
      clear hb hr
      go_wp2
      exact⟨rfl,.no HRE2.o rfl (HED.o.next HB.o).bel⟩
  |succ g=>
   have hlt:(j:Int) <(its.length:Int):=by omega
   obtain⟨y,hy⟩:∃ y,its[j]?= some y:=⟨_,List.getElem?_eq_getElem (by omega)⟩
   obtain⟨b,ob,rfl,hev⟩:=HA.o (by omega)
   have HEV:=I (hev j y hy wr (HE0.o.bel.trans (HI.o.bel.mono HE0.o.bel.size)))
   have HY:=I hy
   have HST:=I (zcu (E:=E) (V:=V) hy)
   clear hev hy
   go_upto_region 18 with (fail)
   go_wp2_with (go_at_call 116;fail)
   refine HEV.o.mono ?_
   rintro e u6 (⟨v,cs',hr,rfl,hk6,hrw,hb6⟩|⟨n,hr,rfl,hb6⟩)
   ·obtain⟨hl6,ho6⟩:=zo hk6.val
    have HK6:=I hk6
    have HB6:=I hb6
    have HL6:=I hl6
    have HO6:=I ho6
    have HRW:=I hrw
    have HSQ2:Hid (seqR (zY E V its)=(seqR (zY E V (its.drop (j+1)))).map ((vs ++ [v]) ++ ·)):=I (by rw[HSEQ.o,HST.o,hr];exact z8D _ _ _)
    clear hk6 hb6 hl6 ho6 hrw hr HEV HST d0 d9
    have HC7:Hid (∀ i u,(enc6 ⟨cs',HL6.o⟩)[i]?= some u->(u6.alloc (.cells ⟨cs'⟩ 52)).cell? ⟨u6.heap.size,i,none⟩= some u):=I (z16 u6 cs' 52)
    have HB7:=I (zd u6 (.cells ⟨cs'⟩ 52))
    have HS7:Hid (W.heap.size<=(u6.alloc (.cells ⟨cs'⟩ 52)).heap.size):=I (Nat.le_trans HI.o.bel.size (Nat.le_trans HB6.o.size HB7.o.size))
    have HOW:Hid (OwnSl 52 6 enc6 (u6.alloc (.cells ⟨cs'⟩ 52)) W.heap.size (.slice UA KL.length uc) KL):=I (HI.o.own.below (HB6.o.trans (HB7.o.mono HB6.o.size)))
    have HM63:Hid (KL.length+1<=maxLen):=I (by have:=HLEN.o;have h2:=HKLL.o;have h3:=HVL.o;unfold maxLen;omega)
    have HM88:Hid ((KL.length+1) *88<=140737488355328):=I (by have:=HLEN.o;have h2:=HKLL.o;have h3:=HVL.o;omega)
    go_wp2_with (first|((with_reducible refine z1u 50 _ rfl ?_ 52 j0 _ cs' ?_ Tryz.underlying50 HJ0.o HY0.o ?_ ?_ ?_ ?_);(exact wA rfl);rfl;rw[HL6.o];exact HY1.o;rw[HL6.o];decide;rw[HL6.o];decide)|(at_builtin;(refine z2o rfl _ _ 50 rfl W.heap.size 52 j0 _ 6 88 enc6 Tryz.underlying50 HJ0.o HY0.o HY1.o HY2.o rfl (by decide) z0N (.slice UA KL.length uc) KL rfl HOW.o u6.heap.size 1 ⟨cs',HL6.o⟩ HO6.o rfl HC7.o HM63.o HM88.o HS7.o ?_;intro v' u8 hown hg hblk;have HN:=I (RowInv.next (k:=⟨cs',HL6.o⟩) HI.o (Below.refl _ _) HB6.o HB7.o HK6.o hown hg hblk);clear hown hg hblk)))
    go_roundg g
    case measure=>omega
    case rel=>
     have hb:=HLEN.o
     have hq:wrap64 ((j:Int)+1)=((j+1:Nat):Int):=by unfold wrap64;omega
     refine⟨j+1,vs ++ [v],KL ++ [⟨cs',HL6.o⟩],?_,?_,?_,HSQ2.o,za3 HRI.o HRW.o,HN.o⟩
     ·omega
     ·first|rw[hq]|rfl
     ·rw[List.length_append,HVL.o];rfl
   ·have HB6:=I hb6
    have HRE:Hid (res= .error n):=I (by rw[HRES.o,HSEQ.o,HST.o,hr];rfl)
    clear hb6 hr HEV HST d0 d9
    go_wp2
    exact⟨rfl,.no HRE.o rfl (HEU.o.next HB6.o).bel⟩
end
end
section
open Go Go.RowKit
theorem zbl {k:Int} {s:ByteArray} {ns:List ByteArray} {nk:Nat} (h:zN k s ns nk= true):ns.length<=nk:=by
 unfold zN at h
 split at h
 ·simp only[Bool.and_eq_true,beq_iff_eq] at h;omega
 split at h
 ·simp only[Bool.and_eq_true,beq_iff_eq] at h;omega
 split at h
 ·simp only[Bool.and_eq_true,beq_iff_eq] at h;omega
 ·simp only[Bool.and_eq_true,beq_iff_eq] at h;omega
theorem lenE2 {l:List ET} (h:l.length= 2):∃ a b,l=[a,b]:=by
 match l,h with
 |[a,b],_=>exact⟨a,b,rfl⟩
theorem lenE3 {l:List ET} (h:l.length= 3):∃ a b c,l=[a,b,c]:=by
 match l,h with
 |[a,b,c],_=>exact⟨a,b,c,rfl⟩
theorem zbx {k:Int} {n:Nat} (h:kidsB (z0M k) n= true):((k= 1\/k= 2)/\n= 0)\/((k= 3\/k= 4\/k= 18\/(20<=k/\k<=23))/\n= 1)\/(((5<=k/\k<=14)\/k= 19)/\n= 2)\/(k= 15/\n= 3)\/(k= 16\/k= 17):=by
 unfold kidsB at h
 simp only[Bool.and_eq_true,Bool.not_eq_true',beq_eq_false_iff_ne,Bool.or_eq_true,decide_eq_true_eq,beq_iff_eq] at h
 unfold z0M at h
 (repeat' split at h)<;>omega
theorem zcC (mp:Nat) (va vb:Value) (E:List VarT) (V:List VT):∀ (t:ET) (d:Nat) (cs:List Value) (p o:Nat) (w:World),z0m t d= true->szE t<=200->w.rangeAt p o cs->p < w.heap.size->ExpAt w w.heap.size cs t->MacAt w mp va vb E V->
  Calls Tryz.prog 116 #[.pointer (some ⟨mp,0,none⟩),.pointer (some ⟨p,o,none⟩)] w (EvPost (evalE E V t) w):=by
 intro t
 induction t using ET.ind with
 |h k s v ns its ih=>
  intro d cs p o w hr hsz hrg hp hv hm
  rw[z0m] at hr
  simp only[Bool.and_eq_true,decide_eq_true_eq] at hr
  obtain⟨_,hk,hnm,hval,hrl⟩:=hr
  rw[z2Q] at hrl
  rw[szE] at hsz
  have hlen:its.length<=199:=by have:=z4X its;omega
  obtain⟨v0,v1,v2,v3,v4,v5,vn,vi,rfl,_,hs,hvv,hns,hil,hi⟩:=hv.inv
  obtain⟨_,A,c,rfl,hA⟩:=hi
  have hEV:0 < its.length->∃ b ob,A= some ⟨b,ob,none⟩/\∀ j x,its[j]?= some x->EvAt mp b (ob+j*10) w (evalE E V x):=fun h0=>by
   obtain⟨b,ob,rfl,hb,hc⟩:=hA h0
   refine⟨b,ob,rfl,fun j x hx u hu=> ?_⟩
   obtain⟨ks,hkl,hkr,hkv⟩:=hc j x hx
   have hmem:=List.mem_of_getElem? hx
   exact ih x hmem (d+1) ks b (ob+j*10) u (hrl x hmem) (by have:=z4P hmem;omega) (zc hkr hu hb) (Nat.lt_of_lt_of_le hb hu.size) ((hkv.under hu).more hu.size) (hm.below hu)
  have hnl:ns.length<=1000:=by have:=zbl hnm;omega
  rcases zbx hk with ⟨hk',_⟩|⟨hk',hn⟩|⟨hk',hn⟩|⟨hk',hn⟩|hk'
  ·rcases hk' with rfl|rfl
   ·unfold valB at hval
    rw[if_pos rfl] at hval
    rw[evalE,if_pos rfl]
    exact zdV mp va vb E V p o w s v v0 v1 v2 v3 v4 v5 vn _ hrg hp hvv hval hm
   ·rw[evalE,if_neg (by decide),if_pos rfl]
    exact ze7 mp va vb E V p o w s v0 v1 v2 v3 v4 v5 vn _ hrg hp hm
  ·exact z66 mp va vb E V p o w k s v0 v1 v2 v3 v4 v5 vn A c ns its (by simp;omega) (by simp;omega) (by simp;omega) (by simp;omega) (by simp;omega) hlen (.inr ⟨by omega,by omega,.inl hn⟩) hrg hp hns hnl hEV hm (z3k ⟨by omega,by omega,by omega⟩)
  ·by_cases h13:k= 13\/k= 14
   ·obtain⟨x,y,rfl⟩:=lenE2 hn
    obtain⟨b,ob,rfl,he⟩:=hEV (by simp)
    have e0:=he 0 x rfl
    have e1:=he 1 y rfl
    rw[Nat.zero_mul,Nat.add_zero] at e0
    rw[Nat.one_mul] at e1
    rcases h13 with rfl|rfl
    ·refine zft mp va vb E V p o w s v0 v1 v2 v3 v4 v5 vn b ob c _ _ _ ?_ hrg hp e0 e1 hm
     rw[evalE,zY,zY,zY,if_neg (by decide),if_neg (by decide),if_pos (by decide)]
    ·refine ev_or mp va vb E V p o w s v0 v1 v2 v3 v4 v5 vn b ob c _ _ _ ?_ hrg hp e0 e1 hm
     rw[evalE,zY,zY,zY,if_neg (by decide),if_neg (by decide),if_pos (by decide)]
   ·exact z66 mp va vb E V p o w k s v0 v1 v2 v3 v4 v5 vn A c ns its (by simp;omega) (by simp;omega) (by simp;omega) (by simp;omega) (by simp;omega) hlen (.inr ⟨by omega,by omega,.inr hn⟩) hrg hp hns hnl hEV hm (z3k ⟨by omega,by omega,by omega⟩)
  ·subst hk'
   obtain⟨x,y,z,rfl⟩:=lenE3 hn
   obtain⟨b,ob,rfl,he⟩:=hEV (by simp)
   have e0:=he 0 x rfl
   have e1:=he 1 y rfl
   have e2:=he 2 z rfl
   rw[Nat.zero_mul,Nat.add_zero] at e0
   rw[Nat.one_mul] at e1
   refine ev_if mp va vb E V p o w s v0 v1 v2 v3 v4 v5 vn b ob c _ _ _ _ ?_ hrg hp e0 e1 e2 hm
   rw[evalE,zY,zY,zY,zY,if_neg (by decide),if_neg (by decide),if_pos (by decide)]
  ·exact z66 mp va vb E V p o w k s v0 v1 v2 v3 v4 v5 vn A c ns its (by simp;omega) (by simp;omega) (by simp;omega) (by simp;omega) (by simp;omega) hlen (.inl hk') hrg hp hns hnl hEV hm (z3k ⟨by omega,by omega,by omega⟩)
end
end Go.Proofs.YtdjfpcmlffekkaaGreatDoor
