/- Parts of a proof: E10X, E10Y. -/
import Derived.Lib.AppendZeros
import Derived.Test.YtmpbepjjbaeebaaGreatDoorPackC2
import Derived.Test.YtmpbepjjbaeebaaGreatDoorPackC7
import Derived.Test.YtmpbepjjbaeebaaGreatDoorPackC13
import Derived.Test.YtmpbepjjbaeebaaGreatDoorPackC17
import Derived.Test.YtmpbepjjbaeebaaGreatDoorPackC36
import Derived.Test.YtmpbepjjbaeebaaGreatDoorPackC40
import Derived.Test.YtmpbepjjbaeebaaGreatDoorPackC41
set_option maxHeartbeats 8000000
set_option maxRecDepth 100000
set_option linter.unusedVariables false
set_option linter.unusedSimpArgs false
namespace Go.Proofs.YtmpbepjjbaeebaaGreatDoor
section
open Go Go.RowKit
theorem zct (w:World) (n:Nat) (i:TypeInfo) (z:Value) (hz6:z.cells.size= 6) (h0:n<=1000):World.ownsRow (w.drew.alloc (.cells (Builtin.zeroCells z.cells n ++ Builtin.zeroCells z.cells (grownCap w n 0 26 - n)) 26)) w.heap.size 26 6 (.slice (some ⟨w.heap.size,0,none⟩) 0 (grownCap w n 0 26)) 0 []:=by
 refine⟨rfl,.inr ⟨w.heap.size,_,_,rfl,Nat.le_refl _,heap_alloc_new w.drew _,Nat.zero_le _,grownCap_le_maxLen _ _ _ _ (by unfold maxLen;omega),?_,by simp⟩⟩
 have h1:=grownCap_ge w n 0 26
 rw[Array.size_append,size_zeroCells,size_zeroCells,hz6,← Nat.add_mul]
 congr 1
 omega
theorem zbp {w:World} {base:Nat} {e:TypeId} {size:Nat} {v:Value} {n:Nat} {xs:List Value} (h:w.ownsRow base e size v n xs) {j:Nat} (hj:v.ownBlock= some j):base<=j:=by
 rcases h.2 with ⟨rfl,_⟩|⟨g,cap,cur,rfl,hg,_⟩
 ·cases hj
 ·have:g= j:=by simpa [Value.ownBlock] using hj
  omega
theorem z4U (w:World) (o:Obj):Below w.heap.size w (w.drew.alloc o):=(Below.refl w.heap.size w).drew.trans (ze w.drew o)
theorem grow0 (w:World):Calls Tryz.prog 164 #[.slice none 0 0,.int .i64 0] w fun e w'=>e= .returned (.slice none 0 0)/\w'= w:=by
 go_enter Tryz.func164,Tryz.ntmps164
 go_wp2
 go_ret
 exact⟨rfl,rfl⟩
theorem growN (n:Nat) (h0:0 < n) (hn:n<=1000) (w:World):Calls Tryz.prog 164 #[.slice none 0 0,.int .i64 n] w fun e w'=>∃ v,e= .returned v/\w'.ownsRow w.heap.size 26 6 v 0 []/\Below w.heap.size w w':=by
 obtain⟨j0,hi,hz0,hz1,hz2⟩:=z0b z0K
 have HJ0:=I hi
 have HY0:=I hz0
 have HY1:=I hz1
 have HY2:=I hz2
 have HRUN:Hid (∀ ty,(Builtin.append_ #[24,3] ty #[.slice none 0 0,.int .i64 n]).run Tryz.prog w= .ok (.slice (some ⟨w.heap.size,0,none⟩) n (grownCap w n 0 26)) (w.drew.alloc (.cells (Builtin.zeroCells (Value.agg #[.int .i64 0,.int .i64 0,.float .f64 0,.string ⟨#[]⟩,.slice none 0 0,.slice none 0 0]).cells n ++ Builtin.zeroCells (Value.agg #[.int .i64 0,.int .i64 0,.float .f64 0,.string ⟨#[]⟩,.slice none 0 0,.slice none 0 0]).cells (grownCap w n 0 26 - n)) 26))):=I fun ty=>Lib.run_append_nil_zeros w 24 3 ty 26 j0 _ .i64 .i64 Tryz.underlying24 Tryz.underlying3 hi hz0 n h0 (by rw[hz1];decide) (by omega) (by rw[hz2];omega)
 have HOWN:=I (zct w n j0 (Value.agg #[.int .i64 0,.int .i64 0,.float .f64 0,.string ⟨#[]⟩,.slice none 0 0,.slice none 0 0]) rfl hn)
 have HBEL:=I (z4U w (.cells (Builtin.zeroCells (Value.agg #[.int .i64 0,.int .i64 0,.float .f64 0,.string ⟨#[]⟩,.slice none 0 0,.slice none 0 0]).cells n ++ Builtin.zeroCells (Value.agg #[.int .i64 0,.int .i64 0,.float .f64 0,.string ⟨#[]⟩,.slice none 0 0,.slice none 0 0]).cells (grownCap w n 0 26 - n)) 26))
 have hpos:(0:Int) <(n:Int):=by omega
 have hneg: ¬ ((n:Int) < 0):=by omega
 clear hi hz0 hz1 hz2
 generalize w.drew.alloc (.cells (Builtin.zeroCells (Value.agg #[.int .i64 0,.int .i64 0,.float .f64 0,.string ⟨#[]⟩,.slice none 0 0,.slice none 0 0]).cells n ++ Builtin.zeroCells (Value.agg #[.int .i64 0,.int .i64 0,.float .f64 0,.string ⟨#[]⟩,.slice none 0 0,.slice none 0 0]).cells (grownCap w n 0 26 - n)) 26)= W at*
 generalize grownCap w n 0 26= cap at*
 go_enter Tryz.func164,Tryz.ntmps164
 go_wp2_with (at_builtin;(refine Lib.wpList_append_run _ rfl _ _ _ _ rfl _ _ rfl rfl _ _ (HRUN.out _) ?_))
 go_ret
 exact⟨_,rfl,HOWN.out,HBEL.out⟩
theorem z5f (hb:Nat) (A B:Option Addr) (la lb ca cb:Nat) (xa xb:List Value) (w:World) (hla:xa.length= la*6) (hlb:xb.length= lb*6)
  (hca:0 < la->∃ b ob,A= some ⟨b,ob,none⟩/\b < w.heap.size/\∀ j u,xa[j]?= some u->w.cell? ⟨b,ob+j,none⟩= some u) (hcb:0 < lb->∃ b ob,B= some ⟨b,ob,none⟩/\b < w.heap.size/\∀ j u,xb[j]?= some u->w.cell? ⟨b,ob+j,none⟩= some u)
  (h1a:∀ u∈xa,u.oneCell'= true) (h1b:∀ u∈xb,u.oneCell'= true) (e0:w.cell? ⟨hb,0,none⟩= some (.slice A la ca)) (e1:w.cell? ⟨hb,1,none⟩= some (.slice B lb cb)) (hlt:hb < w.heap.size) (hn:la+lb<=1000):
  Calls Tryz.prog 124 #[.slice (some ⟨hb,0,none⟩) 2 2] w fun e w'=>∃ v,e= .returned v/\w'.ownsRow w.heap.size 26 6 v (la+lb) (xa ++ xb)/\Below w.heap.size w w':=by
 have HLA:=I hla
 have HLB:=I hlb
 have HCA:=I hca
 have HCB:=I hcb
 have H1A:=I h1a
 have H1B:=I h1b
 have HE0:=I e0
 have HE1:=I e1
 have HLT:=I hlt
 have HN:=I hn
 have HG:Hid (Calls Tryz.prog 164 #[.slice none 0 0,.int .i64 ((la:Int)+ (lb:Int))] w fun e w'=>∃ v,e= .returned v/\w'.ownsRow w.heap.size 26 6 v 0 []/\Below w.heap.size w w'):=I (by
  rcases Nat.eq_zero_or_pos (la+lb) with h0|h0
  ·have e:((la:Int)+ (lb:Int))= 0:=by omega
   rw[e]
   exact(grow0 w).mono fun e w' h=>⟨_,h.1,by rw[h.2];exact⟨rfl,.inl ⟨rfl,rfl⟩⟩,by rw[h.2];exact Below.refl _ _⟩
  ·have:=growN (la+lb) h0 hn w
   rwa [Int.natCast_add] at this)
 obtain⟨j0,hi,hz0,hz1,hz2⟩:=z0b z0K
 have HJ0:=I hi
 have HY0:=I hz0
 have HY1:=I hz1
 have HY2:=I hz2
 clear hla hlb hca hcb h1a h1b e0 e1 hlt hi hz0 hz1 hz2
 go_enter Tryz.func124,Tryz.ntmps124
 go_upto_region 3 with (fail)
 go_loopg [3,11] 2 (fun q x y u=>u= w/\((q= 2/\x= .int .i64 0/\y= .int .i64 0)\/(q= 1/\x= .int .i64 la/\y= .int .i64 1)\/(q= 0/\x= .int .i64 ((la:Int)+ (lb:Int))/\y= .int .i64 2)))
 case atStart=>exact⟨rfl,.inl ⟨rfl,rfl,rfl⟩⟩
 case round=>
  obtain⟨rfl,hc⟩:=hrel
  rcases hc with ⟨rfl,rfl,rfl⟩|⟨rfl,rfl,rfl⟩|⟨rfl,rfl,rfl⟩
  ·have d0:=HE0.out
   have hge: ¬ ((la:Int) < 0):=by omega
   have hn':=HN.out
   go_wp2
   go_roundg 1
   case measure=>omega
   case rel=>exact⟨rfl,.inr (.inl ⟨rfl,by go_num,by go_num⟩)⟩
  ·have d1:=HE1.out
   have hge: ¬ ((la:Int)+ (lb:Int) < 0):=by omega
   have hw:wrap64 ((la:Int)+ (lb:Int))=(la:Int)+ (lb:Int):=by have:=HN.out;unfold wrap64;omega
   have hw2:IntKind.i64.wrap ((la:Int)+ (lb:Int))=(la:Int)+ (lb:Int):=by have:=HN.out;rw[IntKind.wrap_i64];omega
   go_wp2
   go_roundg 0
   case measure=>omega
   case rel=>exact⟨rfl,.inr (.inr ⟨rfl,by first|rfl|rw[hw]|rw[hw2],by go_num⟩)⟩
  ·obtain⟨w0,hw0⟩:∃ w0:World,w0= wr:=⟨_,rfl⟩
   subst hw0
   go_upto_region 10 with (go_at_call 164;refine HG.out.mono ?_;rintro e z ⟨v,rfl,hown,hb⟩;have HOW:=I hown;have HBZ:=I hb;clear hown hb)
   go_upto_region 11 with (fail)
   go_loopg [6,27] 2 (fun q x y u=>Below w0.heap.size w0 u/\((q= 2/\y= .int .i64 0/\u.ownsRow w0.heap.size 26 6 x 0 [])\/(q= 1/\y= .int .i64 1/\u.ownsRow w0.heap.size 26 6 x la xa)\/(q= 0/\y= .int .i64 2/\u.ownsRow w0.heap.size 26 6 x (la+lb) (xa ++ xb))))
   case atStart=>exact⟨HBZ.out,.inl ⟨rfl,rfl,HOW.out⟩⟩
   case round=>
    obtain⟨hbu,hc⟩:=hrel
    have HBU:=I hbu
    clear hbu
    rcases hc with ⟨rfl,rfl,ho⟩|⟨rfl,rfl,ho⟩|⟨rfl,rfl,ho⟩
    ·have HOU:=I ho
     have d0:=(HBU.out.cell (p:=⟨hb,0,none⟩) HLT.out).trans HE0.out
     clear ho
     go_wp2_with (at_builtin;(refine z2z rfl _ _ 24 rfl w0.heap.size 26 j0 _ 6 88 Tryz.underlying24 HJ0.out HY0.out HY1.out HY2.out rfl (by decide) _ 0 [] rfl HOU.out A la ca xa rfl HLA.out (fun h0=>by obtain⟨b,ob,e,hbl,hc⟩:=HCA.out h0;exact⟨_,e,fun j u hj=>by rw[Addr.add_mid];exact(HBU.out.cell (p:=⟨b,ob+j,none⟩) hbl).trans (hc j u hj)⟩) H1A.out (by have:=HN.out;unfold maxLen;omega) (by have:=HN.out;omega) HBU.out.size ?_;intro v' u8 hown hg;have HO8:=I hown;have HB8:=I (HBU.out.grown hg HBU.out.size (fun j hj=>zbp HOU.out hj));clear hown hg))
     go_roundg 1
     case measure=>omega
     case rel=>exact⟨HB8.out,.inr (.inl ⟨rfl,by go_num,by have:=HO8.out;rw[Nat.zero_add,List.nil_append] at this;exact this⟩)⟩
    ·have HOU:=I ho
     have d1:=(HBU.out.cell (p:=⟨hb,1,none⟩) HLT.out).trans HE1.out
     clear ho
     go_wp2_with (at_builtin;(refine z2z rfl _ _ 24 rfl w0.heap.size 26 j0 _ 6 88 Tryz.underlying24 HJ0.out HY0.out HY1.out HY2.out rfl (by decide) _ la xa rfl HOU.out B lb cb xb rfl HLB.out (fun h0=>by obtain⟨b,ob,e,hbl,hc⟩:=HCB.out h0;exact⟨_,e,fun j u hj=>by rw[Addr.add_mid];exact(HBU.out.cell (p:=⟨b,ob+j,none⟩) hbl).trans (hc j u hj)⟩) H1B.out (by have:=HN.out;unfold maxLen;omega) (by have:=HN.out;omega) HBU.out.size ?_;intro v' u8 hown hg;have HO8:=I hown;have HB8:=I (HBU.out.grown hg HBU.out.size (fun j hj=>zbp HOU.out hj));clear hown hg))
     go_roundg 0
     case measure=>omega
     case rel=>exact⟨HB8.out,.inr (.inr ⟨rfl,by go_num,HO8.out⟩)⟩
    ·have HOU:=I ho
     clear ho
     go_wp2
     go_ret
     exact⟨_,rfl,HOU.out,HBU.out⟩
def z7S (r:Except Int Bool) (w:World) (e:Ending) (w':World):Prop:=((∃ b,r= .ok b/\e= .returned (.bool b))\/(∃ n,r= .error n/\e= panE n))/\Below w.heap.size w w'
structure TB (w W:World) (ca cb:List Value):Prop where
 wa:Whole 26 W w.heap.size ca
 wb:Whole 26 W (w.heap.size+1) cb
 bel:Below w.heap.size w W
theorem z0j (w:World) (ca cb:List Value):TB w ((w.alloc (.cells ⟨ca⟩ 26)).alloc (.cells ⟨cb⟩ 26)) ca cb:=by
 have h1:=Whole.new w ca 26
 have h2:=ze w (.cells ⟨ca⟩ 26)
 have hs:(w.alloc (.cells ⟨ca⟩ 26)).heap.size= w.heap.size+1:=by simp
 generalize w.alloc (.cells ⟨ca⟩ 26)= W1 at*
 have h3:=Whole.new W1 cb 26
 have h4:=ze W1 (.cells ⟨cb⟩ 26)
 rw[hs] at h3
 exact⟨h1.keep (h4.block _ (by omega)),h3,h2.trans (h4.mono (by omega))⟩
structure BB (w W:World) (ca cb:List Value):Prop where
 wa:Whole 26 W w.heap.size ca
 wb:Whole 26 W (w.heap.size+1) cb
 wr:Whole 26 W (w.heap.size+2) zV6
 bel:Below w.heap.size w W
theorem z0c (w:World) (ca cb:List Value):BB w (((w.alloc (.cells ⟨ca⟩ 26)).alloc (.cells ⟨cb⟩ 26)).alloc (.cells zV6.toArray 26)) ca cb:=by
 have h1:=z0j w ca cb
 have hs:((w.alloc (.cells ⟨ca⟩ 26)).alloc (.cells ⟨cb⟩ 26)).heap.size= w.heap.size+2:=by simp
 generalize (w.alloc (.cells ⟨ca⟩ 26)).alloc (.cells ⟨cb⟩ 26)= W1 at*
 have h3:=Whole.new W1 zV6 26
 have h4:=ze W1 (.cells zV6.toArray 26)
 rw[hs] at h3
 exact⟨h1.wa.keep (h4.block _ (by omega)),h1.wb.keep (h4.block _ (by omega)),h3,h1.bel.trans (h4.mono (by omega))⟩
theorem BB.next {w W W':World} {ca cb:List Value} (h:BB w W ca cb) (hb:Below W.heap.size W W'):BB w W' ca cb:=
 ⟨h.wa.keep (hb.block _ h.wa.lt),h.wb.keep (hb.block _ h.wb.lt),h.wr.keep (hb.block _ h.wr.lt),h.bel.trans (hb.mono h.bel.size)⟩
theorem BB.fin {w W Z:World} {ca cb:List Value} (h:BB w W ca cb) (hx:But W Z (w.heap.size+2) (w.heap.size+2)):Below w.heap.size w Z:=h.bel.trans (hx.below (B:=w.heap.size) h.bel.size (by omega) (by omega))
theorem z5N (na nb:Int) (fa fb:Nat) (sa sb:ByteArray) (nsa nsb:List ByteArray) (ia ib:List VT) (ca cb:List Value) (w:World) (hx:fLess fa fb= true) (hv:ValAt w w.heap.size ca (.mk 3 na fa sa nsa ia)) (hv2:ValAt w w.heap.size cb (.mk 3 nb fb sb nsb ib)):
  Calls Tryz.prog 121 #[.bool true,.agg ⟨ca⟩,.agg ⟨cb⟩] w fun e w'=>e= .returned (.bool (true))/\Below w.heap.size w w':=by
 have HL:=I (z2C fa fb)
 rw[hx] at HL
 have HQ:=I (z26 fa fb)
 clear hx
 generalize fEql fa fb= y at*
 have HV:=I hv
 have HV2:=I hv2
 obtain⟨vna,via,rfl,hkw,hnw,hfw,hsw,hns,hil,hi⟩:=ValAt.inv hv
 obtain⟨hnl,NA1,na2,rfl,hnA⟩:=hns
 obtain⟨hil2,A,c,rfl,hA⟩:=hi
 obtain⟨vnb,vib,rfl,hkw2,hnw2,hfw2,hsw2,hns2,hil3,hi2⟩:=ValAt.inv hv2
 obtain⟨hnl2,NB1,nb2,rfl,hnB⟩:=hns2
 obtain⟨hil4,B,c2,rfl,hB⟩:=hi2
 clear hkw hnw hfw hsw hnl hnA hil hil2 hA hkw2 hnw2 hfw2 hsw2 hnl2 hnB hil3 hil4 hB hv hv2
 go_enter Tryz.func121,Tryz.ntmps121
 go_upto_region 1 with (fail)
 have HST:=I (z0j w [.int .i64 3,.int .i64 na,.float .f64 fa,.string sa,.slice NA1 nsa.length na2,.slice A ia.length c] [.int .i64 3,.int .i64 nb,.float .f64 fb,.string sb,.slice NB1 nsb.length nb2,.slice B ib.length c2])
 generalize (w.alloc (.cells ⟨[.int .i64 3,.int .i64 na,.float .f64 fa,.string sa,.slice NA1 nsa.length na2,.slice A ia.length c]⟩ 26)).alloc (.cells ⟨[.int .i64 3,.int .i64 nb,.float .f64 fb,.string sb,.slice NB1 nsb.length nb2,.slice B ib.length c2]⟩ 26)= W at*
 have d0:W.cell? ⟨w.heap.size,0,none⟩= some (.int .i64 3):=HST.out.wa.cells 0 rfl
 have d2:W.cell? ⟨w.heap.size,2,none⟩= some (.float .f64 fa):=HST.out.wa.cells 2 rfl
 have d5:W.cell? ⟨w.heap.size+1,2,none⟩= some (.float .f64 fb):=HST.out.wb.cells 2 rfl
 go_wp2_with (first|(go_at_call 157;refine(HL.out _).mono ?_;rintro e z ⟨rfl,hzw⟩;rw[hzw];clear hzw z)|(go_at_call 153;refine(HQ.out _).mono ?_;rintro e z ⟨rfl,hzw⟩;rw[hzw];clear hzw z))
 go_ret
 exact⟨rfl,HST.out.bel⟩
theorem z5o (na nb:Int) (fa fb:Nat) (sa sb:ByteArray) (nsa nsb:List ByteArray) (ia ib:List VT) (ca cb:List Value) (w:World) (hx:fLess fa fb= false) (hv:ValAt w w.heap.size ca (.mk 3 na fa sa nsa ia)) (hv2:ValAt w w.heap.size cb (.mk 3 nb fb sb nsb ib)):
  Calls Tryz.prog 121 #[.bool true,.agg ⟨ca⟩,.agg ⟨cb⟩] w fun e w'=>e= .returned (.bool (fEql fa fb))/\Below w.heap.size w w':=by
 have HL:=I (z2C fa fb)
 rw[hx] at HL
 have HQ:=I (z26 fa fb)
 clear hx
 generalize fEql fa fb= y at*
 have HV:=I hv
 have HV2:=I hv2
 obtain⟨vna,via,rfl,hkw,hnw,hfw,hsw,hns,hil,hi⟩:=ValAt.inv hv
 obtain⟨hnl,NA1,na2,rfl,hnA⟩:=hns
 obtain⟨hil2,A,c,rfl,hA⟩:=hi
 obtain⟨vnb,vib,rfl,hkw2,hnw2,hfw2,hsw2,hns2,hil3,hi2⟩:=ValAt.inv hv2
 obtain⟨hnl2,NB1,nb2,rfl,hnB⟩:=hns2
 obtain⟨hil4,B,c2,rfl,hB⟩:=hi2
 clear hkw hnw hfw hsw hnl hnA hil hil2 hA hkw2 hnw2 hfw2 hsw2 hnl2 hnB hil3 hil4 hB hv hv2
 go_enter Tryz.func121,Tryz.ntmps121
 go_upto_region 1 with (fail)
 have HST:=I (z0j w [.int .i64 3,.int .i64 na,.float .f64 fa,.string sa,.slice NA1 nsa.length na2,.slice A ia.length c] [.int .i64 3,.int .i64 nb,.float .f64 fb,.string sb,.slice NB1 nsb.length nb2,.slice B ib.length c2])
 generalize (w.alloc (.cells ⟨[.int .i64 3,.int .i64 na,.float .f64 fa,.string sa,.slice NA1 nsa.length na2,.slice A ia.length c]⟩ 26)).alloc (.cells ⟨[.int .i64 3,.int .i64 nb,.float .f64 fb,.string sb,.slice NB1 nsb.length nb2,.slice B ib.length c2]⟩ 26)= W at*
 have d0:W.cell? ⟨w.heap.size,0,none⟩= some (.int .i64 3):=HST.out.wa.cells 0 rfl
 have d2:W.cell? ⟨w.heap.size,2,none⟩= some (.float .f64 fa):=HST.out.wa.cells 2 rfl
 have d5:W.cell? ⟨w.heap.size+1,2,none⟩= some (.float .f64 fb):=HST.out.wb.cells 2 rfl
 go_wp2_with (first|(go_at_call 157;refine(HL.out _).mono ?_;rintro e z ⟨rfl,hzw⟩;rw[hzw];clear hzw z)|(go_at_call 153;refine(HQ.out _).mono ?_;rintro e z ⟨rfl,hzw⟩;rw[hzw];clear hzw z))
 go_ret
 exact⟨rfl,HST.out.bel⟩
theorem z9z (na nb:Int) (fa fb:Nat) (sa sb:ByteArray) (nsa nsb:List ByteArray) (ia ib:List VT) (ca cb:List Value) (w:World) (hv:ValAt w w.heap.size ca (.mk 3 na fa sa nsa ia)) (hv2:ValAt w w.heap.size cb (.mk 3 nb fb sb nsb ib)):
  Calls Tryz.prog 121 #[.bool true,.agg ⟨ca⟩,.agg ⟨cb⟩] w fun e w'=>e= .returned (.bool (fLess fa fb ||(true && fEql fa fb)))/\Below w.heap.size w w':=by
 cases hx:fLess fa fb with
 |true=>exact z5N na nb fa fb sa sb nsa nsb ia ib ca cb w hx hv hv2
 |false=>exact z5o na nb fa fb sa sb nsa nsb ia ib ca cb w hx hv hv2
theorem z5n (na nb:Int) (fa fb:Nat) (sa sb:ByteArray) (nsa nsb:List ByteArray) (ia ib:List VT) (ca cb:List Value) (w:World) (hx:fLess fa fb= true) (hv:ValAt w w.heap.size ca (.mk 3 na fa sa nsa ia)) (hv2:ValAt w w.heap.size cb (.mk 3 nb fb sb nsb ib)):
  Calls Tryz.prog 121 #[.bool false,.agg ⟨ca⟩,.agg ⟨cb⟩] w fun e w'=>e= .returned (.bool (true))/\Below w.heap.size w w':=by
 have HL:=I (z2C fa fb)
 rw[hx] at HL
 have HQ:=I (z26 fa fb)
 clear hx
 generalize fEql fa fb= y at*
 have HV:=I hv
 have HV2:=I hv2
 obtain⟨vna,via,rfl,hkw,hnw,hfw,hsw,hns,hil,hi⟩:=ValAt.inv hv
 obtain⟨hnl,NA1,na2,rfl,hnA⟩:=hns
 obtain⟨hil2,A,c,rfl,hA⟩:=hi
 obtain⟨vnb,vib,rfl,hkw2,hnw2,hfw2,hsw2,hns2,hil3,hi2⟩:=ValAt.inv hv2
 obtain⟨hnl2,NB1,nb2,rfl,hnB⟩:=hns2
 obtain⟨hil4,B,c2,rfl,hB⟩:=hi2
 clear hkw hnw hfw hsw hnl hnA hil hil2 hA hkw2 hnw2 hfw2 hsw2 hnl2 hnB hil3 hil4 hB hv hv2
 go_enter Tryz.func121,Tryz.ntmps121
 go_upto_region 1 with (fail)
 have HST:=I (z0j w [.int .i64 3,.int .i64 na,.float .f64 fa,.string sa,.slice NA1 nsa.length na2,.slice A ia.length c] [.int .i64 3,.int .i64 nb,.float .f64 fb,.string sb,.slice NB1 nsb.length nb2,.slice B ib.length c2])
 generalize (w.alloc (.cells ⟨[.int .i64 3,.int .i64 na,.float .f64 fa,.string sa,.slice NA1 nsa.length na2,.slice A ia.length c]⟩ 26)).alloc (.cells ⟨[.int .i64 3,.int .i64 nb,.float .f64 fb,.string sb,.slice NB1 nsb.length nb2,.slice B ib.length c2]⟩ 26)= W at*
 have d0:W.cell? ⟨w.heap.size,0,none⟩= some (.int .i64 3):=HST.out.wa.cells 0 rfl
 have d2:W.cell? ⟨w.heap.size,2,none⟩= some (.float .f64 fa):=HST.out.wa.cells 2 rfl
 have d5:W.cell? ⟨w.heap.size+1,2,none⟩= some (.float .f64 fb):=HST.out.wb.cells 2 rfl
 go_wp2_with (first|(go_at_call 157;refine(HL.out _).mono ?_;rintro e z ⟨rfl,hzw⟩;rw[hzw];clear hzw z)|(go_at_call 153;refine(HQ.out _).mono ?_;rintro e z ⟨rfl,hzw⟩;rw[hzw];clear hzw z))
 go_ret
 exact⟨rfl,HST.out.bel⟩
theorem z4B (na nb:Int) (fa fb:Nat) (sa sb:ByteArray) (nsa nsb:List ByteArray) (ia ib:List VT) (ca cb:List Value) (w:World) (hx:fLess fa fb= false) (hv:ValAt w w.heap.size ca (.mk 3 na fa sa nsa ia)) (hv2:ValAt w w.heap.size cb (.mk 3 nb fb sb nsb ib)):
  Calls Tryz.prog 121 #[.bool false,.agg ⟨ca⟩,.agg ⟨cb⟩] w fun e w'=>e= .returned (.bool (false))/\Below w.heap.size w w':=by
 have HL:=I (z2C fa fb)
 rw[hx] at HL
 have HQ:=I (z26 fa fb)
 clear hx
 generalize fEql fa fb= y at*
 have HV:=I hv
 have HV2:=I hv2
 obtain⟨vna,via,rfl,hkw,hnw,hfw,hsw,hns,hil,hi⟩:=ValAt.inv hv
 obtain⟨hnl,NA1,na2,rfl,hnA⟩:=hns
 obtain⟨hil2,A,c,rfl,hA⟩:=hi
 obtain⟨vnb,vib,rfl,hkw2,hnw2,hfw2,hsw2,hns2,hil3,hi2⟩:=ValAt.inv hv2
 obtain⟨hnl2,NB1,nb2,rfl,hnB⟩:=hns2
 obtain⟨hil4,B,c2,rfl,hB⟩:=hi2
 clear hkw hnw hfw hsw hnl hnA hil hil2 hA hkw2 hnw2 hfw2 hsw2 hnl2 hnB hil3 hil4 hB hv hv2
 go_enter Tryz.func121,Tryz.ntmps121
 go_upto_region 1 with (fail)
 have HST:=I (z0j w [.int .i64 3,.int .i64 na,.float .f64 fa,.string sa,.slice NA1 nsa.length na2,.slice A ia.length c] [.int .i64 3,.int .i64 nb,.float .f64 fb,.string sb,.slice NB1 nsb.length nb2,.slice B ib.length c2])
 generalize (w.alloc (.cells ⟨[.int .i64 3,.int .i64 na,.float .f64 fa,.string sa,.slice NA1 nsa.length na2,.slice A ia.length c]⟩ 26)).alloc (.cells ⟨[.int .i64 3,.int .i64 nb,.float .f64 fb,.string sb,.slice NB1 nsb.length nb2,.slice B ib.length c2]⟩ 26)= W at*
 have d0:W.cell? ⟨w.heap.size,0,none⟩= some (.int .i64 3):=HST.out.wa.cells 0 rfl
 have d2:W.cell? ⟨w.heap.size,2,none⟩= some (.float .f64 fa):=HST.out.wa.cells 2 rfl
 have d5:W.cell? ⟨w.heap.size+1,2,none⟩= some (.float .f64 fb):=HST.out.wb.cells 2 rfl
 go_wp2_with (first|(go_at_call 157;refine(HL.out _).mono ?_;rintro e z ⟨rfl,hzw⟩;rw[hzw];clear hzw z)|(go_at_call 153;refine(HQ.out _).mono ?_;rintro e z ⟨rfl,hzw⟩;rw[hzw];clear hzw z))
 go_ret
 exact⟨rfl,HST.out.bel⟩
theorem z8E (na nb:Int) (fa fb:Nat) (sa sb:ByteArray) (nsa nsb:List ByteArray) (ia ib:List VT) (ca cb:List Value) (w:World) (hv:ValAt w w.heap.size ca (.mk 3 na fa sa nsa ia)) (hv2:ValAt w w.heap.size cb (.mk 3 nb fb sb nsb ib)):
  Calls Tryz.prog 121 #[.bool false,.agg ⟨ca⟩,.agg ⟨cb⟩] w fun e w'=>e= .returned (.bool (fLess fa fb ||(false && fEql fa fb)))/\Below w.heap.size w w':=by
 cases hx:fLess fa fb with
 |true=>exact z5n na nb fa fb sa sb nsa nsb ia ib ca cb w hx hv hv2
 |false=>exact z4B na nb fa fb sa sb nsa nsb ia ib ca cb w hx hv hv2
theorem z5J (na nb:Int) (fa fb:Nat) (sa sb:ByteArray) (nsa nsb:List ByteArray) (ia ib:List VT) (ca cb:List Value) (w:World) (r:Int) (hb:decide (r < 0)= true) (hv:ValAt w w.heap.size ca (.mk 2 na fa sa nsa ia)) (hv2:ValAt w w.heap.size cb (.mk 2 nb fb sb nsb ib)) (hord:ordV (.mk 2 na fa sa nsa ia) (.mk 2 nb fb sb nsb ib)= r):
  Calls Tryz.prog 121 #[.bool true,.agg ⟨ca⟩,.agg ⟨cb⟩] w fun e w'=>e= .returned (.bool true)/\Below w.heap.size w w':=by
 have HORD:=I hord
 clear hord
 have HV:=I hv
 have HV2:=I hv2
 obtain⟨vna,via,rfl,hkw,hnw,hfw,hsw,hns,hil,hi⟩:=ValAt.inv hv
 obtain⟨hnl,NA1,na2,rfl,hnA⟩:=hns
 obtain⟨hil2,A,c,rfl,hA⟩:=hi
 obtain⟨vnb,vib,rfl,hkw2,hnw2,hfw2,hsw2,hns2,hil3,hi2⟩:=ValAt.inv hv2
 obtain⟨hnl2,NB1,nb2,rfl,hnB⟩:=hns2
 obtain⟨hil4,B,c2,rfl,hB⟩:=hi2
 clear hkw hnw hfw hsw hnl hnA hil hil2 hA hkw2 hnw2 hfw2 hsw2 hnl2 hnB hil3 hil4 hB hv hv2
 go_enter Tryz.func121,Tryz.ntmps121
 go_upto_region 1 with (fail)
 have HST:=I (z0j w [.int .i64 2,.int .i64 na,.float .f64 fa,.string sa,.slice NA1 nsa.length na2,.slice A ia.length c] [.int .i64 2,.int .i64 nb,.float .f64 fb,.string sb,.slice NB1 nsb.length nb2,.slice B ib.length c2])
 generalize (w.alloc (.cells ⟨[.int .i64 2,.int .i64 na,.float .f64 fa,.string sa,.slice NA1 nsa.length na2,.slice A ia.length c]⟩ 26)).alloc (.cells ⟨[.int .i64 2,.int .i64 nb,.float .f64 fb,.string sb,.slice NB1 nsb.length nb2,.slice B ib.length c2]⟩ 26)= W at*
 have d0:W.cell? ⟨w.heap.size,0,none⟩= some (.int .i64 2):=HST.out.wa.cells 0 rfl
 have HVO:=I (z1T _ _ _ _ W ((HV.out.under HST.out.bel).more HST.out.bel.size) ((HV2.out.under HST.out.bel).more HST.out.bel.size))
 rw[HORD.out] at HVO
 go_upto_region 7 with (first|((with_reducible refine zc 26 _ rfl ?hwa w.heap.size 0 [.int .i64 2,.int .i64 na,.float .f64 fa,.string sa,.slice NA1 nsa.length na2,.slice A ia.length c] _ rfl HST.out.wa.range Tryz.underlying26 rfl ?hia ?_);(case hwa=>(exact wantA rfl));(case hia=>kernel_rfl))|((with_reducible refine zc 26 _ rfl ?hwb (w.heap.size+1) 0 [.int .i64 2,.int .i64 nb,.float .f64 fb,.string sb,.slice NB1 nsb.length nb2,.slice B ib.length c2] _ rfl HST.out.wb.range Tryz.underlying26 rfl ?hib ?_);(case hwb=>(exact wantA rfl));(case hib=>kernel_rfl))|(go_at_call 158;refine HVO.out.mono ?_;rintro e z ⟨rfl,hb⟩;have HBZ:=I hb;clear hb))
 go_wp2
 go_ret
 exact⟨rfl,HST.out.bel.trans (HBZ.out.mono HST.out.bel.size)⟩
theorem z4Y (na nb:Int) (fa fb:Nat) (sa sb:ByteArray) (nsa nsb:List ByteArray) (ia ib:List VT) (ca cb:List Value) (w:World) (r:Int) (hb:decide (r < 0)= false) (hv:ValAt w w.heap.size ca (.mk 2 na fa sa nsa ia)) (hv2:ValAt w w.heap.size cb (.mk 2 nb fb sb nsb ib)) (hord:ordV (.mk 2 na fa sa nsa ia) (.mk 2 nb fb sb nsb ib)= r):
  Calls Tryz.prog 121 #[.bool true,.agg ⟨ca⟩,.agg ⟨cb⟩] w fun e w'=>e= .returned (.bool (r ==0))/\Below w.heap.size w w':=by
 have HORD:=I hord
 clear hord
 have HV:=I hv
 have HV2:=I hv2
 obtain⟨vna,via,rfl,hkw,hnw,hfw,hsw,hns,hil,hi⟩:=ValAt.inv hv
 obtain⟨hnl,NA1,na2,rfl,hnA⟩:=hns
 obtain⟨hil2,A,c,rfl,hA⟩:=hi
 obtain⟨vnb,vib,rfl,hkw2,hnw2,hfw2,hsw2,hns2,hil3,hi2⟩:=ValAt.inv hv2
 obtain⟨hnl2,NB1,nb2,rfl,hnB⟩:=hns2
 obtain⟨hil4,B,c2,rfl,hB⟩:=hi2
 clear hkw hnw hfw hsw hnl hnA hil hil2 hA hkw2 hnw2 hfw2 hsw2 hnl2 hnB hil3 hil4 hB hv hv2
 go_enter Tryz.func121,Tryz.ntmps121
 go_upto_region 1 with (fail)
 have HST:=I (z0j w [.int .i64 2,.int .i64 na,.float .f64 fa,.string sa,.slice NA1 nsa.length na2,.slice A ia.length c] [.int .i64 2,.int .i64 nb,.float .f64 fb,.string sb,.slice NB1 nsb.length nb2,.slice B ib.length c2])
 generalize (w.alloc (.cells ⟨[.int .i64 2,.int .i64 na,.float .f64 fa,.string sa,.slice NA1 nsa.length na2,.slice A ia.length c]⟩ 26)).alloc (.cells ⟨[.int .i64 2,.int .i64 nb,.float .f64 fb,.string sb,.slice NB1 nsb.length nb2,.slice B ib.length c2]⟩ 26)= W at*
 have d0:W.cell? ⟨w.heap.size,0,none⟩= some (.int .i64 2):=HST.out.wa.cells 0 rfl
 have HVO:=I (z1T _ _ _ _ W ((HV.out.under HST.out.bel).more HST.out.bel.size) ((HV2.out.under HST.out.bel).more HST.out.bel.size))
 rw[HORD.out] at HVO
 go_upto_region 7 with (first|((with_reducible refine zc 26 _ rfl ?hwa w.heap.size 0 [.int .i64 2,.int .i64 na,.float .f64 fa,.string sa,.slice NA1 nsa.length na2,.slice A ia.length c] _ rfl HST.out.wa.range Tryz.underlying26 rfl ?hia ?_);(case hwa=>(exact wantA rfl));(case hia=>kernel_rfl))|((with_reducible refine zc 26 _ rfl ?hwb (w.heap.size+1) 0 [.int .i64 2,.int .i64 nb,.float .f64 fb,.string sb,.slice NB1 nsb.length nb2,.slice B ib.length c2] _ rfl HST.out.wb.range Tryz.underlying26 rfl ?hib ?_);(case hwb=>(exact wantA rfl));(case hib=>kernel_rfl))|(go_at_call 158;refine HVO.out.mono ?_;rintro e z ⟨rfl,hb⟩;have HBZ:=I hb;clear hb))
 go_wp2
 go_ret
 exact⟨rfl,HST.out.bel.trans (HBZ.out.mono HST.out.bel.size)⟩
theorem z8i (na nb:Int) (fa fb:Nat) (sa sb:ByteArray) (nsa nsb:List ByteArray) (ia ib:List VT) (ca cb:List Value) (w:World) (r:Int) (hv:ValAt w w.heap.size ca (.mk 2 na fa sa nsa ia)) (hv2:ValAt w w.heap.size cb (.mk 2 nb fb sb nsb ib)) (hord:ordV (.mk 2 na fa sa nsa ia) (.mk 2 nb fb sb nsb ib)= r):
  Calls Tryz.prog 121 #[.bool true,.agg ⟨ca⟩,.agg ⟨cb⟩] w fun e w'=>e= .returned (.bool (decide (r < 0) ||(true && (r ==0))))/\Below w.heap.size w w':=by
 cases hb:decide (r < 0) with
 |true=>exact z5J na nb fa fb sa sb nsa nsb ia ib ca cb w r hb hv hv2 hord
 |false=>exact z4Y na nb fa fb sa sb nsa nsb ia ib ca cb w r hb hv hv2 hord
theorem z4H (na nb:Int) (fa fb:Nat) (sa sb:ByteArray) (nsa nsb:List ByteArray) (ia ib:List VT) (ca cb:List Value) (w:World) (r:Int) (hb:decide (r < 0)= true) (hv:ValAt w w.heap.size ca (.mk 2 na fa sa nsa ia)) (hv2:ValAt w w.heap.size cb (.mk 2 nb fb sb nsb ib)) (hord:ordV (.mk 2 na fa sa nsa ia) (.mk 2 nb fb sb nsb ib)= r):
  Calls Tryz.prog 121 #[.bool false,.agg ⟨ca⟩,.agg ⟨cb⟩] w fun e w'=>e= .returned (.bool true)/\Below w.heap.size w w':=by
 have HORD:=I hord
 clear hord
 have HV:=I hv
 have HV2:=I hv2
 obtain⟨vna,via,rfl,hkw,hnw,hfw,hsw,hns,hil,hi⟩:=ValAt.inv hv
 obtain⟨hnl,NA1,na2,rfl,hnA⟩:=hns
 obtain⟨hil2,A,c,rfl,hA⟩:=hi
 obtain⟨vnb,vib,rfl,hkw2,hnw2,hfw2,hsw2,hns2,hil3,hi2⟩:=ValAt.inv hv2
 obtain⟨hnl2,NB1,nb2,rfl,hnB⟩:=hns2
 obtain⟨hil4,B,c2,rfl,hB⟩:=hi2
 clear hkw hnw hfw hsw hnl hnA hil hil2 hA hkw2 hnw2 hfw2 hsw2 hnl2 hnB hil3 hil4 hB hv hv2
 go_enter Tryz.func121,Tryz.ntmps121
 go_upto_region 1 with (fail)
 have HST:=I (z0j w [.int .i64 2,.int .i64 na,.float .f64 fa,.string sa,.slice NA1 nsa.length na2,.slice A ia.length c] [.int .i64 2,.int .i64 nb,.float .f64 fb,.string sb,.slice NB1 nsb.length nb2,.slice B ib.length c2])
 generalize (w.alloc (.cells ⟨[.int .i64 2,.int .i64 na,.float .f64 fa,.string sa,.slice NA1 nsa.length na2,.slice A ia.length c]⟩ 26)).alloc (.cells ⟨[.int .i64 2,.int .i64 nb,.float .f64 fb,.string sb,.slice NB1 nsb.length nb2,.slice B ib.length c2]⟩ 26)= W at*
 have d0:W.cell? ⟨w.heap.size,0,none⟩= some (.int .i64 2):=HST.out.wa.cells 0 rfl
 have HVO:=I (z1T _ _ _ _ W ((HV.out.under HST.out.bel).more HST.out.bel.size) ((HV2.out.under HST.out.bel).more HST.out.bel.size))
 rw[HORD.out] at HVO
 go_upto_region 7 with (first|((with_reducible refine zc 26 _ rfl ?hwa w.heap.size 0 [.int .i64 2,.int .i64 na,.float .f64 fa,.string sa,.slice NA1 nsa.length na2,.slice A ia.length c] _ rfl HST.out.wa.range Tryz.underlying26 rfl ?hia ?_);(case hwa=>(exact wantA rfl));(case hia=>kernel_rfl))|((with_reducible refine zc 26 _ rfl ?hwb (w.heap.size+1) 0 [.int .i64 2,.int .i64 nb,.float .f64 fb,.string sb,.slice NB1 nsb.length nb2,.slice B ib.length c2] _ rfl HST.out.wb.range Tryz.underlying26 rfl ?hib ?_);(case hwb=>(exact wantA rfl));(case hib=>kernel_rfl))|(go_at_call 158;refine HVO.out.mono ?_;rintro e z ⟨rfl,hb⟩;have HBZ:=I hb;clear hb))
 go_wp2
 go_ret
 exact⟨rfl,HST.out.bel.trans (HBZ.out.mono HST.out.bel.size)⟩
theorem z4l (na nb:Int) (fa fb:Nat) (sa sb:ByteArray) (nsa nsb:List ByteArray) (ia ib:List VT) (ca cb:List Value) (w:World) (r:Int) (hb:decide (r < 0)= false) (hv:ValAt w w.heap.size ca (.mk 2 na fa sa nsa ia)) (hv2:ValAt w w.heap.size cb (.mk 2 nb fb sb nsb ib)) (hord:ordV (.mk 2 na fa sa nsa ia) (.mk 2 nb fb sb nsb ib)= r):
  Calls Tryz.prog 121 #[.bool false,.agg ⟨ca⟩,.agg ⟨cb⟩] w fun e w'=>e= .returned (.bool false)/\Below w.heap.size w w':=by
 have HORD:=I hord
 clear hord
 have HV:=I hv
 have HV2:=I hv2
 obtain⟨vna,via,rfl,hkw,hnw,hfw,hsw,hns,hil,hi⟩:=ValAt.inv hv
 obtain⟨hnl,NA1,na2,rfl,hnA⟩:=hns
 obtain⟨hil2,A,c,rfl,hA⟩:=hi
 obtain⟨vnb,vib,rfl,hkw2,hnw2,hfw2,hsw2,hns2,hil3,hi2⟩:=ValAt.inv hv2
 obtain⟨hnl2,NB1,nb2,rfl,hnB⟩:=hns2
 obtain⟨hil4,B,c2,rfl,hB⟩:=hi2
 clear hkw hnw hfw hsw hnl hnA hil hil2 hA hkw2 hnw2 hfw2 hsw2 hnl2 hnB hil3 hil4 hB hv hv2
 go_enter Tryz.func121,Tryz.ntmps121
 go_upto_region 1 with (fail)
 have HST:=I (z0j w [.int .i64 2,.int .i64 na,.float .f64 fa,.string sa,.slice NA1 nsa.length na2,.slice A ia.length c] [.int .i64 2,.int .i64 nb,.float .f64 fb,.string sb,.slice NB1 nsb.length nb2,.slice B ib.length c2])
 generalize (w.alloc (.cells ⟨[.int .i64 2,.int .i64 na,.float .f64 fa,.string sa,.slice NA1 nsa.length na2,.slice A ia.length c]⟩ 26)).alloc (.cells ⟨[.int .i64 2,.int .i64 nb,.float .f64 fb,.string sb,.slice NB1 nsb.length nb2,.slice B ib.length c2]⟩ 26)= W at*
 have d0:W.cell? ⟨w.heap.size,0,none⟩= some (.int .i64 2):=HST.out.wa.cells 0 rfl
 have HVO:=I (z1T _ _ _ _ W ((HV.out.under HST.out.bel).more HST.out.bel.size) ((HV2.out.under HST.out.bel).more HST.out.bel.size))
 rw[HORD.out] at HVO
 go_upto_region 7 with (first|((with_reducible refine zc 26 _ rfl ?hwa w.heap.size 0 [.int .i64 2,.int .i64 na,.float .f64 fa,.string sa,.slice NA1 nsa.length na2,.slice A ia.length c] _ rfl HST.out.wa.range Tryz.underlying26 rfl ?hia ?_);(case hwa=>(exact wantA rfl));(case hia=>kernel_rfl))|((with_reducible refine zc 26 _ rfl ?hwb (w.heap.size+1) 0 [.int .i64 2,.int .i64 nb,.float .f64 fb,.string sb,.slice NB1 nsb.length nb2,.slice B ib.length c2] _ rfl HST.out.wb.range Tryz.underlying26 rfl ?hib ?_);(case hwb=>(exact wantA rfl));(case hib=>kernel_rfl))|(go_at_call 158;refine HVO.out.mono ?_;rintro e z ⟨rfl,hb⟩;have HBZ:=I hb;clear hb))
 go_wp2
 go_ret
 exact⟨rfl,HST.out.bel.trans (HBZ.out.mono HST.out.bel.size)⟩
theorem z71 (na nb:Int) (fa fb:Nat) (sa sb:ByteArray) (nsa nsb:List ByteArray) (ia ib:List VT) (ca cb:List Value) (w:World) (r:Int) (hv:ValAt w w.heap.size ca (.mk 2 na fa sa nsa ia)) (hv2:ValAt w w.heap.size cb (.mk 2 nb fb sb nsb ib)) (hord:ordV (.mk 2 na fa sa nsa ia) (.mk 2 nb fb sb nsb ib)= r):
  Calls Tryz.prog 121 #[.bool false,.agg ⟨ca⟩,.agg ⟨cb⟩] w fun e w'=>e= .returned (.bool (decide (r < 0) ||(false && (r ==0))))/\Below w.heap.size w w':=by
 cases hb:decide (r < 0) with
 |true=>exact z4H na nb fa fb sa sb nsa nsb ia ib ca cb w r hb hv hv2 hord
 |false=>exact z4l na nb fa fb sa sb nsa nsb ia ib ca cb w r hb hv hv2 hord
theorem z5G (na nb:Int) (fa fb:Nat) (sa sb:ByteArray) (nsa nsb:List ByteArray) (ia ib:List VT) (ca cb:List Value) (w:World) (r:Int) (hb:decide (r < 0)= true) (hv:ValAt w w.heap.size ca (.mk 4 na fa sa nsa ia)) (hv2:ValAt w w.heap.size cb (.mk 4 nb fb sb nsb ib)) (hord:ordV (.mk 4 na fa sa nsa ia) (.mk 4 nb fb sb nsb ib)= r):
  Calls Tryz.prog 121 #[.bool true,.agg ⟨ca⟩,.agg ⟨cb⟩] w fun e w'=>e= .returned (.bool true)/\Below w.heap.size w w':=by
 have HORD:=I hord
 clear hord
 have HV:=I hv
 have HV2:=I hv2
 obtain⟨vna,via,rfl,hkw,hnw,hfw,hsw,hns,hil,hi⟩:=ValAt.inv hv
 obtain⟨hnl,NA1,na2,rfl,hnA⟩:=hns
 obtain⟨hil2,A,c,rfl,hA⟩:=hi
 obtain⟨vnb,vib,rfl,hkw2,hnw2,hfw2,hsw2,hns2,hil3,hi2⟩:=ValAt.inv hv2
 obtain⟨hnl2,NB1,nb2,rfl,hnB⟩:=hns2
 obtain⟨hil4,B,c2,rfl,hB⟩:=hi2
 clear hkw hnw hfw hsw hnl hnA hil hil2 hA hkw2 hnw2 hfw2 hsw2 hnl2 hnB hil3 hil4 hB hv hv2
 go_enter Tryz.func121,Tryz.ntmps121
 go_upto_region 1 with (fail)
 have HST:=I (z0j w [.int .i64 4,.int .i64 na,.float .f64 fa,.string sa,.slice NA1 nsa.length na2,.slice A ia.length c] [.int .i64 4,.int .i64 nb,.float .f64 fb,.string sb,.slice NB1 nsb.length nb2,.slice B ib.length c2])
 generalize (w.alloc (.cells ⟨[.int .i64 4,.int .i64 na,.float .f64 fa,.string sa,.slice NA1 nsa.length na2,.slice A ia.length c]⟩ 26)).alloc (.cells ⟨[.int .i64 4,.int .i64 nb,.float .f64 fb,.string sb,.slice NB1 nsb.length nb2,.slice B ib.length c2]⟩ 26)= W at*
 have d0:W.cell? ⟨w.heap.size,0,none⟩= some (.int .i64 4):=HST.out.wa.cells 0 rfl
 have HVO:=I (z1T _ _ _ _ W ((HV.out.under HST.out.bel).more HST.out.bel.size) ((HV2.out.under HST.out.bel).more HST.out.bel.size))
 rw[HORD.out] at HVO
 go_upto_region 7 with (first|((with_reducible refine zc 26 _ rfl ?hwa w.heap.size 0 [.int .i64 4,.int .i64 na,.float .f64 fa,.string sa,.slice NA1 nsa.length na2,.slice A ia.length c] _ rfl HST.out.wa.range Tryz.underlying26 rfl ?hia ?_);(case hwa=>(exact wantA rfl));(case hia=>kernel_rfl))|((with_reducible refine zc 26 _ rfl ?hwb (w.heap.size+1) 0 [.int .i64 4,.int .i64 nb,.float .f64 fb,.string sb,.slice NB1 nsb.length nb2,.slice B ib.length c2] _ rfl HST.out.wb.range Tryz.underlying26 rfl ?hib ?_);(case hwb=>(exact wantA rfl));(case hib=>kernel_rfl))|(go_at_call 158;refine HVO.out.mono ?_;rintro e z ⟨rfl,hb⟩;have HBZ:=I hb;clear hb))
 go_wp2
 go_ret
 exact⟨rfl,HST.out.bel.trans (HBZ.out.mono HST.out.bel.size)⟩
theorem z4X (na nb:Int) (fa fb:Nat) (sa sb:ByteArray) (nsa nsb:List ByteArray) (ia ib:List VT) (ca cb:List Value) (w:World) (r:Int) (hb:decide (r < 0)= false) (hv:ValAt w w.heap.size ca (.mk 4 na fa sa nsa ia)) (hv2:ValAt w w.heap.size cb (.mk 4 nb fb sb nsb ib)) (hord:ordV (.mk 4 na fa sa nsa ia) (.mk 4 nb fb sb nsb ib)= r):
  Calls Tryz.prog 121 #[.bool true,.agg ⟨ca⟩,.agg ⟨cb⟩] w fun e w'=>e= .returned (.bool (r ==0))/\Below w.heap.size w w':=by
 have HORD:=I hord
 clear hord
 have HV:=I hv
 have HV2:=I hv2
 obtain⟨vna,via,rfl,hkw,hnw,hfw,hsw,hns,hil,hi⟩:=ValAt.inv hv
 obtain⟨hnl,NA1,na2,rfl,hnA⟩:=hns
 obtain⟨hil2,A,c,rfl,hA⟩:=hi
 obtain⟨vnb,vib,rfl,hkw2,hnw2,hfw2,hsw2,hns2,hil3,hi2⟩:=ValAt.inv hv2
 obtain⟨hnl2,NB1,nb2,rfl,hnB⟩:=hns2
 obtain⟨hil4,B,c2,rfl,hB⟩:=hi2
 clear hkw hnw hfw hsw hnl hnA hil hil2 hA hkw2 hnw2 hfw2 hsw2 hnl2 hnB hil3 hil4 hB hv hv2
 go_enter Tryz.func121,Tryz.ntmps121
 go_upto_region 1 with (fail)
 have HST:=I (z0j w [.int .i64 4,.int .i64 na,.float .f64 fa,.string sa,.slice NA1 nsa.length na2,.slice A ia.length c] [.int .i64 4,.int .i64 nb,.float .f64 fb,.string sb,.slice NB1 nsb.length nb2,.slice B ib.length c2])
 generalize (w.alloc (.cells ⟨[.int .i64 4,.int .i64 na,.float .f64 fa,.string sa,.slice NA1 nsa.length na2,.slice A ia.length c]⟩ 26)).alloc (.cells ⟨[.int .i64 4,.int .i64 nb,.float .f64 fb,.string sb,.slice NB1 nsb.length nb2,.slice B ib.length c2]⟩ 26)= W at*
 have d0:W.cell? ⟨w.heap.size,0,none⟩= some (.int .i64 4):=HST.out.wa.cells 0 rfl
 have HVO:=I (z1T _ _ _ _ W ((HV.out.under HST.out.bel).more HST.out.bel.size) ((HV2.out.under HST.out.bel).more HST.out.bel.size))
 rw[HORD.out] at HVO
 go_upto_region 7 with (first|((with_reducible refine zc 26 _ rfl ?hwa w.heap.size 0 [.int .i64 4,.int .i64 na,.float .f64 fa,.string sa,.slice NA1 nsa.length na2,.slice A ia.length c] _ rfl HST.out.wa.range Tryz.underlying26 rfl ?hia ?_);(case hwa=>(exact wantA rfl));(case hia=>kernel_rfl))|((with_reducible refine zc 26 _ rfl ?hwb (w.heap.size+1) 0 [.int .i64 4,.int .i64 nb,.float .f64 fb,.string sb,.slice NB1 nsb.length nb2,.slice B ib.length c2] _ rfl HST.out.wb.range Tryz.underlying26 rfl ?hib ?_);(case hwb=>(exact wantA rfl));(case hib=>kernel_rfl))|(go_at_call 158;refine HVO.out.mono ?_;rintro e z ⟨rfl,hb⟩;have HBZ:=I hb;clear hb))
 go_wp2
 go_ret
 exact⟨rfl,HST.out.bel.trans (HBZ.out.mono HST.out.bel.size)⟩
theorem z8e (na nb:Int) (fa fb:Nat) (sa sb:ByteArray) (nsa nsb:List ByteArray) (ia ib:List VT) (ca cb:List Value) (w:World) (r:Int) (hv:ValAt w w.heap.size ca (.mk 4 na fa sa nsa ia)) (hv2:ValAt w w.heap.size cb (.mk 4 nb fb sb nsb ib)) (hord:ordV (.mk 4 na fa sa nsa ia) (.mk 4 nb fb sb nsb ib)= r):
  Calls Tryz.prog 121 #[.bool true,.agg ⟨ca⟩,.agg ⟨cb⟩] w fun e w'=>e= .returned (.bool (decide (r < 0) ||(true && (r ==0))))/\Below w.heap.size w w':=by
 cases hb:decide (r < 0) with
 |true=>exact z5G na nb fa fb sa sb nsa nsb ia ib ca cb w r hb hv hv2 hord
 |false=>exact z4X na nb fa fb sa sb nsa nsb ia ib ca cb w r hb hv hv2 hord
theorem z4S (na nb:Int) (fa fb:Nat) (sa sb:ByteArray) (nsa nsb:List ByteArray) (ia ib:List VT) (ca cb:List Value) (w:World) (r:Int) (hb:decide (r < 0)= true) (hv:ValAt w w.heap.size ca (.mk 4 na fa sa nsa ia)) (hv2:ValAt w w.heap.size cb (.mk 4 nb fb sb nsb ib)) (hord:ordV (.mk 4 na fa sa nsa ia) (.mk 4 nb fb sb nsb ib)= r):
  Calls Tryz.prog 121 #[.bool false,.agg ⟨ca⟩,.agg ⟨cb⟩] w fun e w'=>e= .returned (.bool true)/\Below w.heap.size w w':=by
 have HORD:=I hord
 clear hord
 have HV:=I hv
 have HV2:=I hv2
 obtain⟨vna,via,rfl,hkw,hnw,hfw,hsw,hns,hil,hi⟩:=ValAt.inv hv
 obtain⟨hnl,NA1,na2,rfl,hnA⟩:=hns
 obtain⟨hil2,A,c,rfl,hA⟩:=hi
 obtain⟨vnb,vib,rfl,hkw2,hnw2,hfw2,hsw2,hns2,hil3,hi2⟩:=ValAt.inv hv2
 obtain⟨hnl2,NB1,nb2,rfl,hnB⟩:=hns2
 obtain⟨hil4,B,c2,rfl,hB⟩:=hi2
 clear hkw hnw hfw hsw hnl hnA hil hil2 hA hkw2 hnw2 hfw2 hsw2 hnl2 hnB hil3 hil4 hB hv hv2
 go_enter Tryz.func121,Tryz.ntmps121
 go_upto_region 1 with (fail)
 have HST:=I (z0j w [.int .i64 4,.int .i64 na,.float .f64 fa,.string sa,.slice NA1 nsa.length na2,.slice A ia.length c] [.int .i64 4,.int .i64 nb,.float .f64 fb,.string sb,.slice NB1 nsb.length nb2,.slice B ib.length c2])
 generalize (w.alloc (.cells ⟨[.int .i64 4,.int .i64 na,.float .f64 fa,.string sa,.slice NA1 nsa.length na2,.slice A ia.length c]⟩ 26)).alloc (.cells ⟨[.int .i64 4,.int .i64 nb,.float .f64 fb,.string sb,.slice NB1 nsb.length nb2,.slice B ib.length c2]⟩ 26)= W at*
 have d0:W.cell? ⟨w.heap.size,0,none⟩= some (.int .i64 4):=HST.out.wa.cells 0 rfl
 have HVO:=I (z1T _ _ _ _ W ((HV.out.under HST.out.bel).more HST.out.bel.size) ((HV2.out.under HST.out.bel).more HST.out.bel.size))
 rw[HORD.out] at HVO
 go_upto_region 7 with (first|((with_reducible refine zc 26 _ rfl ?hwa w.heap.size 0 [.int .i64 4,.int .i64 na,.float .f64 fa,.string sa,.slice NA1 nsa.length na2,.slice A ia.length c] _ rfl HST.out.wa.range Tryz.underlying26 rfl ?hia ?_);(case hwa=>(exact wantA rfl));(case hia=>kernel_rfl))|((with_reducible refine zc 26 _ rfl ?hwb (w.heap.size+1) 0 [.int .i64 4,.int .i64 nb,.float .f64 fb,.string sb,.slice NB1 nsb.length nb2,.slice B ib.length c2] _ rfl HST.out.wb.range Tryz.underlying26 rfl ?hib ?_);(case hwb=>(exact wantA rfl));(case hib=>kernel_rfl))|(go_at_call 158;refine HVO.out.mono ?_;rintro e z ⟨rfl,hb⟩;have HBZ:=I hb;clear hb))
 go_wp2
 go_ret
 exact⟨rfl,HST.out.bel.trans (HBZ.out.mono HST.out.bel.size)⟩
theorem z4k (na nb:Int) (fa fb:Nat) (sa sb:ByteArray) (nsa nsb:List ByteArray) (ia ib:List VT) (ca cb:List Value) (w:World) (r:Int) (hb:decide (r < 0)= false) (hv:ValAt w w.heap.size ca (.mk 4 na fa sa nsa ia)) (hv2:ValAt w w.heap.size cb (.mk 4 nb fb sb nsb ib)) (hord:ordV (.mk 4 na fa sa nsa ia) (.mk 4 nb fb sb nsb ib)= r):
  Calls Tryz.prog 121 #[.bool false,.agg ⟨ca⟩,.agg ⟨cb⟩] w fun e w'=>e= .returned (.bool false)/\Below w.heap.size w w':=by
 have HORD:=I hord
 clear hord
 have HV:=I hv
 have HV2:=I hv2
 obtain⟨vna,via,rfl,hkw,hnw,hfw,hsw,hns,hil,hi⟩:=ValAt.inv hv
 obtain⟨hnl,NA1,na2,rfl,hnA⟩:=hns
 obtain⟨hil2,A,c,rfl,hA⟩:=hi
 obtain⟨vnb,vib,rfl,hkw2,hnw2,hfw2,hsw2,hns2,hil3,hi2⟩:=ValAt.inv hv2
 obtain⟨hnl2,NB1,nb2,rfl,hnB⟩:=hns2
 obtain⟨hil4,B,c2,rfl,hB⟩:=hi2
 clear hkw hnw hfw hsw hnl hnA hil hil2 hA hkw2 hnw2 hfw2 hsw2 hnl2 hnB hil3 hil4 hB hv hv2
 go_enter Tryz.func121,Tryz.ntmps121
 go_upto_region 1 with (fail)
 have HST:=I (z0j w [.int .i64 4,.int .i64 na,.float .f64 fa,.string sa,.slice NA1 nsa.length na2,.slice A ia.length c] [.int .i64 4,.int .i64 nb,.float .f64 fb,.string sb,.slice NB1 nsb.length nb2,.slice B ib.length c2])
 generalize (w.alloc (.cells ⟨[.int .i64 4,.int .i64 na,.float .f64 fa,.string sa,.slice NA1 nsa.length na2,.slice A ia.length c]⟩ 26)).alloc (.cells ⟨[.int .i64 4,.int .i64 nb,.float .f64 fb,.string sb,.slice NB1 nsb.length nb2,.slice B ib.length c2]⟩ 26)= W at*
 have d0:W.cell? ⟨w.heap.size,0,none⟩= some (.int .i64 4):=HST.out.wa.cells 0 rfl
 have HVO:=I (z1T _ _ _ _ W ((HV.out.under HST.out.bel).more HST.out.bel.size) ((HV2.out.under HST.out.bel).more HST.out.bel.size))
 rw[HORD.out] at HVO
 go_upto_region 7 with (first|((with_reducible refine zc 26 _ rfl ?hwa w.heap.size 0 [.int .i64 4,.int .i64 na,.float .f64 fa,.string sa,.slice NA1 nsa.length na2,.slice A ia.length c] _ rfl HST.out.wa.range Tryz.underlying26 rfl ?hia ?_);(case hwa=>(exact wantA rfl));(case hia=>kernel_rfl))|((with_reducible refine zc 26 _ rfl ?hwb (w.heap.size+1) 0 [.int .i64 4,.int .i64 nb,.float .f64 fb,.string sb,.slice NB1 nsb.length nb2,.slice B ib.length c2] _ rfl HST.out.wb.range Tryz.underlying26 rfl ?hib ?_);(case hwb=>(exact wantA rfl));(case hib=>kernel_rfl))|(go_at_call 158;refine HVO.out.mono ?_;rintro e z ⟨rfl,hb⟩;have HBZ:=I hb;clear hb))
 go_wp2
 go_ret
 exact⟨rfl,HST.out.bel.trans (HBZ.out.mono HST.out.bel.size)⟩
theorem z7R (na nb:Int) (fa fb:Nat) (sa sb:ByteArray) (nsa nsb:List ByteArray) (ia ib:List VT) (ca cb:List Value) (w:World) (r:Int) (hv:ValAt w w.heap.size ca (.mk 4 na fa sa nsa ia)) (hv2:ValAt w w.heap.size cb (.mk 4 nb fb sb nsb ib)) (hord:ordV (.mk 4 na fa sa nsa ia) (.mk 4 nb fb sb nsb ib)= r):
  Calls Tryz.prog 121 #[.bool false,.agg ⟨ca⟩,.agg ⟨cb⟩] w fun e w'=>e= .returned (.bool (decide (r < 0) ||(false && (r ==0))))/\Below w.heap.size w w':=by
 cases hb:decide (r < 0) with
 |true=>exact z4S na nb fa fb sa sb nsa nsb ia ib ca cb w r hb hv hv2 hord
 |false=>exact z4k na nb fa fb sa sb nsa nsb ia ib ca cb w r hb hv hv2 hord
theorem ze4 (eq:Bool) (ka kb:Int) (na nb:Int) (fa fb:Nat) (sa sb:ByteArray) (nsa nsb:List ByteArray) (ia ib:List VT) (ca cb:List Value) (w:World) (h2:(ka ==2)= false) (h3:(ka ==3)= false) (h4:(ka ==4)= false) (hv:ValAt w w.heap.size ca (.mk ka na fa sa nsa ia)) (hv2:ValAt w w.heap.size cb (.mk kb nb fb sb nsb ib)):
  Calls Tryz.prog 121 #[.bool eq,.agg ⟨ca⟩,.agg ⟨cb⟩] w fun e w'=>e= panE 6/\Below w.heap.size w w':=by
 have HV:=I hv
 have HV2:=I hv2
 obtain⟨vna,via,rfl,hkw,hnw,hfw,hsw,hns,hil,hi⟩:=ValAt.inv hv
 obtain⟨hnl,NA1,na2,rfl,hnA⟩:=hns
 obtain⟨hil2,A,c,rfl,hA⟩:=hi
 obtain⟨vnb,vib,rfl,hkw2,hnw2,hfw2,hsw2,hns2,hil3,hi2⟩:=ValAt.inv hv2
 obtain⟨hnl2,NB1,nb2,rfl,hnB⟩:=hns2
 obtain⟨hil4,B,c2,rfl,hB⟩:=hi2
 clear hkw hnw hfw hsw hnl hnA hil hil2 hA hkw2 hnw2 hfw2 hsw2 hnl2 hnB hil3 hil4 hB hv hv2
 go_enter Tryz.func121,Tryz.ntmps121
 go_upto_region 1 with (fail)
 have HST:=I (z0j w [.int .i64 ka,.int .i64 na,.float .f64 fa,.string sa,.slice NA1 nsa.length na2,.slice A ia.length c] [.int .i64 kb,.int .i64 nb,.float .f64 fb,.string sb,.slice NB1 nsb.length nb2,.slice B ib.length c2])
 generalize (w.alloc (.cells ⟨[.int .i64 ka,.int .i64 na,.float .f64 fa,.string sa,.slice NA1 nsa.length na2,.slice A ia.length c]⟩ 26)).alloc (.cells ⟨[.int .i64 kb,.int .i64 nb,.float .f64 fb,.string sb,.slice NB1 nsb.length nb2,.slice B ib.length c2]⟩ 26)= W at*
 have d0:W.cell? ⟨w.heap.size,0,none⟩= some (.int .i64 ka):=HST.out.wa.cells 0 rfl
 go_wp2
 exact⟨rfl,rfl,HST.out.bel⟩
theorem z7C (eq:Bool) (k:Int) (na nb:Int) (fa fb:Nat) (sa sb:ByteArray) (nsa nsb:List ByteArray) (ia ib:List VT) (ca cb:List Value) (w:World) (hv:ValAt w w.heap.size ca (.mk k na fa sa nsa ia)) (hv2:ValAt w w.heap.size cb (.mk k nb fb sb nsb ib)):
  Calls Tryz.prog 121 #[.bool eq,.agg ⟨ca⟩,.agg ⟨cb⟩] w (z7S (lessZ eq (.mk k na fa sa nsa ia) (.mk k nb fb sb nsb ib)) w):=by
 unfold lessZ
 dsimp only
 by_cases k3:k= 3
 ·subst k3
  rw[if_pos rfl]
  cases eq with
  |true=>exact(z9z na nb fa fb sa sb nsa nsb ia ib ca cb w hv hv2).mono fun e w' h=>⟨.inl ⟨_,rfl,h.1⟩,h.2⟩
  |false=>exact(z8E na nb fa fb sa sb nsa nsb ia ib ca cb w hv hv2).mono fun e w' h=>⟨.inl ⟨_,rfl,h.1⟩,h.2⟩
 rw[if_neg k3]
 by_cases k2:k= 2
 ·subst k2
  rw[if_pos (Or.inl rfl)]
  cases eq with
  |true=>exact(z8i na nb fa fb sa sb nsa nsb ia ib ca cb w _ hv hv2 rfl).mono fun e w' h=>⟨.inl ⟨_,rfl,h.1⟩,h.2⟩
  |false=>exact(z71 na nb fa fb sa sb nsa nsb ia ib ca cb w _ hv hv2 rfl).mono fun e w' h=>⟨.inl ⟨_,rfl,h.1⟩,h.2⟩
 by_cases k4:k= 4
 ·subst k4
  rw[if_pos (Or.inr rfl)]
  cases eq with
  |true=>exact(z8e na nb fa fb sa sb nsa nsb ia ib ca cb w _ hv hv2 rfl).mono fun e w' h=>⟨.inl ⟨_,rfl,h.1⟩,h.2⟩
  |false=>exact(z7R na nb fa fb sa sb nsa nsb ia ib ca cb w _ hv hv2 rfl).mono fun e w' h=>⟨.inl ⟨_,rfl,h.1⟩,h.2⟩
 rw[if_neg (by omega)]
 exact(ze4 eq k k na nb fa fb sa sb nsa nsb ia ib ca cb w (by simpa using k2) (by simpa using k3) (by simpa using k4) hv hv2).mono fun e w' h=>⟨.inr ⟨_,rfl,h.1⟩,h.2⟩
end
section
open Go Go.RowKit
theorem z2x (P:Nat->Prop) (v:VT) (cs:List Value) (w:World) (hv:Kept P w cs v):Calls Tryz.prog 66 #[.agg ⟨cs⟩] w (UnPost P (szd v) w):=by
 have HV:=I hv
 have HCL:=I (zi hv.val).1
 have HON:=I (zi hv.val).2
 have HVW:=I hv.val
 clear hv
 go_enter Tryz.func66,Tryz.ntmps66
 go_upto_region 1 with (fail)
 have HST:=I (zW w cs)
 rw[zv]
 generalize (w.alloc (.cells ⟨cs⟩ 26)).alloc (.cells zV6.toArray 26)= W at*
 have HR:=I (z1O v cs W ((HVW.out.under HST.out.bel).more HST.out.bel.size))
 obtain⟨b,hb⟩:∃ b,(decide (cntV v 0<=200) && zo v 1)= b:=⟨_,rfl⟩
 have HB:Hid (zj v= b):=I hb
 rw[hb] at HR
 clear hb
 cases b with
 |true=>
  have HRES:Hid (szd v= .ok v):=I (by unfold szd;rw[if_pos HB.out])
  go_upto_region 2 with (first|((with_reducible refine zc 26 _ rfl ?hwl w.heap.size 0 cs _ rfl HST.out.wa.range Tryz.underlying26 rfl ?hil ?_);(case hwl=>(exact wantA rfl));(case hil=>rw[HCL.out];kernel_rfl))|(go_at_call 37;refine HR.out.mono ?_;rintro e z ⟨rfl,hb⟩;have HBZ:=I hb;clear hb)|(go_at_call 36;refine(zp 3 _).mono ?_;rintro e z ⟨rfl,hzw⟩;rw[hzw];clear hzw z))
  have HRA:=I (HST.out.wa.keep (HBZ.out.block _ HST.out.wa.lt))
  have HRZ:=I (HST.out.wb.keep (HBZ.out.block _ HST.out.wb.lt))
  have HRG:=I HRA.out.range
  go_wp2_with (first|((with_reducible refine zc 26 _ rfl ?hwl w.heap.size 0 cs _ rfl HRG.out Tryz.underlying26 rfl ?hil ?_);(case hwl=>(exact wantA rfl));(case hil=>rw[HCL.out];kernel_rfl))|((with_reducible refine zh 26 _ _ rfl rfl ?hw (w.heap.size+1) zV6 (cs) HRZ.out ?h5 ?h6 ?h7 ?h8 ?h9 ?_);(case hw=>(exact wantA rfl));(case h5=>rw[HCL.out];rfl);(case h6=>rfl);(case h7=>rfl);(case h8=>rw[HCL.out];kernel_rfl);(case h9=>exact HON.out);intro Z2 hz hb;have HX:=I hz;have HXB:=I hb;clear hz hb))
  (try simp only[Exit.inBlock,Exit.then])
  refine bodyPost_ret (zl rfl Tryz.underlying26 rfl _ _ (w.heap.size+1) (cs) (by rw[HCL.out];kernel_rfl) rfl HX.out.range) rfl ?_
  have hbel:=(HST.out.bel.trans (HBZ.out.mono HST.out.bel.size)).trans (HXB.out.below (B:=w.heap.size) (Nat.le_trans HST.out.bel.size HBZ.out.size) (by omega) (by omega))
  exact .ok HRES.out rfl (HV.out.grow hbel) hbel
 |false=>
  have HRES:Hid (szd v= .error 3):=I (by unfold szd;rw[if_neg (by rw[HB.out];decide)])
  go_wp2_with (first|((with_reducible refine zc 26 _ rfl ?hwl w.heap.size 0 cs _ rfl HST.out.wa.range Tryz.underlying26 rfl ?hil ?_);(case hwl=>(exact wantA rfl));(case hil=>rw[HCL.out];kernel_rfl))|(go_at_call 37;refine HR.out.mono ?_;rintro e z ⟨rfl,hb⟩;have HBZ:=I hb;clear hb)|(go_at_call 36;refine(zB 3 _).mono ?_;rintro e z ⟨rfl,hzw⟩;rw[hzw];clear hzw z))
  exact⟨rfl,.no HRES.out rfl (HST.out.bel.trans (HBZ.out.mono HST.out.bel.size))⟩
theorem z3M:∀ (KL:List zK) (j:Nat) (u:Value),(flat enc6 KL)[j]?= some u->∃ i k r,KL[i]?= some k/\j= i*6+r/\(enc6 k)[r]?= some u
 |[],j,u,h=>by simp[flat] at h
 |k::KL,j,u,h=>by
  have h1:flat enc6 (k::KL)= enc6 k ++ flat enc6 KL:=rfl
  rw[h1] at h
  by_cases hj:j < 6
  ·rw[List.getElem?_append_left (by rw[z0o];exact hj)] at h
   exact⟨0,k,j,rfl,by omega,h⟩
  ·rw[List.getElem?_append_right (by rw[z0o];omega),z0o] at h
   obtain⟨i,k',r,h2,h3,h4⟩:=z3M KL (j - 6) u h
   exact⟨i+1,k',r,by simpa using h2,by omega,h4⟩
theorem z3K:∀ (K L:List zK),flat enc6 (K ++ L)= flat enc6 K ++ flat enc6 L
 |[],L=>rfl
 |k::K,L=>by
  show enc6 k ++ flat enc6 (K ++ L)=(enc6 k ++ flat enc6 K) ++ flat enc6 L
  rw[z3K K L,List.append_assoc]
theorem z1E:∀ (K:List zK),(flat enc6 K).length= K.length*6
 |[]=>rfl
 |k::K=>by
  show(enc6 k ++ flat enc6 K).length= _
  rw[List.length_append,z0o,z1E K,List.length_cons];omega
theorem z1z {P:Nat->Prop} {w:World} {v:Value} {its:List VT} (h:SlAt (only w P) w.heap.size 6 (ValAt (only w P) w.heap.size) v its):∃ A c,v= .slice A its.length c/\∃ KL:List zK,KL.length= its.length/\
  (∀ (j:Nat) (k:zK) (x:VT),KL[j]?= some k->its[j]?= some x->Kept P w k.1 x)/\(0 < its.length->∃ b ob,A= some ⟨b,ob,none⟩/\b < w.heap.size/\∀ j u,(flat enc6 KL)[j]?= some u->w.cell? ⟨b,ob+j,none⟩= some u)/\(∀ u∈flat enc6 KL,u.oneCell'= true):=by
 obtain⟨_,A,c,rfl,hA⟩:=h
 refine⟨A,c,rfl,?_⟩
 rcases Nat.eq_zero_or_pos its.length with h0|h0
 ·exact⟨[],by simp[h0],fun j k x hk=>by simp at hk,fun h1=>by omega,fun u hu=>by simp[flat] at hu⟩
 ·obtain⟨b,o,rfl,hb,hc⟩:=hA h0
  have hex:∀ i:Nat,∃ k:zK,∀ x,its[i]?= some x->(only w P).rangeAt b (o+i*6) k.1/\ValAt (only w P) w.heap.size k.1 x:=fun i=>by
   cases hx:its[i]? with
   |none=>exact⟨⟨[undef,undef,undef,undef,undef,undef],rfl⟩,fun x h=>by cases h⟩
   |some x=>
    obtain⟨ks,hl,hr,hv⟩:=hc i x hx
    exact⟨⟨ks,hl⟩,fun y hy=>by injection hy with hy;subst hy;exact⟨hr,hv⟩⟩
  obtain⟨f,hf⟩:=Classical.skolem.1 hex
  have hKL:∀ (j:Nat) (k:zK),((List.range its.length).map f)[j]?= some k->j < its.length/\k= f j:=fun j k hk=>by
   rw[List.getElem?_map,Option.map_eq_some_iff] at hk
   obtain⟨i,hi,rfl⟩:=hk
   obtain⟨h1,h2⟩:=List.getElem?_eq_some_iff.1 hi
   simp at h1 h2
   subst h2
   exact⟨h1,rfl⟩
  refine⟨(List.range its.length).map f,by simp,fun j k x hk hx=> ?_,fun _=>⟨b,o,rfl,hb,fun j u hu=> ?_⟩,fun u hu=> ?_⟩
  ·obtain⟨_,rfl⟩:=hKL j k hk
   exact(hf j x hx).2
  ·obtain⟨i,k,r,h1,rfl,h3⟩:=z3M _ j u hu
   obtain⟨hi,rfl⟩:=hKL i k h1
   have:=(hf i its[i] (List.getElem?_eq_getElem hi)).1 r u h3
   rw[show o+i*6+r= o+ (i*6+r) by omega] at this
   exact(zQ.1 this).2
  ·obtain⟨j,hj⟩:=List.mem_iff_getElem?.1 hu
   obtain⟨i,k,r,h1,rfl,h3⟩:=z3M _ j u hj
   obtain⟨hi,rfl⟩:=hKL i k h1
   exact ValAt.one (hf i its[i] (List.getElem?_eq_getElem hi)).2 u (List.mem_of_getElem? h3)
theorem z79 {Q:Nat->Prop} {w':World} {base:Nat} {v:Value} {KL:List zK} {its:List VT} (ho:OwnSl 26 6 enc6 w' base v KL) (hl:KL.length= its.length) (hm:its.length<=9223372036854775807) (hQ:∀ b,base<=b->Q b)
  (he:∀ (j:Nat) (k:zK) (x:VT),KL[j]?= some k->its[j]?= some x->Kept Q w' k.1 x):SlAt (only w' Q) w'.heap.size 6 (ValAt (only w' Q) w'.heap.size) v its:=by
 refine⟨hm,?_⟩
 rcases ho.2 with ⟨rfl,h0⟩|⟨g,cap,cur,hv,hg,_,_⟩
 ·exact⟨none,0,by rw[← hl,h0],fun h1=>by omega⟩
 ·refine⟨some ⟨g,0,none⟩,cap,by rw[hv,hl],fun _=> ?_⟩
  have hown:v.ownBlock= some g:=by rw[hv];rfl
  refine⟨g,0,rfl,z1p ho hown,fun i x hx=> ?_⟩
  have hi:=(List.getElem?_eq_some_iff.1 hx).1
  have hki:KL[i]?= some (KL[i]'(by rw[hl];exact hi)):=List.getElem?_eq_getElem _
  refine⟨_,(KL[i]'(by rw[hl];exact hi)).2,fun j c hc=> ?_,he i _ x hki hx⟩
  refine zQ.2 ⟨hQ g hg,?_⟩
  have:=World.ownsRow.cells ho hown (i*6+j) c (z11 z0o KL i _ hki j c hc)
  rw[Addr.add_mid] at this
  rw[show 0+i*6+j= 0+ (i*6+j) by omega];exact this
theorem z44 {n:Int}:wfI n↔(-9223372036854775808<=n/\n<=9223372036854775807):=by
 refine⟨fun h=> ?_,z0f⟩
 unfold wfI Lit.wf at h
 simp only[Bool.and_eq_true,decide_eq_true_eq] at h
 exact h
theorem z5m {m n:Int} (h:okI m= .ok n): -9223372036854775808<=n/\n<=9223372036854775807:=by
 unfold okI at h
 split at h
 ·injection h with h;subst h;assumption
 ·cases h
theorem zaL {k a b n:Int} (ha: -9223372036854775808<=a/\a<=9223372036854775807) (h:z2p k a b= .ok n): -9223372036854775808<=n/\n<=9223372036854775807:=by
 unfold z2p at h
 split at h
 ·exact z5m h
 split at h
 ·exact z5m h
 split at h
 ·exact z5m h
 split at h
 ·cases h
 split at h
 ·injection h with h;subst h;exact z8Q ha
 ·exact z5m h
theorem z56 (op:BinOp) (a b:Nat):(Lit.float .f64 (fopV op a b)).wf= true:=by
 unfold fopV
 split
 ·exact z3f (floatBits_wf (by assumption))
 ·decide
theorem z9i {k:Int} {a b n:Nat} (h:z1u k a b= .ok n):zm n= n/\(Lit.float .f64 n).wf= true:=by
 unfold z1u at h
 split at h
 ·injection h with h;subst h;exact⟨z2t _ _ _,z56 _ _ _⟩
 split at h
 ·injection h with h;subst h;exact⟨z2t _ _ _,z56 _ _ _⟩
 split at h
 ·injection h with h;subst h;exact⟨z2t _ _ _,z56 _ _ _⟩
 split at h
 ·injection h with h;subst h;exact⟨z2t _ _ _,z56 _ _ _⟩
 ·cases h
theorem z6W:(Tryz.prog.info? 24).map (fun i=>(i.zero,i.size,i.bytes))= some (some (.slice none 0 0),1,24):=by kernel_rfl
theorem z8s {P:Program} (w:World) (t e:TypeId) (i:TypeInfo) (z:Value) (A B:Option Addr) (n m c d:Nat) (ht:P.underlying t= some (.slice e)) (hi:P.info? e= some i) (hz:i.zero= some z) (hzc:z.cells.size= 1) (hsz:i.size= 1):
  (Instr.buildSlice t 2 #[(0,.slice A n c),(1,.slice B m d)]).run P w= .ok (.slice (some ⟨w.heap.size,0,none⟩) 2 2) (w.alloc (.cells #[.slice A n c,.slice B m d] e)):=by
 have hs:(sizeOf e).run P w= .ok 1 w:=by simp[sizeOf,typeInfo,hi,hsz]
 have hzv:(zeroValue e).run P w= .ok z w:=by simp[zeroValue,typeInfo,hi,hz]
 have hf:∀ cells:Array Value,cells.size= 2*1->Instr.fill (fun i=>some (i*1,1)) cells [(0,.slice A n c),(1,.slice B m d)]= some #[.slice A n c,.slice B m d]:=fun cells hc=>z7b 1 [.slice A n c] [.slice B m d] cells rfl rfl hc
 unfold Instr.buildSlice
 simp only[Sem.run_bind,run_underlying ht,Result.andThen_ok,hs]
 rw[if_neg (by omega),if_neg (by omega)]
 simp only[Sem.run_bind,Sem.run_pure,Result.andThen_ok,hzv]
 rw[hf _ (by simp)]
 simp[newRow]
theorem z3u {P:Program} {o:Oper} {a:Act} {w:World} (t:TypeId) (x y:Operand) (ho:o.op= .buildSlice t 2 #[(0,x),(1,y)]) (e:TypeId) (i:TypeInfo) (z:Value) (A B:Option Addr) (n m c d:Nat) (hx:a.eval x= .slice A n c) (hy:a.eval y= .slice B m d)
  (ht:P.underlying t= some (.slice e)) (hi:P.info? e= some i) (hz:i.zero= some z) (hzc:z.cells.size= 1) (hsz:i.size= 1):
  (execOp a.eval o).run P w= .ok (.value (.slice (some ⟨w.heap.size,0,none⟩) 2 2)) (w.alloc (.cells #[.slice A n c,.slice B m d] e)):=by
 unfold execOp
 have hr:=z8s (P:=P) w t e i z A B n m c d ht hi hz hzc hsz
 simp only[ho,List.map_toArray,List.map_cons,List.map_nil,hx,hy,Sem.run_bind,Sem.run_pure,Result.andThen_ok,hr]
section
variable (P:Nat->Prop)
theorem zdC (na nb:Int) (fa fb:Nat) (sa sb:ByteArray) (nsa nsb:List ByteArray) (ia ib:List VT) (ca cb:List Value) (w:World) (ka kb:Int) (h1:(ka ==5)= false) (hv:Kept P w ca (.mk ka na fa sa nsa ia)) (hv2:Kept P w cb (.mk kb nb fb sb nsb ib)) (hra:zj (.mk ka na fa sa nsa ia)= true) (hrb:zj (.mk kb nb fb sb nsb ib)= true) {r:Res} (hres:r= .error 6):
  Calls Tryz.prog 69 #[.int .i64 19,.agg ⟨ca⟩,.agg ⟨cb⟩] w (UnPost P r w):=by
 have HV:=I hv
 have HV2:=I hv2
 have HVW:=I hv.val
 have HVW2:=I hv2.val
 have HRA:=I hra
 have HRB:=I hrb
 have HRES:=I hres
 have HON1:=I (zi hv.val).2
 have HON2:=I (zi hv2.val).2
 obtain⟨vna,via,rfl,hkw,hnw,hfw,hsw,hns,hil,hi⟩:=ValAt.inv hv
 obtain⟨hnl,NA1,na2,rfl,hnA⟩:=hns
 have hi0:=hi
 obtain⟨hil2,A,c,rfl,hA⟩:=hi
 obtain⟨vnb,vib,rfl,hkw2,hnw2,hfw2,hsw2,hns2,hil3,hi2⟩:=ValAt.inv hv2
 obtain⟨hnl2,NB1,nb2,rfl,hnB⟩:=hns2
 have hi20:=hi2
 obtain⟨hil4,B,c2,rfl,hB⟩:=hi2
 have HWF:=I (And.intro hnw (And.intro hfw (And.intro hnw2 hfw2)))
 have HIT:=I hi0
 have HIT2:=I hi20
 clear hkw hnw hfw hsw hnl hnA hil hil2 hA hkw2 hnw2 hfw2 hsw2 hnl2 hnB hil3 hil4 hB hv hv2 hra hrb hres hi0 hi20
 go_enter Tryz.func69,Tryz.ntmps69
 go_upto_region 1 with (fail)
 have HST:=I (z0c w [.int .i64 ka,.int .i64 na,.float .f64 fa,.string sa,.slice NA1 nsa.length na2,.slice A ia.length c] [.int .i64 kb,.int .i64 nb,.float .f64 fb,.string sb,.slice NB1 nsb.length nb2,.slice B ib.length c2])
 rw[zv]
 generalize ((w.alloc (.cells ⟨[.int .i64 ka,.int .i64 na,.float .f64 fa,.string sa,.slice NA1 nsa.length na2,.slice A ia.length c]⟩ 26)).alloc (.cells ⟨[.int .i64 kb,.int .i64 nb,.float .f64 fb,.string sb,.slice NB1 nsb.length nb2,.slice B ib.length c2]⟩ 26)).alloc (.cells zV6.toArray 26)= W at*
 have d0:W.cell? ⟨w.heap.size,0,none⟩= some (.int .i64 ka):=HST.out.wa.cells 0 rfl
 have c0:W.cell? ⟨w.heap.size+1,0,none⟩= some (.int .i64 kb):=HST.out.wb.cells 0 rfl
 go_wp2_with ((go_at_call 36;refine(zB 6 _).mono ?_;rintro e z ⟨rfl,hzw⟩;rw[hzw];clear hzw z))
 exact⟨rfl,.no HRES.out rfl HST.out.bel⟩
theorem zcY (na nb:Int) (fa fb:Nat) (sa sb:ByteArray) (nsa nsb:List ByteArray) (ia ib:List VT) (ca cb:List Value) (w:World) (kb:Int) (h1:(kb ==2)= false) (hv:Kept P w ca (.mk 5 na fa sa nsa ia)) (hv2:Kept P w cb (.mk kb nb fb sb nsb ib)) (hra:zj (.mk 5 na fa sa nsa ia)= true) (hrb:zj (.mk kb nb fb sb nsb ib)= true) {r:Res} (hres:r= .error 6):
  Calls Tryz.prog 69 #[.int .i64 19,.agg ⟨ca⟩,.agg ⟨cb⟩] w (UnPost P r w):=by
 have HV:=I hv
 have HV2:=I hv2
 have HVW:=I hv.val
 have HVW2:=I hv2.val
 have HRA:=I hra
 have HRB:=I hrb
 have HRES:=I hres
 have HON1:=I (zi hv.val).2
 have HON2:=I (zi hv2.val).2
 obtain⟨vna,via,rfl,hkw,hnw,hfw,hsw,hns,hil,hi⟩:=ValAt.inv hv
 obtain⟨hnl,NA1,na2,rfl,hnA⟩:=hns
 have hi0:=hi
 obtain⟨hil2,A,c,rfl,hA⟩:=hi
 obtain⟨vnb,vib,rfl,hkw2,hnw2,hfw2,hsw2,hns2,hil3,hi2⟩:=ValAt.inv hv2
 obtain⟨hnl2,NB1,nb2,rfl,hnB⟩:=hns2
 have hi20:=hi2
 obtain⟨hil4,B,c2,rfl,hB⟩:=hi2
 have HWF:=I (And.intro hnw (And.intro hfw (And.intro hnw2 hfw2)))
 have HIT:=I hi0
 have HIT2:=I hi20
 clear hkw hnw hfw hsw hnl hnA hil hil2 hA hkw2 hnw2 hfw2 hsw2 hnl2 hnB hil3 hil4 hB hv hv2 hra hrb hres hi0 hi20
 go_enter Tryz.func69,Tryz.ntmps69
 go_upto_region 1 with (fail)
 have HST:=I (z0c w [.int .i64 5,.int .i64 na,.float .f64 fa,.string sa,.slice NA1 nsa.length na2,.slice A ia.length c] [.int .i64 kb,.int .i64 nb,.float .f64 fb,.string sb,.slice NB1 nsb.length nb2,.slice B ib.length c2])
 rw[zv]
 generalize ((w.alloc (.cells ⟨[.int .i64 5,.int .i64 na,.float .f64 fa,.string sa,.slice NA1 nsa.length na2,.slice A ia.length c]⟩ 26)).alloc (.cells ⟨[.int .i64 kb,.int .i64 nb,.float .f64 fb,.string sb,.slice NB1 nsb.length nb2,.slice B ib.length c2]⟩ 26)).alloc (.cells zV6.toArray 26)= W at*
 have d0:W.cell? ⟨w.heap.size,0,none⟩= some (.int .i64 5):=HST.out.wa.cells 0 rfl
 have c0:W.cell? ⟨w.heap.size+1,0,none⟩= some (.int .i64 kb):=HST.out.wb.cells 0 rfl
 go_wp2_with ((go_at_call 36;refine(zB 6 _).mono ?_;rintro e z ⟨rfl,hzw⟩;rw[hzw];clear hzw z))
 exact⟨rfl,.no HRES.out rfl HST.out.bel⟩
theorem zd9 (na nb:Int) (fa fb:Nat) (sa sb:ByteArray) (nsa nsb:List ByteArray) (ia ib:List VT) (ca cb:List Value) (w:World) (h1:decide (0<=nb)= false) (hv:Kept P w ca (.mk 5 na fa sa nsa ia)) (hv2:Kept P w cb (.mk 2 nb fb sb nsb ib)) (hra:zj (.mk 5 na fa sa nsa ia)= true) (hrb:zj (.mk 2 nb fb sb nsb ib)= true) {r:Res} (hres:r= .error 9):
  Calls Tryz.prog 69 #[.int .i64 19,.agg ⟨ca⟩,.agg ⟨cb⟩] w (UnPost P r w):=by
 have HV:=I hv
 have HV2:=I hv2
 have HVW:=I hv.val
 have HVW2:=I hv2.val
 have HRA:=I hra
 have HRB:=I hrb
 have HRES:=I hres
 have HON1:=I (zi hv.val).2
 have HON2:=I (zi hv2.val).2
 obtain⟨vna,via,rfl,hkw,hnw,hfw,hsw,hns,hil,hi⟩:=ValAt.inv hv
 obtain⟨hnl,NA1,na2,rfl,hnA⟩:=hns
 have hi0:=hi
 obtain⟨hil2,A,c,rfl,hA⟩:=hi
 obtain⟨vnb,vib,rfl,hkw2,hnw2,hfw2,hsw2,hns2,hil3,hi2⟩:=ValAt.inv hv2
 obtain⟨hnl2,NB1,nb2,rfl,hnB⟩:=hns2
 have hi20:=hi2
 obtain⟨hil4,B,c2,rfl,hB⟩:=hi2
 have HWF:=I (And.intro hnw (And.intro hfw (And.intro hnw2 hfw2)))
 have HIT:=I hi0
 have HIT2:=I hi20
 clear hkw hnw hfw hsw hnl hnA hil hil2 hA hkw2 hnw2 hfw2 hsw2 hnl2 hnB hil3 hil4 hB hv hv2 hra hrb hres hi0 hi20
 go_enter Tryz.func69,Tryz.ntmps69
 go_upto_region 1 with (fail)
 have HST:=I (z0c w [.int .i64 5,.int .i64 na,.float .f64 fa,.string sa,.slice NA1 nsa.length na2,.slice A ia.length c] [.int .i64 2,.int .i64 nb,.float .f64 fb,.string sb,.slice NB1 nsb.length nb2,.slice B ib.length c2])
 rw[zv]
 generalize ((w.alloc (.cells ⟨[.int .i64 5,.int .i64 na,.float .f64 fa,.string sa,.slice NA1 nsa.length na2,.slice A ia.length c]⟩ 26)).alloc (.cells ⟨[.int .i64 2,.int .i64 nb,.float .f64 fb,.string sb,.slice NB1 nsb.length nb2,.slice B ib.length c2]⟩ 26)).alloc (.cells zV6.toArray 26)= W at*
 have d0:W.cell? ⟨w.heap.size,0,none⟩= some (.int .i64 5):=HST.out.wa.cells 0 rfl
 have c0:W.cell? ⟨w.heap.size+1,0,none⟩= some (.int .i64 2):=HST.out.wb.cells 0 rfl
 have n1:W.cell? ⟨w.heap.size+1,1,none⟩= some (.int .i64 nb):=HST.out.wb.cells 1 rfl
 have n5:W.cell? ⟨w.heap.size,5,none⟩= some (.slice A ia.length c):=HST.out.wa.cells 5 rfl
 go_wp2_with (first|(go_at_call 36;refine(zp 6 _).mono ?_;rintro e z ⟨rfl,hzw⟩;rw[hzw];clear hzw z)|(go_at_call 36;refine(zB 9 _).mono ?_;rintro e z ⟨rfl,hzw⟩;rw[hzw];clear hzw z))
 exact⟨rfl,.no HRES.out rfl HST.out.bel⟩
theorem zdP (na nb:Int) (fa fb:Nat) (sa sb:ByteArray) (nsa nsb:List ByteArray) (ia ib:List VT) (ca cb:List Value) (w:World) (h1:decide (0<=nb)= true) (h2:decide (nb <(ia.length:Int))= false) (hv:Kept P w ca (.mk 5 na fa sa nsa ia)) (hv2:Kept P w cb (.mk 2 nb fb sb nsb ib)) (hra:zj (.mk 5 na fa sa nsa ia)= true) (hrb:zj (.mk 2 nb fb sb nsb ib)= true) {r:Res} (hres:r= .error 9):
  Calls Tryz.prog 69 #[.int .i64 19,.agg ⟨ca⟩,.agg ⟨cb⟩] w (UnPost P r w):=by
 have HV:=I hv
 have HV2:=I hv2
 have HVW:=I hv.val
 have HVW2:=I hv2.val
 have HRA:=I hra
 have HRB:=I hrb
 have HRES:=I hres
 have HON1:=I (zi hv.val).2
 have HON2:=I (zi hv2.val).2
 obtain⟨vna,via,rfl,hkw,hnw,hfw,hsw,hns,hil,hi⟩:=ValAt.inv hv
 obtain⟨hnl,NA1,na2,rfl,hnA⟩:=hns
 have hi0:=hi
 obtain⟨hil2,A,c,rfl,hA⟩:=hi
 obtain⟨vnb,vib,rfl,hkw2,hnw2,hfw2,hsw2,hns2,hil3,hi2⟩:=ValAt.inv hv2
 obtain⟨hnl2,NB1,nb2,rfl,hnB⟩:=hns2
 have hi20:=hi2
 obtain⟨hil4,B,c2,rfl,hB⟩:=hi2
 have HWF:=I (And.intro hnw (And.intro hfw (And.intro hnw2 hfw2)))
 have HIT:=I hi0
 have HIT2:=I hi20
 clear hkw hnw hfw hsw hnl hnA hil hil2 hA hkw2 hnw2 hfw2 hsw2 hnl2 hnB hil3 hil4 hB hv hv2 hra hrb hres hi0 hi20
 go_enter Tryz.func69,Tryz.ntmps69
 go_upto_region 1 with (fail)
 have HST:=I (z0c w [.int .i64 5,.int .i64 na,.float .f64 fa,.string sa,.slice NA1 nsa.length na2,.slice A ia.length c] [.int .i64 2,.int .i64 nb,.float .f64 fb,.string sb,.slice NB1 nsb.length nb2,.slice B ib.length c2])
 rw[zv]
 generalize ((w.alloc (.cells ⟨[.int .i64 5,.int .i64 na,.float .f64 fa,.string sa,.slice NA1 nsa.length na2,.slice A ia.length c]⟩ 26)).alloc (.cells ⟨[.int .i64 2,.int .i64 nb,.float .f64 fb,.string sb,.slice NB1 nsb.length nb2,.slice B ib.length c2]⟩ 26)).alloc (.cells zV6.toArray 26)= W at*
 have d0:W.cell? ⟨w.heap.size,0,none⟩= some (.int .i64 5):=HST.out.wa.cells 0 rfl
 have c0:W.cell? ⟨w.heap.size+1,0,none⟩= some (.int .i64 2):=HST.out.wb.cells 0 rfl
 have n1:W.cell? ⟨w.heap.size+1,1,none⟩= some (.int .i64 nb):=HST.out.wb.cells 1 rfl
 have n5:W.cell? ⟨w.heap.size,5,none⟩= some (.slice A ia.length c):=HST.out.wa.cells 5 rfl
 go_wp2_with (first|(go_at_call 36;refine(zp 6 _).mono ?_;rintro e z ⟨rfl,hzw⟩;rw[hzw];clear hzw z)|(go_at_call 36;refine(zB 9 _).mono ?_;rintro e z ⟨rfl,hzw⟩;rw[hzw];clear hzw z))
 exact⟨rfl,.no HRES.out rfl HST.out.bel⟩
theorem ze0 (na nb:Int) (fa fb:Nat) (sa sb:ByteArray) (nsa nsb:List ByteArray) (ia ib:List VT) (ca cb:List Value) (w:World) (j:Nat) (hj:j < ia.length) (hnb:Hid (nb=(j:Int))) (hv:Kept P w ca (.mk 5 na fa sa nsa ia)) (hv2:Kept P w cb (.mk 2 nb fb sb nsb ib)) (hra:zj (.mk 5 na fa sa nsa ia)= true) (hrb:zj (.mk 2 nb fb sb nsb ib)= true) {r:Res} (hres:r= .ok ia[j]):
  Calls Tryz.prog 69 #[.int .i64 19,.agg ⟨ca⟩,.agg ⟨cb⟩] w (UnPost P r w):=by
 have HV:=I hv
 have HV2:=I hv2
 have HVW:=I hv.val
 have HVW2:=I hv2.val
 have HRA:=I hra
 have HRB:=I hrb
 have HRES:=I hres
 have HON1:=I (zi hv.val).2
 have HON2:=I (zi hv2.val).2
 obtain⟨vna,via,rfl,hkw,hnw,hfw,hsw,hns,hil,hi⟩:=ValAt.inv hv
 obtain⟨hnl,NA1,na2,rfl,hnA⟩:=hns
 have hi0:=hi
 obtain⟨hil2,A,c,rfl,hA⟩:=hi
 obtain⟨vnb,vib,rfl,hkw2,hnw2,hfw2,hsw2,hns2,hil3,hi2⟩:=ValAt.inv hv2
 obtain⟨hnl2,NB1,nb2,rfl,hnB⟩:=hns2
 have hi20:=hi2
 obtain⟨hil4,B,c2,rfl,hB⟩:=hi2
 have HWF:=I (And.intro hnw (And.intro hfw (And.intro hnw2 hfw2)))
 have HIT:=I hi0
 have HIT2:=I hi20
 clear hkw hnw hfw hsw hnl hnA hil hil2 hA hkw2 hnw2 hfw2 hsw2 hnl2 hnB hil3 hil4 hB hv hv2 hra hrb hres hi0 hi20
 go_enter Tryz.func69,Tryz.ntmps69
 go_upto_region 1 with (fail)
 have HST:=I (z0c w [.int .i64 5,.int .i64 na,.float .f64 fa,.string sa,.slice NA1 nsa.length na2,.slice A ia.length c] [.int .i64 2,.int .i64 nb,.float .f64 fb,.string sb,.slice NB1 nsb.length nb2,.slice B ib.length c2])
 rw[zv]
 generalize ((w.alloc (.cells ⟨[.int .i64 5,.int .i64 na,.float .f64 fa,.string sa,.slice NA1 nsa.length na2,.slice A ia.length c]⟩ 26)).alloc (.cells ⟨[.int .i64 2,.int .i64 nb,.float .f64 fb,.string sb,.slice NB1 nsb.length nb2,.slice B ib.length c2]⟩ 26)).alloc (.cells zV6.toArray 26)= W at*
 have d0:W.cell? ⟨w.heap.size,0,none⟩= some (.int .i64 5):=HST.out.wa.cells 0 rfl
 have c0:W.cell? ⟨w.heap.size+1,0,none⟩= some (.int .i64 2):=HST.out.wb.cells 0 rfl
 have hnb:=hnb.out
 subst hnb
 have n1:W.cell? ⟨w.heap.size+1,1,none⟩= some (.int .i64 (j:Int)):=HST.out.wb.cells 1 rfl
 have n5:W.cell? ⟨w.heap.size,5,none⟩= some (.slice A ia.length c):=HST.out.wa.cells 5 rfl
 have hj2:(j:Int) <(ia.length:Int):=by omega
 have hj0:(0:Int)<=(j:Int):=by omega
 obtain⟨-,A2,c3,he2,hA⟩:=HIT.out
 simp only[Value.slice.injEq] at he2
 obtain⟨rfl, -,rfl⟩:=he2
 obtain⟨b,ob,rfl,hbb,hc⟩:=hA (by omega)
 obtain⟨ks,hkl,hkr,hkv⟩:=hc j _ (List.getElem?_eq_getElem hj)
 have HKV:Hid (Kept P w ks ia[j]):=I hkv
 have HKL:=I hkl
 have HKR:Hid (W.rangeAt b (ob+j*6) ks):=I (zd (z0m hkr fun a v h=>(zQ.1 h).2) HST.out.bel hbb)
 have HON:=I (zi HKV.out.val).2
 have HRW:=I HST.out.wr
 clear hc hkl hkr hkv hA hbb
 go_wp2_with (first|(go_at_call 36;refine(zp 6 _).mono ?_;rintro e z ⟨rfl,hzw⟩;rw[hzw];clear hzw z)|(go_at_call 36;refine(zp 9 _).mono ?_;rintro e z ⟨rfl,hzw⟩;rw[hzw];clear hzw z)|((with_reducible refine zc 26 _ rfl ?hwl b (ob+j*6) ks _ rfl HKR.out Tryz.underlying26 rfl ?hil ?_);(case hwl=>(exact wantA rfl));(case hil=>rw[HKL.out];kernel_rfl))|((with_reducible refine zh 26 _ _ rfl rfl ?hw (w.heap.size+2) zV6 (ks) HRW.out ?h5 ?h6 ?h7 ?h8 ?h9 ?_);(case hw=>(exact wantA rfl));(case h5=>rw[HKL.out];rfl);(case h6=>rfl);(case h7=>rfl);(case h8=>rw[HKL.out];kernel_rfl);(case h9=>exact HON.out);intro Z2 hz hb;have HX:=I hz;have HXB:=I hb;clear hz hb))
 (try simp only[Exit.inBlock,Exit.then])
 refine bodyPost_ret (zl rfl Tryz.underlying26 rfl _ _ (w.heap.size+2) (ks) (by rw[HKL.out];kernel_rfl) rfl HX.out.range) rfl ?_
 have hbel:=BB.fin HST.out HXB.out
 exact .ok HRES.out rfl (HKV.out.grow hbel) hbel
theorem zcU (na nb:Int) (fa fb:Nat) (sa sb:ByteArray) (nsa nsb:List ByteArray) (ia ib:List VT) (ca cb:List Value) (w:World) (k ka kb:Int) (h0:(k ==19)= false) (h1:(ka ==kb)= false) (hv:Kept P w ca (.mk ka na fa sa nsa ia)) (hv2:Kept P w cb (.mk kb nb fb sb nsb ib)) (hra:zj (.mk ka na fa sa nsa ia)= true) (hrb:zj (.mk kb nb fb sb nsb ib)= true) {r:Res} (hres:r= .error 6):
  Calls Tryz.prog 69 #[.int .i64 k,.agg ⟨ca⟩,.agg ⟨cb⟩] w (UnPost P r w):=by
 have HV:=I hv
 have HV2:=I hv2
 have HVW:=I hv.val
 have HVW2:=I hv2.val
 have HRA:=I hra
 have HRB:=I hrb
 have HRES:=I hres
 have HON1:=I (zi hv.val).2
 have HON2:=I (zi hv2.val).2
 obtain⟨vna,via,rfl,hkw,hnw,hfw,hsw,hns,hil,hi⟩:=ValAt.inv hv
 obtain⟨hnl,NA1,na2,rfl,hnA⟩:=hns
 have hi0:=hi
 obtain⟨hil2,A,c,rfl,hA⟩:=hi
 obtain⟨vnb,vib,rfl,hkw2,hnw2,hfw2,hsw2,hns2,hil3,hi2⟩:=ValAt.inv hv2
 obtain⟨hnl2,NB1,nb2,rfl,hnB⟩:=hns2
 have hi20:=hi2
 obtain⟨hil4,B,c2,rfl,hB⟩:=hi2
 have HWF:=I (And.intro hnw (And.intro hfw (And.intro hnw2 hfw2)))
 have HIT:=I hi0
 have HIT2:=I hi20
 clear hkw hnw hfw hsw hnl hnA hil hil2 hA hkw2 hnw2 hfw2 hsw2 hnl2 hnB hil3 hil4 hB hv hv2 hra hrb hres hi0 hi20
 go_enter Tryz.func69,Tryz.ntmps69
 go_upto_region 1 with (fail)
 have HST:=I (z0c w [.int .i64 ka,.int .i64 na,.float .f64 fa,.string sa,.slice NA1 nsa.length na2,.slice A ia.length c] [.int .i64 kb,.int .i64 nb,.float .f64 fb,.string sb,.slice NB1 nsb.length nb2,.slice B ib.length c2])
 rw[zv]
 generalize ((w.alloc (.cells ⟨[.int .i64 ka,.int .i64 na,.float .f64 fa,.string sa,.slice NA1 nsa.length na2,.slice A ia.length c]⟩ 26)).alloc (.cells ⟨[.int .i64 kb,.int .i64 nb,.float .f64 fb,.string sb,.slice NB1 nsb.length nb2,.slice B ib.length c2]⟩ 26)).alloc (.cells zV6.toArray 26)= W at*
 have d0:W.cell? ⟨w.heap.size,0,none⟩= some (.int .i64 ka):=HST.out.wa.cells 0 rfl
 have c0:W.cell? ⟨w.heap.size+1,0,none⟩= some (.int .i64 kb):=HST.out.wb.cells 0 rfl
 go_wp2_with ((go_at_call 36;refine(zB 6 _).mono ?_;rintro e z ⟨rfl,hzw⟩;rw[hzw];clear hzw z))
 exact⟨rfl,.no HRES.out rfl HST.out.bel⟩
theorem bi_eq (na nb:Int) (fa fb:Nat) (sa sb:ByteArray) (nsa nsb:List ByteArray) (ia ib:List VT) (ca cb:List Value) (w:World) (ka:Int) (hv:Kept P w ca (.mk ka na fa sa nsa ia)) (hv2:Kept P w cb (.mk ka nb fb sb nsb ib)) (hra:zj (.mk ka na fa sa nsa ia)= true) (hrb:zj (.mk ka nb fb sb nsb ib)= true) {r:Res} (hres:r= .ok (vB (eqV (.mk ka na fa sa nsa ia) (.mk ka nb fb sb nsb ib)))):
  Calls Tryz.prog 69 #[.int .i64 10,.agg ⟨ca⟩,.agg ⟨cb⟩] w (UnPost P r w):=by
 have HV:=I hv
 have HV2:=I hv2
 have HVW:=I hv.val
 have HVW2:=I hv2.val
 have HRA:=I hra
 have HRB:=I hrb
 have HRES:=I hres
 have HON1:=I (zi hv.val).2
 have HON2:=I (zi hv2.val).2
 obtain⟨vna,via,rfl,hkw,hnw,hfw,hsw,hns,hil,hi⟩:=ValAt.inv hv
 obtain⟨hnl,NA1,na2,rfl,hnA⟩:=hns
 have hi0:=hi
 obtain⟨hil2,A,c,rfl,hA⟩:=hi
 obtain⟨vnb,vib,rfl,hkw2,hnw2,hfw2,hsw2,hns2,hil3,hi2⟩:=ValAt.inv hv2
 obtain⟨hnl2,NB1,nb2,rfl,hnB⟩:=hns2
 have hi20:=hi2
 obtain⟨hil4,B,c2,rfl,hB⟩:=hi2
 have HWF:=I (And.intro hnw (And.intro hfw (And.intro hnw2 hfw2)))
 have HIT:=I hi0
 have HIT2:=I hi20
 clear hkw hnw hfw hsw hnl hnA hil hil2 hA hkw2 hnw2 hfw2 hsw2 hnl2 hnB hil3 hil4 hB hv hv2 hra hrb hres hi0 hi20
 go_enter Tryz.func69,Tryz.ntmps69
 go_upto_region 1 with (fail)
 have HST:=I (z0c w [.int .i64 ka,.int .i64 na,.float .f64 fa,.string sa,.slice NA1 nsa.length na2,.slice A ia.length c] [.int .i64 ka,.int .i64 nb,.float .f64 fb,.string sb,.slice NB1 nsb.length nb2,.slice B ib.length c2])
 rw[zv]
 generalize ((w.alloc (.cells ⟨[.int .i64 ka,.int .i64 na,.float .f64 fa,.string sa,.slice NA1 nsa.length na2,.slice A ia.length c]⟩ 26)).alloc (.cells ⟨[.int .i64 ka,.int .i64 nb,.float .f64 fb,.string sb,.slice NB1 nsb.length nb2,.slice B ib.length c2]⟩ 26)).alloc (.cells zV6.toArray 26)= W at*
 have d0:W.cell? ⟨w.heap.size,0,none⟩= some (.int .i64 ka):=HST.out.wa.cells 0 rfl
 have c0:W.cell? ⟨w.heap.size+1,0,none⟩= some (.int .i64 ka):=HST.out.wb.cells 0 rfl
 have HVE:=I (zew _ _ _ _ W ((HVW.out.under HST.out.bel).more HST.out.bel.size) ((HVW2.out.under HST.out.bel).more HST.out.bel.size))
 obtain⟨x,hx⟩:∃ x,eqV (.mk ka na fa sa nsa ia) (.mk ka nb fb sb nsb ib)= x:=⟨_,rfl⟩
 rw[hx] at HVE HRES
 clear hx
 go_wp2_with (first|(go_at_call 36;refine(zp 6 _).mono ?_;rintro e z ⟨rfl,hzw⟩;rw[hzw];clear hzw z)|((with_reducible refine zc 26 _ rfl ?hwa w.heap.size 0 [.int .i64 ka,.int .i64 na,.float .f64 fa,.string sa,.slice NA1 nsa.length na2,.slice A ia.length c] _ rfl HST.out.wa.range Tryz.underlying26 rfl ?hia ?_);(case hwa=>(exact wantA rfl));(case hia=>kernel_rfl))|((with_reducible refine zc 26 _ rfl ?hwb (w.heap.size+1) 0 [.int .i64 ka,.int .i64 nb,.float .f64 fb,.string sb,.slice NB1 nsb.length nb2,.slice B ib.length c2] _ rfl HST.out.wb.range Tryz.underlying26 rfl ?hib ?_);(case hwb=>(exact wantA rfl));(case hib=>kernel_rfl))|(go_at_call 120;refine HVE.out.mono ?_;rintro e z ⟨rfl,hb⟩;have HS1:=I (HST.out.next hb);clear hb)|(go_at_call 65;refine(z0Y x _).mono ?_;rintro e z ⟨rfl,hb⟩;have HSZ:=I (BB.next HS1.out hb);have HRZ:=I HSZ.out.wr;clear hb)|((with_reducible refine zh 26 _ _ rfl rfl ?hw (w.heap.size+2) zV6 (tC x) HRZ.out ?h5 ?h6 ?h7 ?h8 ?h9 ?_);(case hw=>(exact wantA rfl));(case h5=>rfl);(case h6=>rfl);(case h7=>rfl);(case h8=>kernel_rfl);(case h9=>exact z1N x);intro Z2 hz hb;have HX:=I hz;have HXB:=I hb;clear hz hb))
 (try simp only[Exit.inBlock,Exit.then])
 refine bodyPost_ret (zl rfl Tryz.underlying26 rfl _ _ (w.heap.size+2) (tC x) (by kernel_rfl) rfl HX.out.range) rfl ?_
 have hbel:=BB.fin HSZ.out HXB.out
 exact .ok HRES.out rfl (z1f _ _ x) hbel
theorem zbH (na nb:Int) (fa fb:Nat) (sa sb:ByteArray) (nsa nsb:List ByteArray) (ia ib:List VT) (ca cb:List Value) (w:World) (ka:Int) (hv:Kept P w ca (.mk ka na fa sa nsa ia)) (hv2:Kept P w cb (.mk ka nb fb sb nsb ib)) (hra:zj (.mk ka na fa sa nsa ia)= true) (hrb:zj (.mk ka nb fb sb nsb ib)= true) {r:Res} (hres:r=(lessZ false (.mk ka na fa sa nsa ia) (.mk ka nb fb sb nsb ib)).map vB):
  Calls Tryz.prog 69 #[.int .i64 11,.agg ⟨ca⟩,.agg ⟨cb⟩] w (UnPost P r w):=by
 have HV:=I hv
 have HV2:=I hv2
 have HVW:=I hv.val
 have HVW2:=I hv2.val
 have HRA:=I hra
 have HRB:=I hrb
 have HRES:=I hres
 have HON1:=I (zi hv.val).2
 have HON2:=I (zi hv2.val).2
 obtain⟨vna,via,rfl,hkw,hnw,hfw,hsw,hns,hil,hi⟩:=ValAt.inv hv
 obtain⟨hnl,NA1,na2,rfl,hnA⟩:=hns
 have hi0:=hi
 obtain⟨hil2,A,c,rfl,hA⟩:=hi
 obtain⟨vnb,vib,rfl,hkw2,hnw2,hfw2,hsw2,hns2,hil3,hi2⟩:=ValAt.inv hv2
 obtain⟨hnl2,NB1,nb2,rfl,hnB⟩:=hns2
 have hi20:=hi2
 obtain⟨hil4,B,c2,rfl,hB⟩:=hi2
 have HWF:=I (And.intro hnw (And.intro hfw (And.intro hnw2 hfw2)))
 have HIT:=I hi0
 have HIT2:=I hi20
 clear hkw hnw hfw hsw hnl hnA hil hil2 hA hkw2 hnw2 hfw2 hsw2 hnl2 hnB hil3 hil4 hB hv hv2 hra hrb hres hi0 hi20
 go_enter Tryz.func69,Tryz.ntmps69
 go_upto_region 1 with (fail)
 have HST:=I (z0c w [.int .i64 ka,.int .i64 na,.float .f64 fa,.string sa,.slice NA1 nsa.length na2,.slice A ia.length c] [.int .i64 ka,.int .i64 nb,.float .f64 fb,.string sb,.slice NB1 nsb.length nb2,.slice B ib.length c2])
 rw[zv]
 generalize ((w.alloc (.cells ⟨[.int .i64 ka,.int .i64 na,.float .f64 fa,.string sa,.slice NA1 nsa.length na2,.slice A ia.length c]⟩ 26)).alloc (.cells ⟨[.int .i64 ka,.int .i64 nb,.float .f64 fb,.string sb,.slice NB1 nsb.length nb2,.slice B ib.length c2]⟩ 26)).alloc (.cells zV6.toArray 26)= W at*
 have d0:W.cell? ⟨w.heap.size,0,none⟩= some (.int .i64 ka):=HST.out.wa.cells 0 rfl
 have c0:W.cell? ⟨w.heap.size+1,0,none⟩= some (.int .i64 ka):=HST.out.wb.cells 0 rfl
 have HVE:=I (z7C false ka na nb fa fb sa sb nsa nsb ia ib _ _ W ((HVW.out.under HST.out.bel).more HST.out.bel.size) ((HVW2.out.under HST.out.bel).more HST.out.bel.size))
 generalize lessZ false (.mk ka na fa sa nsa ia) (.mk ka nb fb sb nsb ib)= res at*
 go_wp2_with (first|(go_at_call 36;refine(zp 6 _).mono ?_;rintro e z ⟨rfl,hzw⟩;rw[hzw];clear hzw z)|((with_reducible refine zc 26 _ rfl ?hwa w.heap.size 0 [.int .i64 ka,.int .i64 na,.float .f64 fa,.string sa,.slice NA1 nsa.length na2,.slice A ia.length c] _ rfl HST.out.wa.range Tryz.underlying26 rfl ?hia ?_);(case hwa=>(exact wantA rfl));(case hia=>kernel_rfl))|((with_reducible refine zc 26 _ rfl ?hwb (w.heap.size+1) 0 [.int .i64 ka,.int .i64 nb,.float .f64 fb,.string sb,.slice NB1 nsb.length nb2,.slice B ib.length c2] _ rfl HST.out.wb.range Tryz.underlying26 rfl ?hib ?_);(case hwb=>(exact wantA rfl));(case hib=>kernel_rfl))|(go_at_call 121;fail))
 refine HVE.out.mono ?_
 rintro e z ⟨⟨x,rfl,rfl⟩|⟨n,rfl,rfl⟩,hb⟩
 ·have HS1:=I (HST.out.next hb)
  have HRE2:Hid (r= .ok (vB x)):=I HRES.out
  clear hb
  go_wp2_with (first|(go_at_call 65;refine(z0Y x _).mono ?_;rintro e z ⟨rfl,hb⟩;have HSZ:=I (BB.next HS1.out hb);have HRZ:=I HSZ.out.wr;clear hb)|((with_reducible refine zh 26 _ _ rfl rfl ?hw (w.heap.size+2) zV6 (tC x) HRZ.out ?h5 ?h6 ?h7 ?h8 ?h9 ?_);(case hw=>(exact wantA rfl));(case h5=>rfl);(case h6=>rfl);(case h7=>rfl);(case h8=>kernel_rfl);(case h9=>exact z1N x);intro Z2 hz hb;have HX:=I hz;have HXB:=I hb;clear hz hb))
  (try simp only[Exit.inBlock,Exit.then])
  refine bodyPost_ret (zl rfl Tryz.underlying26 rfl _ _ (w.heap.size+2) (tC x) (by kernel_rfl) rfl HX.out.range) rfl ?_
  have hbel:=BB.fin HSZ.out HXB.out
  exact .ok HRE2.out rfl (z1f _ _ x) hbel
 ·have HS1:=I (HST.out.next hb)
  have HRE2:Hid (r= .error n):=I HRES.out
  clear hb
  go_wp2
  exact⟨rfl,.no HRE2.out rfl HS1.out.bel⟩
theorem zbz (na nb:Int) (fa fb:Nat) (sa sb:ByteArray) (nsa nsb:List ByteArray) (ia ib:List VT) (ca cb:List Value) (w:World) (ka:Int) (hv:Kept P w ca (.mk ka na fa sa nsa ia)) (hv2:Kept P w cb (.mk ka nb fb sb nsb ib)) (hra:zj (.mk ka na fa sa nsa ia)= true) (hrb:zj (.mk ka nb fb sb nsb ib)= true) {r:Res} (hres:r=(lessZ true (.mk ka na fa sa nsa ia) (.mk ka nb fb sb nsb ib)).map vB):
  Calls Tryz.prog 69 #[.int .i64 12,.agg ⟨ca⟩,.agg ⟨cb⟩] w (UnPost P r w):=by
 have HV:=I hv
 have HV2:=I hv2
 have HVW:=I hv.val
 have HVW2:=I hv2.val
 have HRA:=I hra
 have HRB:=I hrb
 have HRES:=I hres
 have HON1:=I (zi hv.val).2
 have HON2:=I (zi hv2.val).2
 obtain⟨vna,via,rfl,hkw,hnw,hfw,hsw,hns,hil,hi⟩:=ValAt.inv hv
 obtain⟨hnl,NA1,na2,rfl,hnA⟩:=hns
 have hi0:=hi
 obtain⟨hil2,A,c,rfl,hA⟩:=hi
 obtain⟨vnb,vib,rfl,hkw2,hnw2,hfw2,hsw2,hns2,hil3,hi2⟩:=ValAt.inv hv2
 obtain⟨hnl2,NB1,nb2,rfl,hnB⟩:=hns2
 have hi20:=hi2
 obtain⟨hil4,B,c2,rfl,hB⟩:=hi2
 have HWF:=I (And.intro hnw (And.intro hfw (And.intro hnw2 hfw2)))
 have HIT:=I hi0
 have HIT2:=I hi20
 clear hkw hnw hfw hsw hnl hnA hil hil2 hA hkw2 hnw2 hfw2 hsw2 hnl2 hnB hil3 hil4 hB hv hv2 hra hrb hres hi0 hi20
 go_enter Tryz.func69,Tryz.ntmps69
 go_upto_region 1 with (fail)
 have HST:=I (z0c w [.int .i64 ka,.int .i64 na,.float .f64 fa,.string sa,.slice NA1 nsa.length na2,.slice A ia.length c] [.int .i64 ka,.int .i64 nb,.float .f64 fb,.string sb,.slice NB1 nsb.length nb2,.slice B ib.length c2])
 rw[zv]
 generalize ((w.alloc (.cells ⟨[.int .i64 ka,.int .i64 na,.float .f64 fa,.string sa,.slice NA1 nsa.length na2,.slice A ia.length c]⟩ 26)).alloc (.cells ⟨[.int .i64 ka,.int .i64 nb,.float .f64 fb,.string sb,.slice NB1 nsb.length nb2,.slice B ib.length c2]⟩ 26)).alloc (.cells zV6.toArray 26)= W at*
 have d0:W.cell? ⟨w.heap.size,0,none⟩= some (.int .i64 ka):=HST.out.wa.cells 0 rfl
 have c0:W.cell? ⟨w.heap.size+1,0,none⟩= some (.int .i64 ka):=HST.out.wb.cells 0 rfl
 have HVE:=I (z7C true ka na nb fa fb sa sb nsa nsb ia ib _ _ W ((HVW.out.under HST.out.bel).more HST.out.bel.size) ((HVW2.out.under HST.out.bel).more HST.out.bel.size))
 generalize lessZ true (.mk ka na fa sa nsa ia) (.mk ka nb fb sb nsb ib)= res at*
 go_wp2_with (first|(go_at_call 36;refine(zp 6 _).mono ?_;rintro e z ⟨rfl,hzw⟩;rw[hzw];clear hzw z)|((with_reducible refine zc 26 _ rfl ?hwa w.heap.size 0 [.int .i64 ka,.int .i64 na,.float .f64 fa,.string sa,.slice NA1 nsa.length na2,.slice A ia.length c] _ rfl HST.out.wa.range Tryz.underlying26 rfl ?hia ?_);(case hwa=>(exact wantA rfl));(case hia=>kernel_rfl))|((with_reducible refine zc 26 _ rfl ?hwb (w.heap.size+1) 0 [.int .i64 ka,.int .i64 nb,.float .f64 fb,.string sb,.slice NB1 nsb.length nb2,.slice B ib.length c2] _ rfl HST.out.wb.range Tryz.underlying26 rfl ?hib ?_);(case hwb=>(exact wantA rfl));(case hib=>kernel_rfl))|(go_at_call 121;fail))
 refine HVE.out.mono ?_
 rintro e z ⟨⟨x,rfl,rfl⟩|⟨n,rfl,rfl⟩,hb⟩
 ·have HS1:=I (HST.out.next hb)
  have HRE2:Hid (r= .ok (vB x)):=I HRES.out
  clear hb
  go_wp2_with (first|(go_at_call 65;refine(z0Y x _).mono ?_;rintro e z ⟨rfl,hb⟩;have HSZ:=I (BB.next HS1.out hb);have HRZ:=I HSZ.out.wr;clear hb)|((with_reducible refine zh 26 _ _ rfl rfl ?hw (w.heap.size+2) zV6 (tC x) HRZ.out ?h5 ?h6 ?h7 ?h8 ?h9 ?_);(case hw=>(exact wantA rfl));(case h5=>rfl);(case h6=>rfl);(case h7=>rfl);(case h8=>kernel_rfl);(case h9=>exact z1N x);intro Z2 hz hb;have HX:=I hz;have HXB:=I hb;clear hz hb))
  (try simp only[Exit.inBlock,Exit.then])
  refine bodyPost_ret (zl rfl Tryz.underlying26 rfl _ _ (w.heap.size+2) (tC x) (by kernel_rfl) rfl HX.out.range) rfl ?_
  have hbel:=BB.fin HSZ.out HXB.out
  exact .ok HRE2.out rfl (z1f _ _ x) hbel
 ·have HS1:=I (HST.out.next hb)
  have HRE2:Hid (r= .error n):=I HRES.out
  clear hb
  go_wp2
  exact⟨rfl,.no HRE2.out rfl HS1.out.bel⟩
theorem zek (na nb:Int) (fa fb:Nat) (sa sb:ByteArray) (nsa nsb:List ByteArray) (ia ib:List VT) (ca cb:List Value) (w:World) (k:Int) (h19:(k ==19)= false) (h10:(k ==10)= false) (h11:(k ==11)= false) (h12:(k ==12)= false) (hv:Kept P w ca (.mk 2 na fa sa nsa ia)) (hv2:Kept P w cb (.mk 2 nb fb sb nsb ib)) (hra:zj (.mk 2 na fa sa nsa ia)= true) (hrb:zj (.mk 2 nb fb sb nsb ib)= true) {r:Res} (hres:r=(z2p k na nb).map vI):
  Calls Tryz.prog 69 #[.int .i64 k,.agg ⟨ca⟩,.agg ⟨cb⟩] w (UnPost P r w):=by
 have HV:=I hv
 have HV2:=I hv2
 have HVW:=I hv.val
 have HVW2:=I hv2.val
 have HRA:=I hra
 have HRB:=I hrb
 have HRES:=I hres
 have HON1:=I (zi hv.val).2
 have HON2:=I (zi hv2.val).2
 obtain⟨vna,via,rfl,hkw,hnw,hfw,hsw,hns,hil,hi⟩:=ValAt.inv hv
 obtain⟨hnl,NA1,na2,rfl,hnA⟩:=hns
 have hi0:=hi
 obtain⟨hil2,A,c,rfl,hA⟩:=hi
 obtain⟨vnb,vib,rfl,hkw2,hnw2,hfw2,hsw2,hns2,hil3,hi2⟩:=ValAt.inv hv2
 obtain⟨hnl2,NB1,nb2,rfl,hnB⟩:=hns2
 have hi20:=hi2
 obtain⟨hil4,B,c2,rfl,hB⟩:=hi2
 have HWF:=I (And.intro hnw (And.intro hfw (And.intro hnw2 hfw2)))
 have HIT:=I hi0
 have HIT2:=I hi20
 clear hkw hnw hfw hsw hnl hnA hil hil2 hA hkw2 hnw2 hfw2 hsw2 hnl2 hnB hil3 hil4 hB hv hv2 hra hrb hres hi0 hi20
 go_enter Tryz.func69,Tryz.ntmps69
 go_upto_region 1 with (fail)
 have HST:=I (z0c w [.int .i64 2,.int .i64 na,.float .f64 fa,.string sa,.slice NA1 nsa.length na2,.slice A ia.length c] [.int .i64 2,.int .i64 nb,.float .f64 fb,.string sb,.slice NB1 nsb.length nb2,.slice B ib.length c2])
 rw[zv]
 generalize ((w.alloc (.cells ⟨[.int .i64 2,.int .i64 na,.float .f64 fa,.string sa,.slice NA1 nsa.length na2,.slice A ia.length c]⟩ 26)).alloc (.cells ⟨[.int .i64 2,.int .i64 nb,.float .f64 fb,.string sb,.slice NB1 nsb.length nb2,.slice B ib.length c2]⟩ 26)).alloc (.cells zV6.toArray 26)= W at*
 have d0:W.cell? ⟨w.heap.size,0,none⟩= some (.int .i64 2):=HST.out.wa.cells 0 rfl
 have c0:W.cell? ⟨w.heap.size+1,0,none⟩= some (.int .i64 2):=HST.out.wb.cells 0 rfl
 have n1:W.cell? ⟨w.heap.size+1,1,none⟩= some (.int .i64 nb):=HST.out.wb.cells 1 rfl
 have n2:W.cell? ⟨w.heap.size,1,none⟩= some (.int .i64 na):=HST.out.wa.cells 1 rfl
 have HWH:=I (zaT k na nb (z44.1 HWF.out.1) (z44.1 HWF.out.2.2.1) W)
 have HWR:=I (fun n=>zaL (k:=k) (a:=na) (b:=nb) (n:=n) (z44.1 HWF.out.1))
 generalize z2p k na nb= res at*
 go_wp2_with (first|(go_at_call 36;refine(zp 6 _).mono ?_;rintro e z ⟨rfl,hzw⟩;rw[hzw];clear hzw z)|(go_at_call 122;fail))
 refine HWH.out.mono ?_
 rintro e z ⟨⟨x,rfl,rfl⟩|⟨n,rfl,rfl⟩,hzw⟩
 ·rw[hzw]
  clear hzw z
  have HRE2:Hid (r= .ok (vI x)):=I HRES.out
  have HWX:=I (z44.2 (HWR.out x rfl))
  go_wp2_with (first|(go_at_call 116;refine(z1i x _).mono ?_;rintro e z ⟨rfl,hb⟩;have HSZ:=I (BB.next HST.out hb);have HRZ:=I HSZ.out.wr;clear hb)|((with_reducible refine zh 26 _ _ rfl rfl ?hw (w.heap.size+2) zV6 (valC 2 x 0 ⟨#[]⟩) HRZ.out ?h5 ?h6 ?h7 ?h8 ?h9 ?_);(case hw=>(exact wantA rfl));(case h5=>rfl);(case h6=>rfl);(case h7=>rfl);(case h8=>kernel_rfl);(case h9=>exact z02 _ _ _ _);intro Z2 hz hb;have HX:=I hz;have HXB:=I hb;clear hz hb))
  (try simp only[Exit.inBlock,Exit.then])
  refine bodyPost_ret (zl rfl Tryz.underlying26 rfl _ _ (w.heap.size+2) (valC 2 x 0 ⟨#[]⟩) (by kernel_rfl) rfl HX.out.range) rfl ?_
  have hbel:=BB.fin HSZ.out HXB.out
  exact .ok HRE2.out rfl (z2h _ _ x HWX.out) hbel
 ·rw[hzw]
  clear hzw z
  have HRE2:Hid (r= .error n):=I HRES.out
  go_wp2
  exact⟨rfl,.no HRE2.out rfl HST.out.bel⟩
theorem zep (na nb:Int) (fa fb:Nat) (sa sb:ByteArray) (nsa nsb:List ByteArray) (ia ib:List VT) (ca cb:List Value) (w:World) (k:Int) (h19:(k ==19)= false) (h10:(k ==10)= false) (h11:(k ==11)= false) (h12:(k ==12)= false) (hv:Kept P w ca (.mk 3 na fa sa nsa ia)) (hv2:Kept P w cb (.mk 3 nb fb sb nsb ib)) (hra:zj (.mk 3 na fa sa nsa ia)= true) (hrb:zj (.mk 3 nb fb sb nsb ib)= true) {r:Res} (hres:r=(z1u k fa fb).map vF):
  Calls Tryz.prog 69 #[.int .i64 k,.agg ⟨ca⟩,.agg ⟨cb⟩] w (UnPost P r w):=by
 have HV:=I hv
 have HV2:=I hv2
 have HVW:=I hv.val
 have HVW2:=I hv2.val
 have HRA:=I hra
 have HRB:=I hrb
 have HRES:=I hres
 have HON1:=I (zi hv.val).2
 have HON2:=I (zi hv2.val).2
 obtain⟨vna,via,rfl,hkw,hnw,hfw,hsw,hns,hil,hi⟩:=ValAt.inv hv
 obtain⟨hnl,NA1,na2,rfl,hnA⟩:=hns
 have hi0:=hi
 obtain⟨hil2,A,c,rfl,hA⟩:=hi
 obtain⟨vnb,vib,rfl,hkw2,hnw2,hfw2,hsw2,hns2,hil3,hi2⟩:=ValAt.inv hv2
 obtain⟨hnl2,NB1,nb2,rfl,hnB⟩:=hns2
 have hi20:=hi2
 obtain⟨hil4,B,c2,rfl,hB⟩:=hi2
 have HWF:=I (And.intro hnw (And.intro hfw (And.intro hnw2 hfw2)))
 have HIT:=I hi0
 have HIT2:=I hi20
 clear hkw hnw hfw hsw hnl hnA hil hil2 hA hkw2 hnw2 hfw2 hsw2 hnl2 hnB hil3 hil4 hB hv hv2 hra hrb hres hi0 hi20
 go_enter Tryz.func69,Tryz.ntmps69
 go_upto_region 1 with (fail)
 have HST:=I (z0c w [.int .i64 3,.int .i64 na,.float .f64 fa,.string sa,.slice NA1 nsa.length na2,.slice A ia.length c] [.int .i64 3,.int .i64 nb,.float .f64 fb,.string sb,.slice NB1 nsb.length nb2,.slice B ib.length c2])
 rw[zv]
 generalize ((w.alloc (.cells ⟨[.int .i64 3,.int .i64 na,.float .f64 fa,.string sa,.slice NA1 nsa.length na2,.slice A ia.length c]⟩ 26)).alloc (.cells ⟨[.int .i64 3,.int .i64 nb,.float .f64 fb,.string sb,.slice NB1 nsb.length nb2,.slice B ib.length c2]⟩ 26)).alloc (.cells zV6.toArray 26)= W at*
 have d0:W.cell? ⟨w.heap.size,0,none⟩= some (.int .i64 3):=HST.out.wa.cells 0 rfl
 have c0:W.cell? ⟨w.heap.size+1,0,none⟩= some (.int .i64 3):=HST.out.wb.cells 0 rfl
 have n1:W.cell? ⟨w.heap.size+1,2,none⟩= some (.float .f64 fb):=HST.out.wb.cells 2 rfl
 have n2:W.cell? ⟨w.heap.size,2,none⟩= some (.float .f64 fa):=HST.out.wa.cells 2 rfl
 have HWH:=I (z9D k fa fb W)
 have HWR:=I (fun n=>z9i (k:=k) (a:=fa) (b:=fb) (n:=n))
 generalize z1u k fa fb= res at*
 go_wp2_with (first|(go_at_call 36;refine(zp 6 _).mono ?_;rintro e z ⟨rfl,hzw⟩;rw[hzw];clear hzw z)|(go_at_call 123;fail))
 refine HWH.out.mono ?_
 rintro e z ⟨⟨x,rfl,rfl⟩|⟨n,rfl,rfl⟩,hb⟩
 ·have HS1:=I (HST.out.next hb)
  have HRE2:Hid (r= .ok (vF (zm x))):=I (by rw[(HWR.out x rfl).1];exact HRES.out)
  have HWX:=I (HWR.out x rfl).2
  clear hb
  go_wp2_with (first|(go_at_call 113;refine(z7s x _).mono ?_;rintro e z ⟨rfl,hb⟩;have HSZ:=I (BB.next HS1.out hb);have HRZ:=I HSZ.out.wr;clear hb)|((with_reducible refine zh 26 _ _ rfl rfl ?hw (w.heap.size+2) zV6 (valC 3 0 (zm x) ⟨#[]⟩) HRZ.out ?h5 ?h6 ?h7 ?h8 ?h9 ?_);(case hw=>(exact wantA rfl));(case h5=>rfl);(case h6=>rfl);(case h7=>rfl);(case h8=>kernel_rfl);(case h9=>exact z02 _ _ _ _);intro Z2 hz hb;have HX:=I hz;have HXB:=I hb;clear hz hb))
  (try simp only[Exit.inBlock,Exit.then])
  refine bodyPost_ret (zl rfl Tryz.underlying26 rfl _ _ (w.heap.size+2) (valC 3 0 (zm x) ⟨#[]⟩) (by kernel_rfl) rfl HX.out.range) rfl ?_
  have hbel:=BB.fin HSZ.out HXB.out
  exact .ok HRE2.out rfl (z62 _ _ _ (z3f HWX.out)) hbel
 ·have HS1:=I (HST.out.next hb)
  have HRE2:Hid (r= .error n):=I HRES.out
  clear hb
  go_wp2
  exact⟨rfl,.no HRE2.out rfl HS1.out.bel⟩
theorem bi_no (na nb:Int) (fa fb:Nat) (sa sb:ByteArray) (nsa nsb:List ByteArray) (ia ib:List VT) (ca cb:List Value) (w:World) (k:Int) (h19:(k ==19)= false) (h10:(k ==10)= false) (h11:(k ==11)= false) (h12:(k ==12)= false) (ka:Int) (h2:(ka ==2)= false) (h3:(ka ==3)= false) (h5:(k ==5)= false) (hv:Kept P w ca (.mk ka na fa sa nsa ia)) (hv2:Kept P w cb (.mk ka nb fb sb nsb ib)) (hra:zj (.mk ka na fa sa nsa ia)= true) (hrb:zj (.mk ka nb fb sb nsb ib)= true) {r:Res} (hres:r= .error 6):
  Calls Tryz.prog 69 #[.int .i64 k,.agg ⟨ca⟩,.agg ⟨cb⟩] w (UnPost P r w):=by
 have HV:=I hv
 have HV2:=I hv2
 have HVW:=I hv.val
 have HVW2:=I hv2.val
 have HRA:=I hra
 have HRB:=I hrb
 have HRES:=I hres
 have HON1:=I (zi hv.val).2
 have HON2:=I (zi hv2.val).2
 obtain⟨vna,via,rfl,hkw,hnw,hfw,hsw,hns,hil,hi⟩:=ValAt.inv hv
 obtain⟨hnl,NA1,na2,rfl,hnA⟩:=hns
 have hi0:=hi
 obtain⟨hil2,A,c,rfl,hA⟩:=hi
 obtain⟨vnb,vib,rfl,hkw2,hnw2,hfw2,hsw2,hns2,hil3,hi2⟩:=ValAt.inv hv2
 obtain⟨hnl2,NB1,nb2,rfl,hnB⟩:=hns2
 have hi20:=hi2
 obtain⟨hil4,B,c2,rfl,hB⟩:=hi2
 have HWF:=I (And.intro hnw (And.intro hfw (And.intro hnw2 hfw2)))
 have HIT:=I hi0
 have HIT2:=I hi20
 clear hkw hnw hfw hsw hnl hnA hil hil2 hA hkw2 hnw2 hfw2 hsw2 hnl2 hnB hil3 hil4 hB hv hv2 hra hrb hres hi0 hi20
 go_enter Tryz.func69,Tryz.ntmps69
 go_upto_region 1 with (fail)
 have HST:=I (z0c w [.int .i64 ka,.int .i64 na,.float .f64 fa,.string sa,.slice NA1 nsa.length na2,.slice A ia.length c] [.int .i64 ka,.int .i64 nb,.float .f64 fb,.string sb,.slice NB1 nsb.length nb2,.slice B ib.length c2])
 rw[zv]
 generalize ((w.alloc (.cells ⟨[.int .i64 ka,.int .i64 na,.float .f64 fa,.string sa,.slice NA1 nsa.length na2,.slice A ia.length c]⟩ 26)).alloc (.cells ⟨[.int .i64 ka,.int .i64 nb,.float .f64 fb,.string sb,.slice NB1 nsb.length nb2,.slice B ib.length c2]⟩ 26)).alloc (.cells zV6.toArray 26)= W at*
 have d0:W.cell? ⟨w.heap.size,0,none⟩= some (.int .i64 ka):=HST.out.wa.cells 0 rfl
 have c0:W.cell? ⟨w.heap.size+1,0,none⟩= some (.int .i64 ka):=HST.out.wb.cells 0 rfl
 go_wp2_with (go_at_call 36;first|((with_reducible refine(zp 6 _).mono ?_);rintro e z ⟨rfl,hzw⟩;rw[hzw];clear hzw z)|((with_reducible refine(zB 6 _).mono ?_);rintro e z ⟨rfl,hzw⟩;rw[hzw];clear hzw z))
 exact⟨rfl,.no HRES.out rfl HST.out.bel⟩
theorem zev (na nb:Int) (fa fb:Nat) (sa sb:ByteArray) (nsa nsb:List ByteArray) (ia ib:List VT) (ca cb:List Value) (w:World) (ka:Int) (h2:(ka ==2)= false) (h3:(ka ==3)= false) (h4:(ka ==4)= false) (h5:(ka ==5)= false) (hv:Kept P w ca (.mk ka na fa sa nsa ia)) (hv2:Kept P w cb (.mk ka nb fb sb nsb ib)) (hra:zj (.mk ka na fa sa nsa ia)= true) (hrb:zj (.mk ka nb fb sb nsb ib)= true) {r:Res} (hres:r= .error 6):
  Calls Tryz.prog 69 #[.int .i64 5,.agg ⟨ca⟩,.agg ⟨cb⟩] w (UnPost P r w):=by
 have HV:=I hv
 have HV2:=I hv2
 have HVW:=I hv.val
 have HVW2:=I hv2.val
 have HRA:=I hra
 have HRB:=I hrb
 have HRES:=I hres
 have HON1:=I (zi hv.val).2
 have HON2:=I (zi hv2.val).2
 obtain⟨vna,via,rfl,hkw,hnw,hfw,hsw,hns,hil,hi⟩:=ValAt.inv hv
 obtain⟨hnl,NA1,na2,rfl,hnA⟩:=hns
 have hi0:=hi
 obtain⟨hil2,A,c,rfl,hA⟩:=hi
 obtain⟨vnb,vib,rfl,hkw2,hnw2,hfw2,hsw2,hns2,hil3,hi2⟩:=ValAt.inv hv2
 obtain⟨hnl2,NB1,nb2,rfl,hnB⟩:=hns2
 have hi20:=hi2
 obtain⟨hil4,B,c2,rfl,hB⟩:=hi2
 have HWF:=I (And.intro hnw (And.intro hfw (And.intro hnw2 hfw2)))
 have HIT:=I hi0
 have HIT2:=I hi20
 clear hkw hnw hfw hsw hnl hnA hil hil2 hA hkw2 hnw2 hfw2 hsw2 hnl2 hnB hil3 hil4 hB hv hv2 hra hrb hres hi0 hi20
 go_enter Tryz.func69,Tryz.ntmps69
 go_upto_region 1 with (fail)
 have HST:=I (z0c w [.int .i64 ka,.int .i64 na,.float .f64 fa,.string sa,.slice NA1 nsa.length na2,.slice A ia.length c] [.int .i64 ka,.int .i64 nb,.float .f64 fb,.string sb,.slice NB1 nsb.length nb2,.slice B ib.length c2])
 rw[zv]
 generalize ((w.alloc (.cells ⟨[.int .i64 ka,.int .i64 na,.float .f64 fa,.string sa,.slice NA1 nsa.length na2,.slice A ia.length c]⟩ 26)).alloc (.cells ⟨[.int .i64 ka,.int .i64 nb,.float .f64 fb,.string sb,.slice NB1 nsb.length nb2,.slice B ib.length c2]⟩ 26)).alloc (.cells zV6.toArray 26)= W at*
 have d0:W.cell? ⟨w.heap.size,0,none⟩= some (.int .i64 ka):=HST.out.wa.cells 0 rfl
 have c0:W.cell? ⟨w.heap.size+1,0,none⟩= some (.int .i64 ka):=HST.out.wb.cells 0 rfl
 go_wp2_with (go_at_call 36;first|((with_reducible refine(zp 6 _).mono ?_);rintro e z ⟨rfl,hzw⟩;rw[hzw];clear hzw z)|((with_reducible refine(zB 6 _).mono ?_);rintro e z ⟨rfl,hzw⟩;rw[hzw];clear hzw z))
 exact⟨rfl,.no HRES.out rfl HST.out.bel⟩
theorem zdk (na nb:Int) (fa fb:Nat) (sa sb:ByteArray) (nsa nsb:List ByteArray) (ia ib:List VT) (ca cb:List Value) (w:World) (hv:Kept P w ca (.mk 4 na fa sa nsa ia)) (hv2:Kept P w cb (.mk 4 nb fb sb nsb ib)) (hra:zj (.mk 4 na fa sa nsa ia)= true) (hrb:zj (.mk 4 nb fb sb nsb ib)= true) {r:Res} (hres:r= szd (.mk 4 0 0 (sa ++ sb) [] (ia ++ ib))):
  Calls Tryz.prog 69 #[.int .i64 5,.agg ⟨ca⟩,.agg ⟨cb⟩] w (UnPost P r w):=by
 have HV:=I hv
 have HV2:=I hv2
 have HVW:=I hv.val
 have HVW2:=I hv2.val
 have HRA:=I hra
 have HRB:=I hrb
 have HRES:=I hres
 have HON1:=I (zi hv.val).2
 have HON2:=I (zi hv2.val).2
 obtain⟨vna,via,rfl,hkw,hnw,hfw,hsw,hns,hil,hi⟩:=ValAt.inv hv
 obtain⟨hnl,NA1,na2,rfl,hnA⟩:=hns
 have hi0:=hi
 obtain⟨hil2,A,c,rfl,hA⟩:=hi
 obtain⟨vnb,vib,rfl,hkw2,hnw2,hfw2,hsw2,hns2,hil3,hi2⟩:=ValAt.inv hv2
 obtain⟨hnl2,NB1,nb2,rfl,hnB⟩:=hns2
 have hi20:=hi2
 obtain⟨hil4,B,c2,rfl,hB⟩:=hi2
 have HWF:=I (And.intro hnw (And.intro hfw (And.intro hnw2 hfw2)))
 have HIT:=I hi0
 have HIT2:=I hi20
 clear hkw hnw hfw hsw hnl hnA hil hil2 hA hkw2 hnw2 hfw2 hsw2 hnl2 hnB hil3 hil4 hB hv hv2 hra hrb hres hi0 hi20
 go_enter Tryz.func69,Tryz.ntmps69
 go_upto_region 1 with (fail)
 have HST:=I (z0c w [.int .i64 4,.int .i64 na,.float .f64 fa,.string sa,.slice NA1 nsa.length na2,.slice A ia.length c] [.int .i64 4,.int .i64 nb,.float .f64 fb,.string sb,.slice NB1 nsb.length nb2,.slice B ib.length c2])
 rw[zv]
 generalize ((w.alloc (.cells ⟨[.int .i64 4,.int .i64 na,.float .f64 fa,.string sa,.slice NA1 nsa.length na2,.slice A ia.length c]⟩ 26)).alloc (.cells ⟨[.int .i64 4,.int .i64 nb,.float .f64 fb,.string sb,.slice NB1 nsb.length nb2,.slice B ib.length c2]⟩ 26)).alloc (.cells zV6.toArray 26)= W at*
 have d0:W.cell? ⟨w.heap.size,0,none⟩= some (.int .i64 4):=HST.out.wa.cells 0 rfl
 have c0:W.cell? ⟨w.heap.size+1,0,none⟩= some (.int .i64 4):=HST.out.wb.cells 0 rfl
 have n3:W.cell? ⟨w.heap.size,3,none⟩= some (.string sa):=HST.out.wa.cells 3 rfl
 have n5:W.cell? ⟨w.heap.size,5,none⟩= some (.slice A ia.length c):=HST.out.wa.cells 5 rfl
 have m3:W.cell? ⟨w.heap.size+1,3,none⟩= some (.string sb):=HST.out.wb.cells 3 rfl
 have m5:W.cell? ⟨w.heap.size+1,5,none⟩= some (.slice B ib.length c2):=HST.out.wb.cells 5 rfl
 have hcat:∀ W:World,(Op.stringOp .add sa sb).run Tryz.prog W= .ok (.string (sa ++ sb)) W:=fun W=>run_string_add_sum W _ _ (by have h1:=z0q HRA.out;have h2:=z0q HRB.out;simp;omega)
 have hcat2:∀ W:World,(binOp .add 9 (.string sa) (.string sb)).run Tryz.prog W= .ok (.string (sa ++ sb)) W:=fun W=>hcat W
 have HLA1:=I HST.out.wa.lt
 have HLB1:=I HST.out.wb.lt
 obtain⟨A',cA,heA,KLA,hlA,hkA,hcA,hoA⟩:=z1z HIT.out
 obtain⟨B',cB,heB,KLB,hlB,hkB,hcB,hoB⟩:=z1z HIT2.out
 simp only[Value.slice.injEq,true_and] at heA heB
 obtain⟨rfl,rfl⟩:=heA
 obtain⟨rfl,rfl⟩:=heB
 have HKA:=I (And.intro hlA (And.intro hkA (And.intro hcA hoA)))
 have HKB:=I (And.intro hlB (And.intro hkB (And.intro hcB hoB)))
 clear hlA hkA hcA hoA hlB hkB hcB hoB
 obtain⟨j0,hi,hz0,hz1,hz2⟩:=z0b z6W
 have HJ0:=I hi
 have HY0:=I hz0
 have HY1:=I hz1
 clear hi hz0 hz1 hz2
 go_upto_region 15 with ((go_at_call 36;refine(zp 6 _).mono ?_;rintro e z ⟨rfl,hzw⟩;rw[hzw];clear hzw z))
 refine zy 14 [(0,true),(1,true),(2,true),(3,true),(4,true),(5,true),(6,true),(7,true),(8,true),(9,true),(10,true),(11,false),(12,false),(13,true)] (fun z=>Below W.heap.size W z) (by kernel_rfl) (by kernel_rfl) rfl (by intro c a d v w h;cases d<;>exact h) ?_
 have hs:Below W.heap.size W W.drew:=(Below.refl _ _).drew
 refine z8 (some 97) (.pointer (some ⟨w.heap.size,0,none⟩)) _ rfl rfl (by exact wantA rfl) hs (fun z hz=>by go_simp) ?_
 go_frame
 refine z8 (some 98) (.int .i64 4) _ rfl rfl (by exact wantA rfl) hs (fun z hz=>by have e4:=(hz.cell (p:=⟨w.heap.size,0,none⟩) HLA1.out).trans d0;clear hz;go_simp) ?_
 go_frame
 refine z8 (some 99) (.pointer (some ⟨w.heap.size,3,none⟩)) _ rfl rfl (by exact wantA rfl) hs (fun z hz=>by go_simp) ?_
 go_frame
 refine z8 (some 100) (.string sa) _ rfl rfl (by exact wantA rfl) hs (fun z hz=>by have e4:=(hz.cell (p:=⟨w.heap.size,3,none⟩) HLA1.out).trans n3;clear hz;go_simp) ?_
 go_frame
 refine z8 (some 101) (.pointer (some ⟨w.heap.size+1,3,none⟩)) _ rfl rfl (by exact wantA rfl) hs (fun z hz=>by go_simp) ?_
 go_frame
 refine z8 (some 102) (.string sb) _ rfl rfl (by exact wantA rfl) hs (fun z hz=>by have e4:=(hz.cell (p:=⟨w.heap.size+1,3,none⟩) HLB1.out).trans m3;clear hz;go_simp) ?_
 go_frame
 refine z8 (some 103) (.string (sa ++ sb)) _ rfl rfl (by exact wantA rfl) hs (fun z hz=>by go_simp) ?_
 go_frame
 refine z8 (some 104) (.pointer (some ⟨w.heap.size,5,none⟩)) _ rfl rfl (by exact wantA rfl) hs (fun z hz=>by go_simp) ?_
 go_frame
 refine z8 (some 105) (.slice A ia.length c) _ rfl rfl (by exact wantA rfl) hs (fun z hz=>by have e4:=(hz.cell (p:=⟨w.heap.size,5,none⟩) HLA1.out).trans n5;clear hz;go_simp) ?_
 go_frame
 refine z8 (some 106) (.pointer (some ⟨w.heap.size+1,5,none⟩)) _ rfl rfl (by exact wantA rfl) hs (fun z hz=>by go_simp) ?_
 go_frame
 refine z8 (some 107) (.slice B ib.length c2) _ rfl rfl (by exact wantA rfl) hs (fun z hz=>by have e4:=(hz.cell (p:=⟨w.heap.size+1,5,none⟩) HLB1.out).trans m5;clear hz;go_simp) ?_
 go_frame
 have hs2:Below W.heap.size W (W.drew.alloc (.cells #[.slice A ia.length c,.slice B ib.length c2] 24)):=hs.trans ((ze W.drew _).mono hs.size)
 refine z0w (some 108) (.slice (some ⟨W.drew.heap.size,0,none⟩) 2 2) (W.drew.alloc (.cells #[.slice A ia.length c,.slice B ib.length c2] 24)) _ rfl rfl (by exact wantA rfl) (z3u 176 _ _ rfl 24 j0 _ A B ia.length ib.length c c2 rfl rfl Tryz.underlying176 HJ0.out HY0.out rfl HY1.out) hs2 ?_
 go_frame
 have HS2:=I hs2
 have e0:=zA W.drew #[.slice A ia.length c,.slice B ib.length c2] 24 0
 have e1:=zA W.drew #[.slice A ia.length c,.slice B ib.length c2] 24 1
 simp only[List.getElem?_toArray,List.getElem?_cons_zero,List.getElem?_cons_succ] at e0 e1
 have HE:=I (And.intro e0 e1)
 have HSZ:Hid (W.drew.heap.size <(W.drew.alloc (.cells #[.slice A ia.length c,.slice B ib.length c2] 24)).heap.size):=I (by simp)
 clear e0 e1 hs hs2 d0 c0 n3 n5 m3 m5 hcat hcat2
 generalize W.drew.alloc (.cells #[.slice A ia.length c,.slice B ib.length c2] 24)= V at*
 generalize W.drew.heap.size= hb at*
 have HWV:=I (HST.out.bel.trans (HS2.out.mono HST.out.bel.size))
 have HCC:=I (z5f hb A B ia.length ib.length c c2 (flat enc6 KLA) (flat enc6 KLB) V (by rw[z1E,HKA.out.1]) (by rw[z1E,HKB.out.1])
  (fun h0=>by obtain⟨b,ob,e,hbl,hc⟩:=HKA.out.2.2.1 h0;exact⟨b,ob,e,Nat.lt_of_lt_of_le hbl HWV.out.size,fun j u hj=>(HWV.out.cell (p:=⟨b,ob+j,none⟩) hbl).trans (hc j u hj)⟩)
  (fun h0=>by obtain⟨b,ob,e,hbl,hc⟩:=HKB.out.2.2.1 h0;exact⟨b,ob,e,Nat.lt_of_lt_of_le hbl HWV.out.size,fun j u hj=>(HWV.out.cell (p:=⟨b,ob+j,none⟩) hbl).trans (hc j u hj)⟩)
  HKA.out.2.2.2 HKB.out.2.2.2 HE.out.1 HE.out.2 HSZ.out (by have h1:=(z0d HRA.out).1;have h2:=(z0d HRB.out).1;omega))
 refine zx (some 109) 124 Tryz.func124 (by kernel_rfl) (by kernel_rfl) [.slice (some ⟨hb,0,none⟩) 2 2] _ _ _ rfl rfl rfl (by exact wantA rfl) rfl ?_
 refine HCC.out.mono ?_
 rintro e z ⟨v,rfl,hown,hbz⟩
 have hs3:Below W.heap.size W z:=HS2.out.trans (hbz.mono HS2.out.size)
 refine⟨_,rfl,hs3,?_⟩
 have HS3:=I hs3
 have HBZ:=I hbz
 have ho:OwnSl 26 6 enc6 z V.heap.size v (KLA ++ KLB):=by
  unfold OwnSl
  rw[z3K,List.length_append,HKA.out.1,HKB.out.1]
  exact hown
 obtain⟨VA,vn,vc,rfl⟩:=z4A ho
 have hW3:w.heap.size+2 < W.heap.size:=HST.out.wr.lt
 have HW3:=I (And.intro hW3 HS3.out.size)
 have HKV:Hid (Kept (fun b=>(P b/\b < w.heap.size)\/W.heap.size<=b) z [.int .i64 4,.int .i64 0,.float .f64 0,.string (sa ++ sb),.slice none 0 0,.slice VA vn vc] (.mk 4 0 0 (sa ++ sb) [] (ia ++ ib))):=I (by
  have hWZ:Below w.heap.size w z:=HWV.out.trans (hbz.mono HWV.out.size)
  have hl1:=(z0d HRA.out).1
  have hl2:=(z0d HRB.out).1
  have hs1:=z0q HRA.out
  have hs2:=z0q HRB.out
  refine ValAt.of (z0f (by omega)) (z0f (by omega)) (by decide) (by unfold maxLen;simp;omega) (SlAt.nil _ _ _ _) (by unfold maxLen;simp;omega) (z79 ho (by simp[HKA.out.1,HKB.out.1]) (by simp;omega) (fun b hb=> .inr (Nat.le_trans HS2.out.size hb)) fun j k x hk hx=> ?_)
  rcases Nat.lt_or_ge j KLA.length with hj|hj
  ·rw[List.getElem?_append_left hj] at hk
   rw[List.getElem?_append_left (by rw[← HKA.out.1];exact hj)] at hx
   exact(HKA.out.2.1 j k x hk hx).to (fun b hp hlt=>⟨.inl ⟨hp,hlt⟩,hWZ.block b hlt⟩) hWZ.size
  ·rw[List.getElem?_append_right hj] at hk
   rw[List.getElem?_append_right (by rw[← HKA.out.1];exact hj),← HKA.out.1] at hx
   exact(HKB.out.2.1 _ k x hk hx).to (fun b hp hlt=>⟨.inl ⟨hp,hlt⟩,hWZ.block b hlt⟩) hWZ.size)
 have HSD:=I (z2x (fun b=>(P b/\b < w.heap.size)\/W.heap.size<=b) _ _ z HKV.out)
 have HBB:Hid (BB w z [.int .i64 4,.int .i64 na,.float .f64 fa,.string sa,.slice NA1 nsa.length na2,.slice A ia.length c] [.int .i64 4,.int .i64 nb,.float .f64 fb,.string sb,.slice NB1 nsb.length nb2,.slice B ib.length c2]):=I (HST.out.next HS3.out)
 have hs:=hs3
 clear hown ho hW3 hbz hs3 HST HS2 HE HCC HKV HSZ HS3
 go_frame
 refine z8 (some 110) (.agg ⟨[.int .i64 4,.int .i64 0,.float .f64 0,.string (sa ++ sb),.slice none 0 0,.slice VA vn vc]⟩) _ rfl rfl (by exact wantA rfl) hs (fun z hz=>by clear hz;go_simp) ?_
 go_frame
 refine z06 ?_
 clear hs
 generalize (.mk 4 0 0 (sa ++ sb) [] (ia ++ ib):VT)= vv at*
 generalize sa ++ sb= ss at*
 go_wp2_with (go_at_call 66;fail)
 refine HSD.out.mono ?_
 rintro e z2 (⟨u,cs',hr,rfl,hk,hb⟩|⟨n,hr,rfl,hb⟩)
 ·have HSZ:=I (HBB.out.next hb)
  have HRZ:=I HSZ.out.wr
  have HKZ:=I hk
  have HCL:=I (zi hk.val).1
  have HON:=I (zi hk.val).2
  have HRE2:Hid (r= .ok u):=I (HRES.out.trans hr)
  clear hk hb hr
  go_wp2_with (((with_reducible refine zh 26 _ _ rfl rfl ?hw (w.heap.size+2) zV6 (cs') HRZ.out ?h5 ?h6 ?h7 ?h8 ?h9 ?_);(case hw=>(exact wantA rfl));(case h5=>rw[HCL.out];rfl);(case h6=>rfl);(case h7=>rfl);(case h8=>rw[HCL.out];kernel_rfl);(case h9=>exact HON.out);intro Z2 hz hb;have HX:=I hz;have HXB:=I hb;clear hz hb))
  (try simp only[Exit.inBlock,Exit.then])
  refine bodyPost_ret (zl rfl Tryz.underlying26 rfl _ _ (w.heap.size+2) (cs') (by rw[HCL.out];kernel_rfl) rfl HX.out.range) rfl ?_
  have hbel:=BB.fin HSZ.out HXB.out
  exact .ok HRE2.out rfl (HKZ.out.to (fun b hp hlt=>by have h1:=HW3.out;rcases hp with (⟨h2,h3⟩|h2)|h2;exact⟨.inl h2,HXB.out.block b hlt (by omega) (by omega)⟩;exact⟨.inr (by omega),HXB.out.block b hlt (by omega) (by omega)⟩;exact⟨.inr (by omega),HXB.out.block b hlt (by omega) (by omega)⟩) HXB.out.size) hbel
 ·have HS1:=I (HBB.out.next hb)
  have HRE2:Hid (r= .error n):=I (HRES.out.trans hr)
  clear hb hr
  go_wp2
  exact⟨rfl,.no HRE2.out rfl HS1.out.bel⟩
theorem zd7 (na nb:Int) (fa fb:Nat) (sa sb:ByteArray) (nsa nsb:List ByteArray) (ia ib:List VT) (ca cb:List Value) (w:World) (hv:Kept P w ca (.mk 5 na fa sa nsa ia)) (hv2:Kept P w cb (.mk 5 nb fb sb nsb ib)) (hra:zj (.mk 5 na fa sa nsa ia)= true) (hrb:zj (.mk 5 nb fb sb nsb ib)= true) {r:Res} (hres:r= szd (.mk 5 0 0 (sa ++ sb) [] (ia ++ ib))):
  Calls Tryz.prog 69 #[.int .i64 5,.agg ⟨ca⟩,.agg ⟨cb⟩] w (UnPost P r w):=by
 have HV:=I hv
 have HV2:=I hv2
 have HVW:=I hv.val
 have HVW2:=I hv2.val
 have HRA:=I hra
 have HRB:=I hrb
 have HRES:=I hres
 have HON1:=I (zi hv.val).2
 have HON2:=I (zi hv2.val).2
 obtain⟨vna,via,rfl,hkw,hnw,hfw,hsw,hns,hil,hi⟩:=ValAt.inv hv
 obtain⟨hnl,NA1,na2,rfl,hnA⟩:=hns
 have hi0:=hi
 obtain⟨hil2,A,c,rfl,hA⟩:=hi
 obtain⟨vnb,vib,rfl,hkw2,hnw2,hfw2,hsw2,hns2,hil3,hi2⟩:=ValAt.inv hv2
 obtain⟨hnl2,NB1,nb2,rfl,hnB⟩:=hns2
 have hi20:=hi2
 obtain⟨hil4,B,c2,rfl,hB⟩:=hi2
 have HWF:=I (And.intro hnw (And.intro hfw (And.intro hnw2 hfw2)))
 have HIT:=I hi0
 have HIT2:=I hi20
 clear hkw hnw hfw hsw hnl hnA hil hil2 hA hkw2 hnw2 hfw2 hsw2 hnl2 hnB hil3 hil4 hB hv hv2 hra hrb hres hi0 hi20
 go_enter Tryz.func69,Tryz.ntmps69
 go_upto_region 1 with (fail)
 have HST:=I (z0c w [.int .i64 5,.int .i64 na,.float .f64 fa,.string sa,.slice NA1 nsa.length na2,.slice A ia.length c] [.int .i64 5,.int .i64 nb,.float .f64 fb,.string sb,.slice NB1 nsb.length nb2,.slice B ib.length c2])
 rw[zv]
 generalize ((w.alloc (.cells ⟨[.int .i64 5,.int .i64 na,.float .f64 fa,.string sa,.slice NA1 nsa.length na2,.slice A ia.length c]⟩ 26)).alloc (.cells ⟨[.int .i64 5,.int .i64 nb,.float .f64 fb,.string sb,.slice NB1 nsb.length nb2,.slice B ib.length c2]⟩ 26)).alloc (.cells zV6.toArray 26)= W at*
 have d0:W.cell? ⟨w.heap.size,0,none⟩= some (.int .i64 5):=HST.out.wa.cells 0 rfl
 have c0:W.cell? ⟨w.heap.size+1,0,none⟩= some (.int .i64 5):=HST.out.wb.cells 0 rfl
 have n3:W.cell? ⟨w.heap.size,3,none⟩= some (.string sa):=HST.out.wa.cells 3 rfl
 have n5:W.cell? ⟨w.heap.size,5,none⟩= some (.slice A ia.length c):=HST.out.wa.cells 5 rfl
 have m3:W.cell? ⟨w.heap.size+1,3,none⟩= some (.string sb):=HST.out.wb.cells 3 rfl
 have m5:W.cell? ⟨w.heap.size+1,5,none⟩= some (.slice B ib.length c2):=HST.out.wb.cells 5 rfl
 have hcat:∀ W:World,(Op.stringOp .add sa sb).run Tryz.prog W= .ok (.string (sa ++ sb)) W:=fun W=>run_string_add_sum W _ _ (by have h1:=z0q HRA.out;have h2:=z0q HRB.out;simp;omega)
 have hcat2:∀ W:World,(binOp .add 9 (.string sa) (.string sb)).run Tryz.prog W= .ok (.string (sa ++ sb)) W:=fun W=>hcat W
 have HLA1:=I HST.out.wa.lt
 have HLB1:=I HST.out.wb.lt
 obtain⟨A',cA,heA,KLA,hlA,hkA,hcA,hoA⟩:=z1z HIT.out
 obtain⟨B',cB,heB,KLB,hlB,hkB,hcB,hoB⟩:=z1z HIT2.out
 simp only[Value.slice.injEq,true_and] at heA heB
 obtain⟨rfl,rfl⟩:=heA
 obtain⟨rfl,rfl⟩:=heB
 have HKA:=I (And.intro hlA (And.intro hkA (And.intro hcA hoA)))
 have HKB:=I (And.intro hlB (And.intro hkB (And.intro hcB hoB)))
 clear hlA hkA hcA hoA hlB hkB hcB hoB
 obtain⟨j0,hi,hz0,hz1,hz2⟩:=z0b z6W
 have HJ0:=I hi
 have HY0:=I hz0
 have HY1:=I hz1
 clear hi hz0 hz1 hz2
 go_upto_region 15 with ((go_at_call 36;refine(zp 6 _).mono ?_;rintro e z ⟨rfl,hzw⟩;rw[hzw];clear hzw z))
 refine zy 14 [(0,true),(1,true),(2,true),(3,true),(4,true),(5,true),(6,true),(7,true),(8,true),(9,true),(10,true),(11,false),(12,false),(13,true)] (fun z=>Below W.heap.size W z) (by kernel_rfl) (by kernel_rfl) rfl (by intro c a d v w h;cases d<;>exact h) ?_
 have hs:Below W.heap.size W W.drew:=(Below.refl _ _).drew
 refine z8 (some 97) (.pointer (some ⟨w.heap.size,0,none⟩)) _ rfl rfl (by exact wantA rfl) hs (fun z hz=>by go_simp) ?_
 go_frame
 refine z8 (some 98) (.int .i64 5) _ rfl rfl (by exact wantA rfl) hs (fun z hz=>by have e4:=(hz.cell (p:=⟨w.heap.size,0,none⟩) HLA1.out).trans d0;clear hz;go_simp) ?_
 go_frame
 refine z8 (some 99) (.pointer (some ⟨w.heap.size,3,none⟩)) _ rfl rfl (by exact wantA rfl) hs (fun z hz=>by go_simp) ?_
 go_frame
 refine z8 (some 100) (.string sa) _ rfl rfl (by exact wantA rfl) hs (fun z hz=>by have e4:=(hz.cell (p:=⟨w.heap.size,3,none⟩) HLA1.out).trans n3;clear hz;go_simp) ?_
 go_frame
 refine z8 (some 101) (.pointer (some ⟨w.heap.size+1,3,none⟩)) _ rfl rfl (by exact wantA rfl) hs (fun z hz=>by go_simp) ?_
 go_frame
 refine z8 (some 102) (.string sb) _ rfl rfl (by exact wantA rfl) hs (fun z hz=>by have e4:=(hz.cell (p:=⟨w.heap.size+1,3,none⟩) HLB1.out).trans m3;clear hz;go_simp) ?_
 go_frame
 refine z8 (some 103) (.string (sa ++ sb)) _ rfl rfl (by exact wantA rfl) hs (fun z hz=>by go_simp) ?_
 go_frame
 refine z8 (some 104) (.pointer (some ⟨w.heap.size,5,none⟩)) _ rfl rfl (by exact wantA rfl) hs (fun z hz=>by go_simp) ?_
 go_frame
 refine z8 (some 105) (.slice A ia.length c) _ rfl rfl (by exact wantA rfl) hs (fun z hz=>by have e4:=(hz.cell (p:=⟨w.heap.size,5,none⟩) HLA1.out).trans n5;clear hz;go_simp) ?_
 go_frame
 refine z8 (some 106) (.pointer (some ⟨w.heap.size+1,5,none⟩)) _ rfl rfl (by exact wantA rfl) hs (fun z hz=>by go_simp) ?_
 go_frame
 refine z8 (some 107) (.slice B ib.length c2) _ rfl rfl (by exact wantA rfl) hs (fun z hz=>by have e4:=(hz.cell (p:=⟨w.heap.size+1,5,none⟩) HLB1.out).trans m5;clear hz;go_simp) ?_
 go_frame
 have hs2:Below W.heap.size W (W.drew.alloc (.cells #[.slice A ia.length c,.slice B ib.length c2] 24)):=hs.trans ((ze W.drew _).mono hs.size)
 refine z0w (some 108) (.slice (some ⟨W.drew.heap.size,0,none⟩) 2 2) (W.drew.alloc (.cells #[.slice A ia.length c,.slice B ib.length c2] 24)) _ rfl rfl (by exact wantA rfl) (z3u 176 _ _ rfl 24 j0 _ A B ia.length ib.length c c2 rfl rfl Tryz.underlying176 HJ0.out HY0.out rfl HY1.out) hs2 ?_
 go_frame
 have HS2:=I hs2
 have e0:=zA W.drew #[.slice A ia.length c,.slice B ib.length c2] 24 0
 have e1:=zA W.drew #[.slice A ia.length c,.slice B ib.length c2] 24 1
 simp only[List.getElem?_toArray,List.getElem?_cons_zero,List.getElem?_cons_succ] at e0 e1
 have HE:=I (And.intro e0 e1)
 have HSZ:Hid (W.drew.heap.size <(W.drew.alloc (.cells #[.slice A ia.length c,.slice B ib.length c2] 24)).heap.size):=I (by simp)
 clear e0 e1 hs hs2 d0 c0 n3 n5 m3 m5 hcat hcat2
 generalize W.drew.alloc (.cells #[.slice A ia.length c,.slice B ib.length c2] 24)= V at*
 generalize W.drew.heap.size= hb at*
 have HWV:=I (HST.out.bel.trans (HS2.out.mono HST.out.bel.size))
 have HCC:=I (z5f hb A B ia.length ib.length c c2 (flat enc6 KLA) (flat enc6 KLB) V (by rw[z1E,HKA.out.1]) (by rw[z1E,HKB.out.1])
  (fun h0=>by obtain⟨b,ob,e,hbl,hc⟩:=HKA.out.2.2.1 h0;exact⟨b,ob,e,Nat.lt_of_lt_of_le hbl HWV.out.size,fun j u hj=>(HWV.out.cell (p:=⟨b,ob+j,none⟩) hbl).trans (hc j u hj)⟩)
  (fun h0=>by obtain⟨b,ob,e,hbl,hc⟩:=HKB.out.2.2.1 h0;exact⟨b,ob,e,Nat.lt_of_lt_of_le hbl HWV.out.size,fun j u hj=>(HWV.out.cell (p:=⟨b,ob+j,none⟩) hbl).trans (hc j u hj)⟩)
  HKA.out.2.2.2 HKB.out.2.2.2 HE.out.1 HE.out.2 HSZ.out (by have h1:=(z0d HRA.out).1;have h2:=(z0d HRB.out).1;omega))
 refine zx (some 109) 124 Tryz.func124 (by kernel_rfl) (by kernel_rfl) [.slice (some ⟨hb,0,none⟩) 2 2] _ _ _ rfl rfl rfl (by exact wantA rfl) rfl ?_
 refine HCC.out.mono ?_
 rintro e z ⟨v,rfl,hown,hbz⟩
 have hs3:Below W.heap.size W z:=HS2.out.trans (hbz.mono HS2.out.size)
 refine⟨_,rfl,hs3,?_⟩
 have HS3:=I hs3
 have HBZ:=I hbz
 have ho:OwnSl 26 6 enc6 z V.heap.size v (KLA ++ KLB):=by
  unfold OwnSl
  rw[z3K,List.length_append,HKA.out.1,HKB.out.1]
  exact hown
 obtain⟨VA,vn,vc,rfl⟩:=z4A ho
 have hW3:w.heap.size+2 < W.heap.size:=HST.out.wr.lt
 have HW3:=I (And.intro hW3 HS3.out.size)
 have HKV:Hid (Kept (fun b=>(P b/\b < w.heap.size)\/W.heap.size<=b) z [.int .i64 5,.int .i64 0,.float .f64 0,.string (sa ++ sb),.slice none 0 0,.slice VA vn vc] (.mk 5 0 0 (sa ++ sb) [] (ia ++ ib))):=I (by
  have hWZ:Below w.heap.size w z:=HWV.out.trans (hbz.mono HWV.out.size)
  have hl1:=(z0d HRA.out).1
  have hl2:=(z0d HRB.out).1
  have hs1:=z0q HRA.out
  have hs2:=z0q HRB.out
  refine ValAt.of (z0f (by omega)) (z0f (by omega)) (by decide) (by unfold maxLen;simp;omega) (SlAt.nil _ _ _ _) (by unfold maxLen;simp;omega) (z79 ho (by simp[HKA.out.1,HKB.out.1]) (by simp;omega) (fun b hb=> .inr (Nat.le_trans HS2.out.size hb)) fun j k x hk hx=> ?_)
  rcases Nat.lt_or_ge j KLA.length with hj|hj
  ·rw[List.getElem?_append_left hj] at hk
   rw[List.getElem?_append_left (by rw[← HKA.out.1];exact hj)] at hx
   exact(HKA.out.2.1 j k x hk hx).to (fun b hp hlt=>⟨.inl ⟨hp,hlt⟩,hWZ.block b hlt⟩) hWZ.size
  ·rw[List.getElem?_append_right hj] at hk
   rw[List.getElem?_append_right (by rw[← HKA.out.1];exact hj),← HKA.out.1] at hx
   exact(HKB.out.2.1 _ k x hk hx).to (fun b hp hlt=>⟨.inl ⟨hp,hlt⟩,hWZ.block b hlt⟩) hWZ.size)
 have HSD:=I (z2x (fun b=>(P b/\b < w.heap.size)\/W.heap.size<=b) _ _ z HKV.out)
 have HBB:Hid (BB w z [.int .i64 5,.int .i64 na,.float .f64 fa,.string sa,.slice NA1 nsa.length na2,.slice A ia.length c] [.int .i64 5,.int .i64 nb,.float .f64 fb,.string sb,.slice NB1 nsb.length nb2,.slice B ib.length c2]):=I (HST.out.next HS3.out)
 have hs:=hs3
 clear hown ho hW3 hbz hs3 HST HS2 HE HCC HKV HSZ HS3
 go_frame
 refine z8 (some 110) (.agg ⟨[.int .i64 5,.int .i64 0,.float .f64 0,.string (sa ++ sb),.slice none 0 0,.slice VA vn vc]⟩) _ rfl rfl (by exact wantA rfl) hs (fun z hz=>by clear hz;go_simp) ?_
 go_frame
 refine z06 ?_
 clear hs
 generalize (.mk 5 0 0 (sa ++ sb) [] (ia ++ ib):VT)= vv at*
 generalize sa ++ sb= ss at*
 go_wp2_with (go_at_call 66;fail)
 refine HSD.out.mono ?_
 rintro e z2 (⟨u,cs',hr,rfl,hk,hb⟩|⟨n,hr,rfl,hb⟩)
 ·have HSZ:=I (HBB.out.next hb)
  have HRZ:=I HSZ.out.wr
  have HKZ:=I hk
  have HCL:=I (zi hk.val).1
  have HON:=I (zi hk.val).2
  have HRE2:Hid (r= .ok u):=I (HRES.out.trans hr)
  clear hk hb hr
  go_wp2_with (((with_reducible refine zh 26 _ _ rfl rfl ?hw (w.heap.size+2) zV6 (cs') HRZ.out ?h5 ?h6 ?h7 ?h8 ?h9 ?_);(case hw=>(exact wantA rfl));(case h5=>rw[HCL.out];rfl);(case h6=>rfl);(case h7=>rfl);(case h8=>rw[HCL.out];kernel_rfl);(case h9=>exact HON.out);intro Z2 hz hb;have HX:=I hz;have HXB:=I hb;clear hz hb))
  (try simp only[Exit.inBlock,Exit.then])
  refine bodyPost_ret (zl rfl Tryz.underlying26 rfl _ _ (w.heap.size+2) (cs') (by rw[HCL.out];kernel_rfl) rfl HX.out.range) rfl ?_
  have hbel:=BB.fin HSZ.out HXB.out
  exact .ok HRE2.out rfl (HKZ.out.to (fun b hp hlt=>by have h1:=HW3.out;rcases hp with (⟨h2,h3⟩|h2)|h2;exact⟨.inl h2,HXB.out.block b hlt (by omega) (by omega)⟩;exact⟨.inr (by omega),HXB.out.block b hlt (by omega) (by omega)⟩;exact⟨.inr (by omega),HXB.out.block b hlt (by omega) (by omega)⟩) HXB.out.size) hbel
 ·have HS1:=I (HBB.out.next hb)
  have HRE2:Hid (r= .error n):=I (HRES.out.trans hr)
  clear hb hr
  go_wp2
  exact⟨rfl,.no HRE2.out rfl HS1.out.bel⟩
theorem z9F (k:Int) (a b:VT) (ca cb:List Value) (w:World) (hv:Kept P w ca a) (hv2:Kept P w cb b) (hra:zj a= true) (hrb:zj b= true):
  Calls Tryz.prog 69 #[.int .i64 k,.agg ⟨ca⟩,.agg ⟨cb⟩] w (UnPost P (binV k a b) w):=by
 cases a with
 |mk ka na fa sa nsa ia=>
 cases b with
 |mk kb nb fb sb nsb ib=>
 rw[binV]
 by_cases k19:k= 19
 ·subst k19
  rw[if_pos rfl]
  by_cases h5:ka= 5
  ·subst h5
   by_cases h2:kb= 2
   ·subst h2
    rw[if_pos ⟨rfl,rfl⟩]
    by_cases hn:0<=nb/\nb <(ia.length:Int)
    ·rw[if_pos hn]
     have hj:nb.toNat < ia.length:=by omega
     have:ia.getD nb.toNat v0= ia[nb.toNat]:=by simp[List.getD,List.getElem?_eq_getElem hj]
     rw[this]
     exact ze0 P na nb fa fb sa sb nsa nsb ia ib ca cb w nb.toNat hj (I (by omega)) hv hv2 hra hrb rfl
    ·rw[if_neg hn]
     by_cases h0:0<=nb
     ·exact zdP P na nb fa fb sa sb nsa nsb ia ib ca cb w (decide_eq_true h0) (decide_eq_false (by omega)) hv hv2 hra hrb rfl
     ·exact zd9 P na nb fa fb sa sb nsa nsb ia ib ca cb w (decide_eq_false h0) hv hv2 hra hrb rfl
   ·rw[if_neg (by simp[h2])];exact zcY P na nb fa fb sa sb nsa nsb ia ib ca cb w kb (by simpa using h2) hv hv2 hra hrb rfl
  ·rw[if_neg (by simp[h5])];exact zdC P na nb fa fb sa sb nsa nsb ia ib ca cb w ka kb (by simpa using h5) hv hv2 hra hrb rfl
 rw[if_neg k19]
 have e19:(k ==19)= false:=by simpa using k19
 by_cases hkk:ka= kb
 ·subst hkk
  rw[if_neg (by simp)]
  by_cases k10:k= 10
  ·subst k10;rw[if_pos rfl];exact bi_eq P na nb fa fb sa sb nsa nsb ia ib ca cb w ka hv hv2 hra hrb rfl
  rw[if_neg k10]
  by_cases k11:k= 11
  ·subst k11;rw[if_pos (Or.inl rfl)];exact zbH P na nb fa fb sa sb nsa nsb ia ib ca cb w ka hv hv2 hra hrb rfl
  by_cases k12:k= 12
  ·subst k12;rw[if_pos (Or.inr rfl)];exact zbz P na nb fa fb sa sb nsa nsb ia ib ca cb w ka hv hv2 hra hrb rfl
  rw[if_neg (by omega)]
  have e10:(k ==10)= false:=by simpa using k10
  have e11:(k ==11)= false:=by simpa using k11
  have e12:(k ==12)= false:=by simpa using k12
  by_cases h2:ka= 2
  ·subst h2;rw[if_pos rfl];exact zek P na nb fa fb sa sb nsa nsb ia ib ca cb w k e19 e10 e11 e12 hv hv2 hra hrb rfl
  rw[if_neg h2]
  by_cases h3:ka= 3
  ·subst h3;rw[if_pos rfl];exact zep P na nb fa fb sa sb nsa nsb ia ib ca cb w k e19 e10 e11 e12 hv hv2 hra hrb rfl
  rw[if_neg h3]
  have e2:(ka ==2)= false:=by simpa using h2
  have e3:(ka ==3)= false:=by simpa using h3
  by_cases k5:k= 5
  ·subst k5
   by_cases h4:ka= 4
   ·subst h4;rw[if_pos ⟨rfl,Or.inl rfl⟩];exact zdk P na nb fa fb sa sb nsa nsb ia ib ca cb w hv hv2 hra hrb rfl
   by_cases h5:ka= 5
   ·subst h5;rw[if_pos ⟨rfl,Or.inr rfl⟩];exact zd7 P na nb fa fb sa sb nsa nsb ia ib ca cb w hv hv2 hra hrb rfl
   rw[if_neg (by omega)]
   exact zev P na nb fa fb sa sb nsa nsb ia ib ca cb w ka e2 e3 (by simpa using h4) (by simpa using h5) hv hv2 hra hrb rfl
  ·rw[if_neg (by omega)]
   exact bi_no P na nb fa fb sa sb nsa nsb ia ib ca cb w k e19 e10 e11 e12 ka e2 e3 (by simpa using k5) hv hv2 hra hrb rfl
 ·rw[if_pos hkk];exact zcU P na nb fa fb sa sb nsa nsb ia ib ca cb w k ka kb e19 (by simpa using hkk) hv hv2 hra hrb rfl
end
end
end Go.Proofs.YtmpbepjjbaeebaaGreatDoor
