/- Parts of a proof: E10X. -/
import Derived.Lib.AppendZeros
import Derived.Test.YtmpbepjjbaeebaaGreatDoorPackM2
import Derived.Test.YtmpbepjjbaeebaaGreatDoorPackM11
import Derived.Test.YtmpbepjjbaeebaaGreatDoorPackM25
import Derived.Test.YtmpbepjjbaeebaaGreatDoorPackM30
import Derived.Test.YtmpbepjjbaeebaaGreatDoorPackM33
import Derived.Test.YtmpbepjjbaeebaaGreatDoorPackM37
import Derived.Test.YtmpbepjjbaeebaaGreatDoorPackM38
set_option maxHeartbeats 8000000
set_option maxRecDepth 100000
set_option linter.unusedVariables false
set_option linter.unusedSimpArgs false
namespace Go.Proofs.YtmpbepjjbaeebaaGreatDoor
open Go Go.RowKit
open Go.Lib (hid)
theorem grow_own (w:World) (n:Nat) (i:TypeInfo) (z:Value) (hz6:z.cells.size= 6) (h0:n≤1000):World.ownsRow (w.drew.alloc (.cells (Builtin.zeroCells z.cells n ++ Builtin.zeroCells z.cells (grownCap w n 0 26 - n)) 26)) w.heap.size 26 6 (.slice (some ⟨w.heap.size,0,none⟩) 0 (grownCap w n 0 26)) 0 []:=by
 refine⟨rfl,.inr ⟨w.heap.size,_,_,rfl,Nat.le_refl _,heap_alloc_new w.drew _,Nat.zero_le _,grownCap_le_maxLen _ _ _ _ (by unfold maxLen;omega),?_,by simp⟩⟩
 have h1:=grownCap_ge w n 0 26
 rw[Array.size_append,size_zeroCells,size_zeroCells,hz6,← Nat.add_mul]
 congr 1
 omega
theorem own_ge {w:World} {base:Nat} {e:TypeId} {size:Nat} {v:Value} {n:Nat} {xs:List Value} (h:w.ownsRow base e size v n xs) {j:Nat} (hj:v.ownBlock= some j):base≤j:=by
 rcases h.2 with ⟨rfl,_⟩|⟨g,cap,cur,rfl,hg,_⟩
 ·cases hj
 ·have:g= j:=by simpa [Value.ownBlock] using hj
  omega
theorem drew_alloc_below (w:World) (o:Obj):Below w.heap.size w (w.drew.alloc o):=(Below.refl w.heap.size w).drew.trans (box_below w.drew o)
theorem grow0 (w:World):Calls Tryz.prog 164 #[.slice none 0 0,.int .i64 0] w fun e w'=>e= .returned (.slice none 0 0)∧w'= w:=by
 go_enter Tryz.func164,Tryz.ntmps164
 go_wp2
 go_ret
 exact⟨rfl,rfl⟩
theorem growN (n:Nat) (h0:0 < n) (hn:n≤1000) (w:World):Calls Tryz.prog 164 #[.slice none 0 0,.int .i64 n] w fun e w'=>∃ v,e= .returned v∧w'.ownsRow w.heap.size 26 6 v 0 []∧Below w.heap.size w w':=by
 obtain⟨j0,hi,hz0,hz1,hz2⟩:=info_partsV info_value
 have HJ0:=hid hi
 have HY0:=hid hz0
 have HY1:=hid hz1
 have HY2:=hid hz2
 have HRUN:Hid (∀ ty,(Builtin.append_ #[24,3] ty #[.slice none 0 0,.int .i64 n]).run Tryz.prog w= .ok (.slice (some ⟨w.heap.size,0,none⟩) n (grownCap w n 0 26)) (w.drew.alloc (.cells (Builtin.zeroCells (Value.agg #[.int .i64 0,.int .i64 0,.float .f64 0,.string ⟨#[]⟩,.slice none 0 0,.slice none 0 0]).cells n ++ Builtin.zeroCells (Value.agg #[.int .i64 0,.int .i64 0,.float .f64 0,.string ⟨#[]⟩,.slice none 0 0,.slice none 0 0]).cells (grownCap w n 0 26 - n)) 26))):=hid fun ty=>Lib.run_append_nil_zeros w 24 3 ty 26 j0 _ .i64 .i64 Tryz.underlying24 Tryz.underlying3 hi hz0 n h0 (by rw[hz1];decide) (by omega) (by rw[hz2];omega)
 have HOWN:=hid (grow_own w n j0 (Value.agg #[.int .i64 0,.int .i64 0,.float .f64 0,.string ⟨#[]⟩,.slice none 0 0,.slice none 0 0]) rfl hn)
 have HBEL:=hid (drew_alloc_below w (.cells (Builtin.zeroCells (Value.agg #[.int .i64 0,.int .i64 0,.float .f64 0,.string ⟨#[]⟩,.slice none 0 0,.slice none 0 0]).cells n ++ Builtin.zeroCells (Value.agg #[.int .i64 0,.int .i64 0,.float .f64 0,.string ⟨#[]⟩,.slice none 0 0,.slice none 0 0]).cells (grownCap w n 0 26 - n)) 26))
 have hpos:(0:Int) <(n:Int):=by omega
 have hneg: ¬ ((n:Int) < 0):=by omega
 clear hi hz0 hz1 hz2
 generalize w.drew.alloc (.cells (Builtin.zeroCells (Value.agg #[.int .i64 0,.int .i64 0,.float .f64 0,.string ⟨#[]⟩,.slice none 0 0,.slice none 0 0]).cells n ++ Builtin.zeroCells (Value.agg #[.int .i64 0,.int .i64 0,.float .f64 0,.string ⟨#[]⟩,.slice none 0 0,.slice none 0 0]).cells (grownCap w n 0 26 - n)) 26)= W at*
 generalize grownCap w n 0 26= cap at*
 go_enter Tryz.func164,Tryz.ntmps164
 go_wp2_with (at_builtin;(refine Lib.wpList_append_run _ rfl _ _ _ _ rfl _ _ rfl rfl _ _ (HRUN.out _) ?_))
 go_ret
 exact⟨_,rfl,HOWN.out,HBEL.out⟩
theorem concat_any (hb:Nat) (A B:Option Addr) (la lb ca cb:Nat) (xa xb:List Value) (w:World) (hla:xa.length= la*6) (hlb:xb.length= lb*6)
  (hca:0 < la→∃ b ob,A= some ⟨b,ob,none⟩∧b < w.heap.size∧∀ j u,xa[j]?= some u→w.cell? ⟨b,ob+j,none⟩= some u) (hcb:0 < lb→∃ b ob,B= some ⟨b,ob,none⟩∧b < w.heap.size∧∀ j u,xb[j]?= some u→w.cell? ⟨b,ob+j,none⟩= some u)
  (h1a:∀ u∈xa,u.oneCell'= true) (h1b:∀ u∈xb,u.oneCell'= true) (e0:w.cell? ⟨hb,0,none⟩= some (.slice A la ca)) (e1:w.cell? ⟨hb,1,none⟩= some (.slice B lb cb)) (hlt:hb < w.heap.size) (hn:la+lb≤1000):
  Calls Tryz.prog 124 #[.slice (some ⟨hb,0,none⟩) 2 2] w fun e w'=>∃ v,e= .returned v∧w'.ownsRow w.heap.size 26 6 v (la+lb) (xa ++ xb)∧Below w.heap.size w w':=by
 have HLA:=hid hla
 have HLB:=hid hlb
 have HCA:=hid hca
 have HCB:=hid hcb
 have H1A:=hid h1a
 have H1B:=hid h1b
 have HE0:=hid e0
 have HE1:=hid e1
 have HLT:=hid hlt
 have HN:=hid hn
 have HG:Hid (Calls Tryz.prog 164 #[.slice none 0 0,.int .i64 ((la:Int)+ (lb:Int))] w fun e w'=>∃ v,e= .returned v∧w'.ownsRow w.heap.size 26 6 v 0 []∧Below w.heap.size w w'):=hid (by
  rcases Nat.eq_zero_or_pos (la+lb) with h0|h0
  ·have e:((la:Int)+ (lb:Int))= 0:=by omega
   rw[e]
   exact(grow0 w).mono fun e w' h=>⟨_,h.1,by rw[h.2];exact⟨rfl,.inl ⟨rfl,rfl⟩⟩,by rw[h.2];exact Below.refl _ _⟩
  ·have:=growN (la+lb) h0 hn w
   rwa [Int.natCast_add] at this)
 obtain⟨j0,hi,hz0,hz1,hz2⟩:=info_partsV info_value
 have HJ0:=hid hi
 have HY0:=hid hz0
 have HY1:=hid hz1
 have HY2:=hid hz2
 clear hla hlb hca hcb h1a h1b e0 e1 hlt hi hz0 hz1 hz2
 go_enter Tryz.func124,Tryz.ntmps124
 go_upto_region 3 with (fail)
 go_loopg [3,11] 2 (fun q x y u=>u= w∧((q= 2∧x= .int .i64 0∧y= .int .i64 0)∨(q= 1∧x= .int .i64 la∧y= .int .i64 1)∨(q= 0∧x= .int .i64 ((la:Int)+ (lb:Int))∧y= .int .i64 2)))
 case atStart=>exact⟨rfl,.inl ⟨rfl,rfl,rfl⟩⟩
 case round=>
  obtain⟨rfl,hc⟩:=hrel
  rcases hc with ⟨rfl,rfl,rfl⟩|⟨rfl,rfl,rfl⟩|⟨rfl,rfl,rfl⟩
  ·have d0:=HE0.out
   have hge: ¬ ((la:Int) < 0):=by omega
   have hn':=HN.out
   go_wp2
   go_roundg 1
   case measure=>omega
   case rel=>exact⟨rfl,.inr (.inl ⟨rfl,by go_num,by go_num⟩)⟩
  ·have d1:=HE1.out
   have hge: ¬ ((la:Int)+ (lb:Int) < 0):=by omega
   have hw:wrap64 ((la:Int)+ (lb:Int))=(la:Int)+ (lb:Int):=by have:=HN.out;unfold wrap64;omega
   have hw2:IntKind.i64.wrap ((la:Int)+ (lb:Int))=(la:Int)+ (lb:Int):=by have:=HN.out;rw[IntKind.wrap_i64];omega
   go_wp2
   go_roundg 0
   case measure=>omega
   case rel=>exact⟨rfl,.inr (.inr ⟨rfl,by first|rfl|rw[hw]|rw[hw2],by go_num⟩)⟩
  ·obtain⟨w0,hw0⟩:∃ w0:World,w0= wr:=⟨_,rfl⟩
   subst hw0
   go_upto_region 10 with (go_at_call 164;refine HG.out.mono ?_;rintro e z ⟨v,rfl,hown,hb⟩;have HOW:=hid hown;have HBZ:=hid hb;clear hown hb)
   go_upto_region 11 with (fail)
   go_loopg [6,27] 2 (fun q x y u=>Below w0.heap.size w0 u∧((q= 2∧y= .int .i64 0∧u.ownsRow w0.heap.size 26 6 x 0 [])∨(q= 1∧y= .int .i64 1∧u.ownsRow w0.heap.size 26 6 x la xa)∨(q= 0∧y= .int .i64 2∧u.ownsRow w0.heap.size 26 6 x (la+lb) (xa ++ xb))))
   case atStart=>exact⟨HBZ.out,.inl ⟨rfl,rfl,HOW.out⟩⟩
   case round=>
    obtain⟨hbu,hc⟩:=hrel
    have HBU:=hid hbu
    clear hbu
    rcases hc with ⟨rfl,rfl,ho⟩|⟨rfl,rfl,ho⟩|⟨rfl,rfl,ho⟩
    ·have HOU:=hid ho
     have d0:=(HBU.out.cell (p:=⟨hb,0,none⟩) HLT.out).trans HE0.out
     clear ho
     go_wp2_with (at_builtin;(refine wl_append rfl _ _ 24 rfl w0.heap.size 26 j0 _ 6 88 Tryz.underlying24 HJ0.out HY0.out HY1.out HY2.out rfl (by decide) _ 0 [] rfl HOU.out A la ca xa rfl HLA.out (fun h0=>by obtain⟨b,ob,e,hbl,hc⟩:=HCA.out h0;exact⟨_,e,fun j u hj=>by rw[Addr.add_mid];exact(HBU.out.cell (p:=⟨b,ob+j,none⟩) hbl).trans (hc j u hj)⟩) H1A.out (by have:=HN.out;unfold maxLen;omega) (by have:=HN.out;omega) HBU.out.size ?_;intro v' u8 hown hg;have HO8:=hid hown;have HB8:=hid (HBU.out.grown hg HBU.out.size (fun j hj=>own_ge HOU.out hj));clear hown hg))
     go_roundg 1
     case measure=>omega
     case rel=>exact⟨HB8.out,.inr (.inl ⟨rfl,by go_num,by have:=HO8.out;rw[Nat.zero_add,List.nil_append] at this;exact this⟩)⟩
    ·have HOU:=hid ho
     have d1:=(HBU.out.cell (p:=⟨hb,1,none⟩) HLT.out).trans HE1.out
     clear ho
     go_wp2_with (at_builtin;(refine wl_append rfl _ _ 24 rfl w0.heap.size 26 j0 _ 6 88 Tryz.underlying24 HJ0.out HY0.out HY1.out HY2.out rfl (by decide) _ la xa rfl HOU.out B lb cb xb rfl HLB.out (fun h0=>by obtain⟨b,ob,e,hbl,hc⟩:=HCB.out h0;exact⟨_,e,fun j u hj=>by rw[Addr.add_mid];exact(HBU.out.cell (p:=⟨b,ob+j,none⟩) hbl).trans (hc j u hj)⟩) H1B.out (by have:=HN.out;unfold maxLen;omega) (by have:=HN.out;omega) HBU.out.size ?_;intro v' u8 hown hg;have HO8:=hid hown;have HB8:=hid (HBU.out.grown hg HBU.out.size (fun j hj=>own_ge HOU.out hj));clear hown hg))
     go_roundg 0
     case measure=>omega
     case rel=>exact⟨HB8.out,.inr (.inr ⟨rfl,by go_num,HO8.out⟩)⟩
    ·have HOU:=hid ho
     clear ho
     go_wp2
     go_ret
     exact⟨_,rfl,HOU.out,HBU.out⟩
def BoolPost (r:Except Int Bool) (w:World) (e:Ending) (w':World):Prop:=((∃ b,r= .ok b∧e= .returned (.bool b))∨(∃ n,r= .error n∧e= panE n))∧Below w.heap.size w w'
structure TB (w W:World) (ca cb:List Value):Prop where
 wa:Whole 26 W w.heap.size ca
 wb:Whole 26 W (w.heap.size+1) cb
 bel:Below w.heap.size w W
theorem tb_start (w:World) (ca cb:List Value):TB w ((w.alloc (.cells ⟨ca⟩ 26)).alloc (.cells ⟨cb⟩ 26)) ca cb:=by
 have h1:=Whole.new w ca 26
 have h2:=box_below w (.cells ⟨ca⟩ 26)
 have hs:(w.alloc (.cells ⟨ca⟩ 26)).heap.size= w.heap.size+1:=by simp
 generalize w.alloc (.cells ⟨ca⟩ 26)= W1 at*
 have h3:=Whole.new W1 cb 26
 have h4:=box_below W1 (.cells ⟨cb⟩ 26)
 rw[hs] at h3
 exact⟨h1.keep (h4.block _ (by omega)),h3,h2.trans (h4.mono (by omega))⟩
structure BB (w W:World) (ca cb:List Value):Prop where
 wa:Whole 26 W w.heap.size ca
 wb:Whole 26 W (w.heap.size+1) cb
 wr:Whole 26 W (w.heap.size+2) zV6
 bel:Below w.heap.size w W
theorem bb_start (w:World) (ca cb:List Value):BB w (((w.alloc (.cells ⟨ca⟩ 26)).alloc (.cells ⟨cb⟩ 26)).alloc (.cells zV6.toArray 26)) ca cb:=by
 have h1:=tb_start w ca cb
 have hs:((w.alloc (.cells ⟨ca⟩ 26)).alloc (.cells ⟨cb⟩ 26)).heap.size= w.heap.size+2:=by simp
 generalize (w.alloc (.cells ⟨ca⟩ 26)).alloc (.cells ⟨cb⟩ 26)= W1 at*
 have h3:=Whole.new W1 zV6 26
 have h4:=box_below W1 (.cells zV6.toArray 26)
 rw[hs] at h3
 exact⟨h1.wa.keep (h4.block _ (by omega)),h1.wb.keep (h4.block _ (by omega)),h3,h1.bel.trans (h4.mono (by omega))⟩
theorem BB.next {w W W':World} {ca cb:List Value} (h:BB w W ca cb) (hb:Below W.heap.size W W'):BB w W' ca cb:=
 ⟨h.wa.keep (hb.block _ h.wa.lt),h.wb.keep (hb.block _ h.wb.lt),h.wr.keep (hb.block _ h.wr.lt),h.bel.trans (hb.mono h.bel.size)⟩
theorem BB.fin {w W Z:World} {ca cb:List Value} (h:BB w W ca cb) (hx:But W Z (w.heap.size+2) (w.heap.size+2)):Below w.heap.size w Z:=h.bel.trans (hx.below (B:=w.heap.size) h.bel.size (by omega) (by omega))
theorem less_ftruetrue (na nb:Int) (fa fb:Nat) (sa sb:ByteArray) (nsa nsb:List ByteArray) (ia ib:List VT) (ca cb:List Value) (w:World) (hx:fLess fa fb= true) (hv:ValAt w w.heap.size ca (.mk 3 na fa sa nsa ia)) (hv2:ValAt w w.heap.size cb (.mk 3 nb fb sb nsb ib)):
  Calls Tryz.prog 121 #[.bool true,.agg ⟨ca⟩,.agg ⟨cb⟩] w fun e w'=>e= .returned (.bool (true))∧Below w.heap.size w w':=by
 have HL:=hid (fLess_any fa fb)
 rw[hx] at HL
 have HQ:=hid (fEqual_any fa fb)
 clear hx
 generalize fEql fa fb= y at*
 have HV:=hid hv
 have HV2:=hid hv2
 obtain⟨vna,via,rfl,hkw,hnw,hfw,hsw,hns,hil,hi⟩:=ValAt.inv hv
 obtain⟨hnl,NA1,na2,rfl,hnA⟩:=hns
 obtain⟨hil2,A,c,rfl,hA⟩:=hi
 obtain⟨vnb,vib,rfl,hkw2,hnw2,hfw2,hsw2,hns2,hil3,hi2⟩:=ValAt.inv hv2
 obtain⟨hnl2,NB1,nb2,rfl,hnB⟩:=hns2
 obtain⟨hil4,B,c2,rfl,hB⟩:=hi2
 clear hkw hnw hfw hsw hnl hnA hil hil2 hA hkw2 hnw2 hfw2 hsw2 hnl2 hnB hil3 hil4 hB hv hv2
 go_enter Tryz.func121,Tryz.ntmps121
 go_upto_region 1 with (fail)
 have HST:=hid (tb_start w [.int .i64 3,.int .i64 na,.float .f64 fa,.string sa,.slice NA1 nsa.length na2,.slice A ia.length c] [.int .i64 3,.int .i64 nb,.float .f64 fb,.string sb,.slice NB1 nsb.length nb2,.slice B ib.length c2])
 generalize (w.alloc (.cells ⟨[.int .i64 3,.int .i64 na,.float .f64 fa,.string sa,.slice NA1 nsa.length na2,.slice A ia.length c]⟩ 26)).alloc (.cells ⟨[.int .i64 3,.int .i64 nb,.float .f64 fb,.string sb,.slice NB1 nsb.length nb2,.slice B ib.length c2]⟩ 26)= W at*
 have d0:W.cell? ⟨w.heap.size,0,none⟩= some (.int .i64 3):=HST.out.wa.cells 0 rfl
 have d2:W.cell? ⟨w.heap.size,2,none⟩= some (.float .f64 fa):=HST.out.wa.cells 2 rfl
 have d5:W.cell? ⟨w.heap.size+1,2,none⟩= some (.float .f64 fb):=HST.out.wb.cells 2 rfl
 go_wp2_with (first|(go_at_call 157;refine(HL.out _).mono ?_;rintro e z ⟨rfl,hzw⟩;rw[hzw];clear hzw z)|(go_at_call 153;refine(HQ.out _).mono ?_;rintro e z ⟨rfl,hzw⟩;rw[hzw];clear hzw z))
 go_ret
 exact⟨rfl,HST.out.bel⟩
theorem less_ftruefalse (na nb:Int) (fa fb:Nat) (sa sb:ByteArray) (nsa nsb:List ByteArray) (ia ib:List VT) (ca cb:List Value) (w:World) (hx:fLess fa fb= false) (hv:ValAt w w.heap.size ca (.mk 3 na fa sa nsa ia)) (hv2:ValAt w w.heap.size cb (.mk 3 nb fb sb nsb ib)):
  Calls Tryz.prog 121 #[.bool true,.agg ⟨ca⟩,.agg ⟨cb⟩] w fun e w'=>e= .returned (.bool (fEql fa fb))∧Below w.heap.size w w':=by
 have HL:=hid (fLess_any fa fb)
 rw[hx] at HL
 have HQ:=hid (fEqual_any fa fb)
 clear hx
 generalize fEql fa fb= y at*
 have HV:=hid hv
 have HV2:=hid hv2
 obtain⟨vna,via,rfl,hkw,hnw,hfw,hsw,hns,hil,hi⟩:=ValAt.inv hv
 obtain⟨hnl,NA1,na2,rfl,hnA⟩:=hns
 obtain⟨hil2,A,c,rfl,hA⟩:=hi
 obtain⟨vnb,vib,rfl,hkw2,hnw2,hfw2,hsw2,hns2,hil3,hi2⟩:=ValAt.inv hv2
 obtain⟨hnl2,NB1,nb2,rfl,hnB⟩:=hns2
 obtain⟨hil4,B,c2,rfl,hB⟩:=hi2
 clear hkw hnw hfw hsw hnl hnA hil hil2 hA hkw2 hnw2 hfw2 hsw2 hnl2 hnB hil3 hil4 hB hv hv2
 go_enter Tryz.func121,Tryz.ntmps121
 go_upto_region 1 with (fail)
 have HST:=hid (tb_start w [.int .i64 3,.int .i64 na,.float .f64 fa,.string sa,.slice NA1 nsa.length na2,.slice A ia.length c] [.int .i64 3,.int .i64 nb,.float .f64 fb,.string sb,.slice NB1 nsb.length nb2,.slice B ib.length c2])
 generalize (w.alloc (.cells ⟨[.int .i64 3,.int .i64 na,.float .f64 fa,.string sa,.slice NA1 nsa.length na2,.slice A ia.length c]⟩ 26)).alloc (.cells ⟨[.int .i64 3,.int .i64 nb,.float .f64 fb,.string sb,.slice NB1 nsb.length nb2,.slice B ib.length c2]⟩ 26)= W at*
 have d0:W.cell? ⟨w.heap.size,0,none⟩= some (.int .i64 3):=HST.out.wa.cells 0 rfl
 have d2:W.cell? ⟨w.heap.size,2,none⟩= some (.float .f64 fa):=HST.out.wa.cells 2 rfl
 have d5:W.cell? ⟨w.heap.size+1,2,none⟩= some (.float .f64 fb):=HST.out.wb.cells 2 rfl
 go_wp2_with (first|(go_at_call 157;refine(HL.out _).mono ?_;rintro e z ⟨rfl,hzw⟩;rw[hzw];clear hzw z)|(go_at_call 153;refine(HQ.out _).mono ?_;rintro e z ⟨rfl,hzw⟩;rw[hzw];clear hzw z))
 go_ret
 exact⟨rfl,HST.out.bel⟩
theorem less_ftrue (na nb:Int) (fa fb:Nat) (sa sb:ByteArray) (nsa nsb:List ByteArray) (ia ib:List VT) (ca cb:List Value) (w:World) (hv:ValAt w w.heap.size ca (.mk 3 na fa sa nsa ia)) (hv2:ValAt w w.heap.size cb (.mk 3 nb fb sb nsb ib)):
  Calls Tryz.prog 121 #[.bool true,.agg ⟨ca⟩,.agg ⟨cb⟩] w fun e w'=>e= .returned (.bool (fLess fa fb ||(true && fEql fa fb)))∧Below w.heap.size w w':=by
 cases hx:fLess fa fb with
 |true=>exact less_ftruetrue na nb fa fb sa sb nsa nsb ia ib ca cb w hx hv hv2
 |false=>exact less_ftruefalse na nb fa fb sa sb nsa nsb ia ib ca cb w hx hv hv2
theorem less_ffalsetrue (na nb:Int) (fa fb:Nat) (sa sb:ByteArray) (nsa nsb:List ByteArray) (ia ib:List VT) (ca cb:List Value) (w:World) (hx:fLess fa fb= true) (hv:ValAt w w.heap.size ca (.mk 3 na fa sa nsa ia)) (hv2:ValAt w w.heap.size cb (.mk 3 nb fb sb nsb ib)):
  Calls Tryz.prog 121 #[.bool false,.agg ⟨ca⟩,.agg ⟨cb⟩] w fun e w'=>e= .returned (.bool (true))∧Below w.heap.size w w':=by
 have HL:=hid (fLess_any fa fb)
 rw[hx] at HL
 have HQ:=hid (fEqual_any fa fb)
 clear hx
 generalize fEql fa fb= y at*
 have HV:=hid hv
 have HV2:=hid hv2
 obtain⟨vna,via,rfl,hkw,hnw,hfw,hsw,hns,hil,hi⟩:=ValAt.inv hv
 obtain⟨hnl,NA1,na2,rfl,hnA⟩:=hns
 obtain⟨hil2,A,c,rfl,hA⟩:=hi
 obtain⟨vnb,vib,rfl,hkw2,hnw2,hfw2,hsw2,hns2,hil3,hi2⟩:=ValAt.inv hv2
 obtain⟨hnl2,NB1,nb2,rfl,hnB⟩:=hns2
 obtain⟨hil4,B,c2,rfl,hB⟩:=hi2
 clear hkw hnw hfw hsw hnl hnA hil hil2 hA hkw2 hnw2 hfw2 hsw2 hnl2 hnB hil3 hil4 hB hv hv2
 go_enter Tryz.func121,Tryz.ntmps121
 go_upto_region 1 with (fail)
 have HST:=hid (tb_start w [.int .i64 3,.int .i64 na,.float .f64 fa,.string sa,.slice NA1 nsa.length na2,.slice A ia.length c] [.int .i64 3,.int .i64 nb,.float .f64 fb,.string sb,.slice NB1 nsb.length nb2,.slice B ib.length c2])
 generalize (w.alloc (.cells ⟨[.int .i64 3,.int .i64 na,.float .f64 fa,.string sa,.slice NA1 nsa.length na2,.slice A ia.length c]⟩ 26)).alloc (.cells ⟨[.int .i64 3,.int .i64 nb,.float .f64 fb,.string sb,.slice NB1 nsb.length nb2,.slice B ib.length c2]⟩ 26)= W at*
 have d0:W.cell? ⟨w.heap.size,0,none⟩= some (.int .i64 3):=HST.out.wa.cells 0 rfl
 have d2:W.cell? ⟨w.heap.size,2,none⟩= some (.float .f64 fa):=HST.out.wa.cells 2 rfl
 have d5:W.cell? ⟨w.heap.size+1,2,none⟩= some (.float .f64 fb):=HST.out.wb.cells 2 rfl
 go_wp2_with (first|(go_at_call 157;refine(HL.out _).mono ?_;rintro e z ⟨rfl,hzw⟩;rw[hzw];clear hzw z)|(go_at_call 153;refine(HQ.out _).mono ?_;rintro e z ⟨rfl,hzw⟩;rw[hzw];clear hzw z))
 go_ret
 exact⟨rfl,HST.out.bel⟩
theorem less_ffalsefalse (na nb:Int) (fa fb:Nat) (sa sb:ByteArray) (nsa nsb:List ByteArray) (ia ib:List VT) (ca cb:List Value) (w:World) (hx:fLess fa fb= false) (hv:ValAt w w.heap.size ca (.mk 3 na fa sa nsa ia)) (hv2:ValAt w w.heap.size cb (.mk 3 nb fb sb nsb ib)):
  Calls Tryz.prog 121 #[.bool false,.agg ⟨ca⟩,.agg ⟨cb⟩] w fun e w'=>e= .returned (.bool (false))∧Below w.heap.size w w':=by
 have HL:=hid (fLess_any fa fb)
 rw[hx] at HL
 have HQ:=hid (fEqual_any fa fb)
 clear hx
 generalize fEql fa fb= y at*
 have HV:=hid hv
 have HV2:=hid hv2
 obtain⟨vna,via,rfl,hkw,hnw,hfw,hsw,hns,hil,hi⟩:=ValAt.inv hv
 obtain⟨hnl,NA1,na2,rfl,hnA⟩:=hns
 obtain⟨hil2,A,c,rfl,hA⟩:=hi
 obtain⟨vnb,vib,rfl,hkw2,hnw2,hfw2,hsw2,hns2,hil3,hi2⟩:=ValAt.inv hv2
 obtain⟨hnl2,NB1,nb2,rfl,hnB⟩:=hns2
 obtain⟨hil4,B,c2,rfl,hB⟩:=hi2
 clear hkw hnw hfw hsw hnl hnA hil hil2 hA hkw2 hnw2 hfw2 hsw2 hnl2 hnB hil3 hil4 hB hv hv2
 go_enter Tryz.func121,Tryz.ntmps121
 go_upto_region 1 with (fail)
 have HST:=hid (tb_start w [.int .i64 3,.int .i64 na,.float .f64 fa,.string sa,.slice NA1 nsa.length na2,.slice A ia.length c] [.int .i64 3,.int .i64 nb,.float .f64 fb,.string sb,.slice NB1 nsb.length nb2,.slice B ib.length c2])
 generalize (w.alloc (.cells ⟨[.int .i64 3,.int .i64 na,.float .f64 fa,.string sa,.slice NA1 nsa.length na2,.slice A ia.length c]⟩ 26)).alloc (.cells ⟨[.int .i64 3,.int .i64 nb,.float .f64 fb,.string sb,.slice NB1 nsb.length nb2,.slice B ib.length c2]⟩ 26)= W at*
 have d0:W.cell? ⟨w.heap.size,0,none⟩= some (.int .i64 3):=HST.out.wa.cells 0 rfl
 have d2:W.cell? ⟨w.heap.size,2,none⟩= some (.float .f64 fa):=HST.out.wa.cells 2 rfl
 have d5:W.cell? ⟨w.heap.size+1,2,none⟩= some (.float .f64 fb):=HST.out.wb.cells 2 rfl
 go_wp2_with (first|(go_at_call 157;refine(HL.out _).mono ?_;rintro e z ⟨rfl,hzw⟩;rw[hzw];clear hzw z)|(go_at_call 153;refine(HQ.out _).mono ?_;rintro e z ⟨rfl,hzw⟩;rw[hzw];clear hzw z))
 go_ret
 exact⟨rfl,HST.out.bel⟩
theorem less_ffalse (na nb:Int) (fa fb:Nat) (sa sb:ByteArray) (nsa nsb:List ByteArray) (ia ib:List VT) (ca cb:List Value) (w:World) (hv:ValAt w w.heap.size ca (.mk 3 na fa sa nsa ia)) (hv2:ValAt w w.heap.size cb (.mk 3 nb fb sb nsb ib)):
  Calls Tryz.prog 121 #[.bool false,.agg ⟨ca⟩,.agg ⟨cb⟩] w fun e w'=>e= .returned (.bool (fLess fa fb ||(false && fEql fa fb)))∧Below w.heap.size w w':=by
 cases hx:fLess fa fb with
 |true=>exact less_ffalsetrue na nb fa fb sa sb nsa nsb ia ib ca cb w hx hv hv2
 |false=>exact less_ffalsefalse na nb fa fb sa sb nsa nsb ia ib ca cb w hx hv hv2
theorem less_o2truetrue (na nb:Int) (fa fb:Nat) (sa sb:ByteArray) (nsa nsb:List ByteArray) (ia ib:List VT) (ca cb:List Value) (w:World) (r:Int) (hb:decide (r < 0)= true) (hv:ValAt w w.heap.size ca (.mk 2 na fa sa nsa ia)) (hv2:ValAt w w.heap.size cb (.mk 2 nb fb sb nsb ib)) (hord:ordV (.mk 2 na fa sa nsa ia) (.mk 2 nb fb sb nsb ib)= r):
  Calls Tryz.prog 121 #[.bool true,.agg ⟨ca⟩,.agg ⟨cb⟩] w fun e w'=>e= .returned (.bool true)∧Below w.heap.size w w':=by
 have HORD:=hid hord
 clear hord
 have HV:=hid hv
 have HV2:=hid hv2
 obtain⟨vna,via,rfl,hkw,hnw,hfw,hsw,hns,hil,hi⟩:=ValAt.inv hv
 obtain⟨hnl,NA1,na2,rfl,hnA⟩:=hns
 obtain⟨hil2,A,c,rfl,hA⟩:=hi
 obtain⟨vnb,vib,rfl,hkw2,hnw2,hfw2,hsw2,hns2,hil3,hi2⟩:=ValAt.inv hv2
 obtain⟨hnl2,NB1,nb2,rfl,hnB⟩:=hns2
 obtain⟨hil4,B,c2,rfl,hB⟩:=hi2
 clear hkw hnw hfw hsw hnl hnA hil hil2 hA hkw2 hnw2 hfw2 hsw2 hnl2 hnB hil3 hil4 hB hv hv2
 go_enter Tryz.func121,Tryz.ntmps121
 go_upto_region 1 with (fail)
 have HST:=hid (tb_start w [.int .i64 2,.int .i64 na,.float .f64 fa,.string sa,.slice NA1 nsa.length na2,.slice A ia.length c] [.int .i64 2,.int .i64 nb,.float .f64 fb,.string sb,.slice NB1 nsb.length nb2,.slice B ib.length c2])
 generalize (w.alloc (.cells ⟨[.int .i64 2,.int .i64 na,.float .f64 fa,.string sa,.slice NA1 nsa.length na2,.slice A ia.length c]⟩ 26)).alloc (.cells ⟨[.int .i64 2,.int .i64 nb,.float .f64 fb,.string sb,.slice NB1 nsb.length nb2,.slice B ib.length c2]⟩ 26)= W at*
 have d0:W.cell? ⟨w.heap.size,0,none⟩= some (.int .i64 2):=HST.out.wa.cells 0 rfl
 have HVO:=hid (vorder _ _ _ _ W ((HV.out.under HST.out.bel).more HST.out.bel.size) ((HV2.out.under HST.out.bel).more HST.out.bel.size))
 rw[HORD.out] at HVO
 go_upto_region 7 with (first|((with_reducible refine wl_sload 26 _ rfl ?hwa w.heap.size 0 [.int .i64 2,.int .i64 na,.float .f64 fa,.string sa,.slice NA1 nsa.length na2,.slice A ia.length c] _ rfl HST.out.wa.range Tryz.underlying26 rfl ?hia ?_);(case hwa=>(first|exact wanted_none rfl|exact wanted_if rfl rfl rfl rfl));(case hia=>kernel_rfl))|((with_reducible refine wl_sload 26 _ rfl ?hwb (w.heap.size+1) 0 [.int .i64 2,.int .i64 nb,.float .f64 fb,.string sb,.slice NB1 nsb.length nb2,.slice B ib.length c2] _ rfl HST.out.wb.range Tryz.underlying26 rfl ?hib ?_);(case hwb=>(first|exact wanted_none rfl|exact wanted_if rfl rfl rfl rfl));(case hib=>kernel_rfl))|(go_at_call 158;refine HVO.out.mono ?_;rintro e z ⟨rfl,hb⟩;have HBZ:=hid hb;clear hb))
 go_wp2
 go_ret
 exact⟨rfl,HST.out.bel.trans (HBZ.out.mono HST.out.bel.size)⟩
theorem less_o2truefalse (na nb:Int) (fa fb:Nat) (sa sb:ByteArray) (nsa nsb:List ByteArray) (ia ib:List VT) (ca cb:List Value) (w:World) (r:Int) (hb:decide (r < 0)= false) (hv:ValAt w w.heap.size ca (.mk 2 na fa sa nsa ia)) (hv2:ValAt w w.heap.size cb (.mk 2 nb fb sb nsb ib)) (hord:ordV (.mk 2 na fa sa nsa ia) (.mk 2 nb fb sb nsb ib)= r):
  Calls Tryz.prog 121 #[.bool true,.agg ⟨ca⟩,.agg ⟨cb⟩] w fun e w'=>e= .returned (.bool (r ==0))∧Below w.heap.size w w':=by
 have HORD:=hid hord
 clear hord
 have HV:=hid hv
 have HV2:=hid hv2
 obtain⟨vna,via,rfl,hkw,hnw,hfw,hsw,hns,hil,hi⟩:=ValAt.inv hv
 obtain⟨hnl,NA1,na2,rfl,hnA⟩:=hns
 obtain⟨hil2,A,c,rfl,hA⟩:=hi
 obtain⟨vnb,vib,rfl,hkw2,hnw2,hfw2,hsw2,hns2,hil3,hi2⟩:=ValAt.inv hv2
 obtain⟨hnl2,NB1,nb2,rfl,hnB⟩:=hns2
 obtain⟨hil4,B,c2,rfl,hB⟩:=hi2
 clear hkw hnw hfw hsw hnl hnA hil hil2 hA hkw2 hnw2 hfw2 hsw2 hnl2 hnB hil3 hil4 hB hv hv2
 go_enter Tryz.func121,Tryz.ntmps121
 go_upto_region 1 with (fail)
 have HST:=hid (tb_start w [.int .i64 2,.int .i64 na,.float .f64 fa,.string sa,.slice NA1 nsa.length na2,.slice A ia.length c] [.int .i64 2,.int .i64 nb,.float .f64 fb,.string sb,.slice NB1 nsb.length nb2,.slice B ib.length c2])
 generalize (w.alloc (.cells ⟨[.int .i64 2,.int .i64 na,.float .f64 fa,.string sa,.slice NA1 nsa.length na2,.slice A ia.length c]⟩ 26)).alloc (.cells ⟨[.int .i64 2,.int .i64 nb,.float .f64 fb,.string sb,.slice NB1 nsb.length nb2,.slice B ib.length c2]⟩ 26)= W at*
 have d0:W.cell? ⟨w.heap.size,0,none⟩= some (.int .i64 2):=HST.out.wa.cells 0 rfl
 have HVO:=hid (vorder _ _ _ _ W ((HV.out.under HST.out.bel).more HST.out.bel.size) ((HV2.out.under HST.out.bel).more HST.out.bel.size))
 rw[HORD.out] at HVO
 go_upto_region 7 with (first|((with_reducible refine wl_sload 26 _ rfl ?hwa w.heap.size 0 [.int .i64 2,.int .i64 na,.float .f64 fa,.string sa,.slice NA1 nsa.length na2,.slice A ia.length c] _ rfl HST.out.wa.range Tryz.underlying26 rfl ?hia ?_);(case hwa=>(first|exact wanted_none rfl|exact wanted_if rfl rfl rfl rfl));(case hia=>kernel_rfl))|((with_reducible refine wl_sload 26 _ rfl ?hwb (w.heap.size+1) 0 [.int .i64 2,.int .i64 nb,.float .f64 fb,.string sb,.slice NB1 nsb.length nb2,.slice B ib.length c2] _ rfl HST.out.wb.range Tryz.underlying26 rfl ?hib ?_);(case hwb=>(first|exact wanted_none rfl|exact wanted_if rfl rfl rfl rfl));(case hib=>kernel_rfl))|(go_at_call 158;refine HVO.out.mono ?_;rintro e z ⟨rfl,hb⟩;have HBZ:=hid hb;clear hb))
 go_wp2
 go_ret
 exact⟨rfl,HST.out.bel.trans (HBZ.out.mono HST.out.bel.size)⟩
theorem less_o2true (na nb:Int) (fa fb:Nat) (sa sb:ByteArray) (nsa nsb:List ByteArray) (ia ib:List VT) (ca cb:List Value) (w:World) (r:Int) (hv:ValAt w w.heap.size ca (.mk 2 na fa sa nsa ia)) (hv2:ValAt w w.heap.size cb (.mk 2 nb fb sb nsb ib)) (hord:ordV (.mk 2 na fa sa nsa ia) (.mk 2 nb fb sb nsb ib)= r):
  Calls Tryz.prog 121 #[.bool true,.agg ⟨ca⟩,.agg ⟨cb⟩] w fun e w'=>e= .returned (.bool (decide (r < 0) ||(true && (r ==0))))∧Below w.heap.size w w':=by
 cases hb:decide (r < 0) with
 |true=>exact less_o2truetrue na nb fa fb sa sb nsa nsb ia ib ca cb w r hb hv hv2 hord
 |false=>exact less_o2truefalse na nb fa fb sa sb nsa nsb ia ib ca cb w r hb hv hv2 hord
theorem less_o2falsetrue (na nb:Int) (fa fb:Nat) (sa sb:ByteArray) (nsa nsb:List ByteArray) (ia ib:List VT) (ca cb:List Value) (w:World) (r:Int) (hb:decide (r < 0)= true) (hv:ValAt w w.heap.size ca (.mk 2 na fa sa nsa ia)) (hv2:ValAt w w.heap.size cb (.mk 2 nb fb sb nsb ib)) (hord:ordV (.mk 2 na fa sa nsa ia) (.mk 2 nb fb sb nsb ib)= r):
  Calls Tryz.prog 121 #[.bool false,.agg ⟨ca⟩,.agg ⟨cb⟩] w fun e w'=>e= .returned (.bool true)∧Below w.heap.size w w':=by
 have HORD:=hid hord
 clear hord
 have HV:=hid hv
 have HV2:=hid hv2
 obtain⟨vna,via,rfl,hkw,hnw,hfw,hsw,hns,hil,hi⟩:=ValAt.inv hv
 obtain⟨hnl,NA1,na2,rfl,hnA⟩:=hns
 obtain⟨hil2,A,c,rfl,hA⟩:=hi
 obtain⟨vnb,vib,rfl,hkw2,hnw2,hfw2,hsw2,hns2,hil3,hi2⟩:=ValAt.inv hv2
 obtain⟨hnl2,NB1,nb2,rfl,hnB⟩:=hns2
 obtain⟨hil4,B,c2,rfl,hB⟩:=hi2
 clear hkw hnw hfw hsw hnl hnA hil hil2 hA hkw2 hnw2 hfw2 hsw2 hnl2 hnB hil3 hil4 hB hv hv2
 go_enter Tryz.func121,Tryz.ntmps121
 go_upto_region 1 with (fail)
 have HST:=hid (tb_start w [.int .i64 2,.int .i64 na,.float .f64 fa,.string sa,.slice NA1 nsa.length na2,.slice A ia.length c] [.int .i64 2,.int .i64 nb,.float .f64 fb,.string sb,.slice NB1 nsb.length nb2,.slice B ib.length c2])
 generalize (w.alloc (.cells ⟨[.int .i64 2,.int .i64 na,.float .f64 fa,.string sa,.slice NA1 nsa.length na2,.slice A ia.length c]⟩ 26)).alloc (.cells ⟨[.int .i64 2,.int .i64 nb,.float .f64 fb,.string sb,.slice NB1 nsb.length nb2,.slice B ib.length c2]⟩ 26)= W at*
 have d0:W.cell? ⟨w.heap.size,0,none⟩= some (.int .i64 2):=HST.out.wa.cells 0 rfl
 have HVO:=hid (vorder _ _ _ _ W ((HV.out.under HST.out.bel).more HST.out.bel.size) ((HV2.out.under HST.out.bel).more HST.out.bel.size))
 rw[HORD.out] at HVO
 go_upto_region 7 with (first|((with_reducible refine wl_sload 26 _ rfl ?hwa w.heap.size 0 [.int .i64 2,.int .i64 na,.float .f64 fa,.string sa,.slice NA1 nsa.length na2,.slice A ia.length c] _ rfl HST.out.wa.range Tryz.underlying26 rfl ?hia ?_);(case hwa=>(first|exact wanted_none rfl|exact wanted_if rfl rfl rfl rfl));(case hia=>kernel_rfl))|((with_reducible refine wl_sload 26 _ rfl ?hwb (w.heap.size+1) 0 [.int .i64 2,.int .i64 nb,.float .f64 fb,.string sb,.slice NB1 nsb.length nb2,.slice B ib.length c2] _ rfl HST.out.wb.range Tryz.underlying26 rfl ?hib ?_);(case hwb=>(first|exact wanted_none rfl|exact wanted_if rfl rfl rfl rfl));(case hib=>kernel_rfl))|(go_at_call 158;refine HVO.out.mono ?_;rintro e z ⟨rfl,hb⟩;have HBZ:=hid hb;clear hb))
 go_wp2
 go_ret
 exact⟨rfl,HST.out.bel.trans (HBZ.out.mono HST.out.bel.size)⟩
theorem less_o2falsefalse (na nb:Int) (fa fb:Nat) (sa sb:ByteArray) (nsa nsb:List ByteArray) (ia ib:List VT) (ca cb:List Value) (w:World) (r:Int) (hb:decide (r < 0)= false) (hv:ValAt w w.heap.size ca (.mk 2 na fa sa nsa ia)) (hv2:ValAt w w.heap.size cb (.mk 2 nb fb sb nsb ib)) (hord:ordV (.mk 2 na fa sa nsa ia) (.mk 2 nb fb sb nsb ib)= r):
  Calls Tryz.prog 121 #[.bool false,.agg ⟨ca⟩,.agg ⟨cb⟩] w fun e w'=>e= .returned (.bool false)∧Below w.heap.size w w':=by
 have HORD:=hid hord
 clear hord
 have HV:=hid hv
 have HV2:=hid hv2
 obtain⟨vna,via,rfl,hkw,hnw,hfw,hsw,hns,hil,hi⟩:=ValAt.inv hv
 obtain⟨hnl,NA1,na2,rfl,hnA⟩:=hns
 obtain⟨hil2,A,c,rfl,hA⟩:=hi
 obtain⟨vnb,vib,rfl,hkw2,hnw2,hfw2,hsw2,hns2,hil3,hi2⟩:=ValAt.inv hv2
 obtain⟨hnl2,NB1,nb2,rfl,hnB⟩:=hns2
 obtain⟨hil4,B,c2,rfl,hB⟩:=hi2
 clear hkw hnw hfw hsw hnl hnA hil hil2 hA hkw2 hnw2 hfw2 hsw2 hnl2 hnB hil3 hil4 hB hv hv2
 go_enter Tryz.func121,Tryz.ntmps121
 go_upto_region 1 with (fail)
 have HST:=hid (tb_start w [.int .i64 2,.int .i64 na,.float .f64 fa,.string sa,.slice NA1 nsa.length na2,.slice A ia.length c] [.int .i64 2,.int .i64 nb,.float .f64 fb,.string sb,.slice NB1 nsb.length nb2,.slice B ib.length c2])
 generalize (w.alloc (.cells ⟨[.int .i64 2,.int .i64 na,.float .f64 fa,.string sa,.slice NA1 nsa.length na2,.slice A ia.length c]⟩ 26)).alloc (.cells ⟨[.int .i64 2,.int .i64 nb,.float .f64 fb,.string sb,.slice NB1 nsb.length nb2,.slice B ib.length c2]⟩ 26)= W at*
 have d0:W.cell? ⟨w.heap.size,0,none⟩= some (.int .i64 2):=HST.out.wa.cells 0 rfl
 have HVO:=hid (vorder _ _ _ _ W ((HV.out.under HST.out.bel).more HST.out.bel.size) ((HV2.out.under HST.out.bel).more HST.out.bel.size))
 rw[HORD.out] at HVO
 go_upto_region 7 with (first|((with_reducible refine wl_sload 26 _ rfl ?hwa w.heap.size 0 [.int .i64 2,.int .i64 na,.float .f64 fa,.string sa,.slice NA1 nsa.length na2,.slice A ia.length c] _ rfl HST.out.wa.range Tryz.underlying26 rfl ?hia ?_);(case hwa=>(first|exact wanted_none rfl|exact wanted_if rfl rfl rfl rfl));(case hia=>kernel_rfl))|((with_reducible refine wl_sload 26 _ rfl ?hwb (w.heap.size+1) 0 [.int .i64 2,.int .i64 nb,.float .f64 fb,.string sb,.slice NB1 nsb.length nb2,.slice B ib.length c2] _ rfl HST.out.wb.range Tryz.underlying26 rfl ?hib ?_);(case hwb=>(first|exact wanted_none rfl|exact wanted_if rfl rfl rfl rfl));(case hib=>kernel_rfl))|(go_at_call 158;refine HVO.out.mono ?_;rintro e z ⟨rfl,hb⟩;have HBZ:=hid hb;clear hb))
 go_wp2
 go_ret
 exact⟨rfl,HST.out.bel.trans (HBZ.out.mono HST.out.bel.size)⟩
theorem less_o2false (na nb:Int) (fa fb:Nat) (sa sb:ByteArray) (nsa nsb:List ByteArray) (ia ib:List VT) (ca cb:List Value) (w:World) (r:Int) (hv:ValAt w w.heap.size ca (.mk 2 na fa sa nsa ia)) (hv2:ValAt w w.heap.size cb (.mk 2 nb fb sb nsb ib)) (hord:ordV (.mk 2 na fa sa nsa ia) (.mk 2 nb fb sb nsb ib)= r):
  Calls Tryz.prog 121 #[.bool false,.agg ⟨ca⟩,.agg ⟨cb⟩] w fun e w'=>e= .returned (.bool (decide (r < 0) ||(false && (r ==0))))∧Below w.heap.size w w':=by
 cases hb:decide (r < 0) with
 |true=>exact less_o2falsetrue na nb fa fb sa sb nsa nsb ia ib ca cb w r hb hv hv2 hord
 |false=>exact less_o2falsefalse na nb fa fb sa sb nsa nsb ia ib ca cb w r hb hv hv2 hord
theorem less_o4truetrue (na nb:Int) (fa fb:Nat) (sa sb:ByteArray) (nsa nsb:List ByteArray) (ia ib:List VT) (ca cb:List Value) (w:World) (r:Int) (hb:decide (r < 0)= true) (hv:ValAt w w.heap.size ca (.mk 4 na fa sa nsa ia)) (hv2:ValAt w w.heap.size cb (.mk 4 nb fb sb nsb ib)) (hord:ordV (.mk 4 na fa sa nsa ia) (.mk 4 nb fb sb nsb ib)= r):
  Calls Tryz.prog 121 #[.bool true,.agg ⟨ca⟩,.agg ⟨cb⟩] w fun e w'=>e= .returned (.bool true)∧Below w.heap.size w w':=by
 have HORD:=hid hord
 clear hord
 have HV:=hid hv
 have HV2:=hid hv2
 obtain⟨vna,via,rfl,hkw,hnw,hfw,hsw,hns,hil,hi⟩:=ValAt.inv hv
 obtain⟨hnl,NA1,na2,rfl,hnA⟩:=hns
 obtain⟨hil2,A,c,rfl,hA⟩:=hi
 obtain⟨vnb,vib,rfl,hkw2,hnw2,hfw2,hsw2,hns2,hil3,hi2⟩:=ValAt.inv hv2
 obtain⟨hnl2,NB1,nb2,rfl,hnB⟩:=hns2
 obtain⟨hil4,B,c2,rfl,hB⟩:=hi2
 clear hkw hnw hfw hsw hnl hnA hil hil2 hA hkw2 hnw2 hfw2 hsw2 hnl2 hnB hil3 hil4 hB hv hv2
 go_enter Tryz.func121,Tryz.ntmps121
 go_upto_region 1 with (fail)
 have HST:=hid (tb_start w [.int .i64 4,.int .i64 na,.float .f64 fa,.string sa,.slice NA1 nsa.length na2,.slice A ia.length c] [.int .i64 4,.int .i64 nb,.float .f64 fb,.string sb,.slice NB1 nsb.length nb2,.slice B ib.length c2])
 generalize (w.alloc (.cells ⟨[.int .i64 4,.int .i64 na,.float .f64 fa,.string sa,.slice NA1 nsa.length na2,.slice A ia.length c]⟩ 26)).alloc (.cells ⟨[.int .i64 4,.int .i64 nb,.float .f64 fb,.string sb,.slice NB1 nsb.length nb2,.slice B ib.length c2]⟩ 26)= W at*
 have d0:W.cell? ⟨w.heap.size,0,none⟩= some (.int .i64 4):=HST.out.wa.cells 0 rfl
 have HVO:=hid (vorder _ _ _ _ W ((HV.out.under HST.out.bel).more HST.out.bel.size) ((HV2.out.under HST.out.bel).more HST.out.bel.size))
 rw[HORD.out] at HVO
 go_upto_region 7 with (first|((with_reducible refine wl_sload 26 _ rfl ?hwa w.heap.size 0 [.int .i64 4,.int .i64 na,.float .f64 fa,.string sa,.slice NA1 nsa.length na2,.slice A ia.length c] _ rfl HST.out.wa.range Tryz.underlying26 rfl ?hia ?_);(case hwa=>(first|exact wanted_none rfl|exact wanted_if rfl rfl rfl rfl));(case hia=>kernel_rfl))|((with_reducible refine wl_sload 26 _ rfl ?hwb (w.heap.size+1) 0 [.int .i64 4,.int .i64 nb,.float .f64 fb,.string sb,.slice NB1 nsb.length nb2,.slice B ib.length c2] _ rfl HST.out.wb.range Tryz.underlying26 rfl ?hib ?_);(case hwb=>(first|exact wanted_none rfl|exact wanted_if rfl rfl rfl rfl));(case hib=>kernel_rfl))|(go_at_call 158;refine HVO.out.mono ?_;rintro e z ⟨rfl,hb⟩;have HBZ:=hid hb;clear hb))
 go_wp2
 go_ret
 exact⟨rfl,HST.out.bel.trans (HBZ.out.mono HST.out.bel.size)⟩
theorem less_o4truefalse (na nb:Int) (fa fb:Nat) (sa sb:ByteArray) (nsa nsb:List ByteArray) (ia ib:List VT) (ca cb:List Value) (w:World) (r:Int) (hb:decide (r < 0)= false) (hv:ValAt w w.heap.size ca (.mk 4 na fa sa nsa ia)) (hv2:ValAt w w.heap.size cb (.mk 4 nb fb sb nsb ib)) (hord:ordV (.mk 4 na fa sa nsa ia) (.mk 4 nb fb sb nsb ib)= r):
  Calls Tryz.prog 121 #[.bool true,.agg ⟨ca⟩,.agg ⟨cb⟩] w fun e w'=>e= .returned (.bool (r ==0))∧Below w.heap.size w w':=by
 have HORD:=hid hord
 clear hord
 have HV:=hid hv
 have HV2:=hid hv2
 obtain⟨vna,via,rfl,hkw,hnw,hfw,hsw,hns,hil,hi⟩:=ValAt.inv hv
 obtain⟨hnl,NA1,na2,rfl,hnA⟩:=hns
 obtain⟨hil2,A,c,rfl,hA⟩:=hi
 obtain⟨vnb,vib,rfl,hkw2,hnw2,hfw2,hsw2,hns2,hil3,hi2⟩:=ValAt.inv hv2
 obtain⟨hnl2,NB1,nb2,rfl,hnB⟩:=hns2
 obtain⟨hil4,B,c2,rfl,hB⟩:=hi2
 clear hkw hnw hfw hsw hnl hnA hil hil2 hA hkw2 hnw2 hfw2 hsw2 hnl2 hnB hil3 hil4 hB hv hv2
 go_enter Tryz.func121,Tryz.ntmps121
 go_upto_region 1 with (fail)
 have HST:=hid (tb_start w [.int .i64 4,.int .i64 na,.float .f64 fa,.string sa,.slice NA1 nsa.length na2,.slice A ia.length c] [.int .i64 4,.int .i64 nb,.float .f64 fb,.string sb,.slice NB1 nsb.length nb2,.slice B ib.length c2])
 generalize (w.alloc (.cells ⟨[.int .i64 4,.int .i64 na,.float .f64 fa,.string sa,.slice NA1 nsa.length na2,.slice A ia.length c]⟩ 26)).alloc (.cells ⟨[.int .i64 4,.int .i64 nb,.float .f64 fb,.string sb,.slice NB1 nsb.length nb2,.slice B ib.length c2]⟩ 26)= W at*
 have d0:W.cell? ⟨w.heap.size,0,none⟩= some (.int .i64 4):=HST.out.wa.cells 0 rfl
 have HVO:=hid (vorder _ _ _ _ W ((HV.out.under HST.out.bel).more HST.out.bel.size) ((HV2.out.under HST.out.bel).more HST.out.bel.size))
 rw[HORD.out] at HVO
 go_upto_region 7 with (first|((with_reducible refine wl_sload 26 _ rfl ?hwa w.heap.size 0 [.int .i64 4,.int .i64 na,.float .f64 fa,.string sa,.slice NA1 nsa.length na2,.slice A ia.length c] _ rfl HST.out.wa.range Tryz.underlying26 rfl ?hia ?_);(case hwa=>(first|exact wanted_none rfl|exact wanted_if rfl rfl rfl rfl));(case hia=>kernel_rfl))|((with_reducible refine wl_sload 26 _ rfl ?hwb (w.heap.size+1) 0 [.int .i64 4,.int .i64 nb,.float .f64 fb,.string sb,.slice NB1 nsb.length nb2,.slice B ib.length c2] _ rfl HST.out.wb.range Tryz.underlying26 rfl ?hib ?_);(case hwb=>(first|exact wanted_none rfl|exact wanted_if rfl rfl rfl rfl));(case hib=>kernel_rfl))|(go_at_call 158;refine HVO.out.mono ?_;rintro e z ⟨rfl,hb⟩;have HBZ:=hid hb;clear hb))
 go_wp2
 go_ret
 exact⟨rfl,HST.out.bel.trans (HBZ.out.mono HST.out.bel.size)⟩
theorem less_o4true (na nb:Int) (fa fb:Nat) (sa sb:ByteArray) (nsa nsb:List ByteArray) (ia ib:List VT) (ca cb:List Value) (w:World) (r:Int) (hv:ValAt w w.heap.size ca (.mk 4 na fa sa nsa ia)) (hv2:ValAt w w.heap.size cb (.mk 4 nb fb sb nsb ib)) (hord:ordV (.mk 4 na fa sa nsa ia) (.mk 4 nb fb sb nsb ib)= r):
  Calls Tryz.prog 121 #[.bool true,.agg ⟨ca⟩,.agg ⟨cb⟩] w fun e w'=>e= .returned (.bool (decide (r < 0) ||(true && (r ==0))))∧Below w.heap.size w w':=by
 cases hb:decide (r < 0) with
 |true=>exact less_o4truetrue na nb fa fb sa sb nsa nsb ia ib ca cb w r hb hv hv2 hord
 |false=>exact less_o4truefalse na nb fa fb sa sb nsa nsb ia ib ca cb w r hb hv hv2 hord
theorem less_o4falsetrue (na nb:Int) (fa fb:Nat) (sa sb:ByteArray) (nsa nsb:List ByteArray) (ia ib:List VT) (ca cb:List Value) (w:World) (r:Int) (hb:decide (r < 0)= true) (hv:ValAt w w.heap.size ca (.mk 4 na fa sa nsa ia)) (hv2:ValAt w w.heap.size cb (.mk 4 nb fb sb nsb ib)) (hord:ordV (.mk 4 na fa sa nsa ia) (.mk 4 nb fb sb nsb ib)= r):
  Calls Tryz.prog 121 #[.bool false,.agg ⟨ca⟩,.agg ⟨cb⟩] w fun e w'=>e= .returned (.bool true)∧Below w.heap.size w w':=by
 have HORD:=hid hord
 clear hord
 have HV:=hid hv
 have HV2:=hid hv2
 obtain⟨vna,via,rfl,hkw,hnw,hfw,hsw,hns,hil,hi⟩:=ValAt.inv hv
 obtain⟨hnl,NA1,na2,rfl,hnA⟩:=hns
 obtain⟨hil2,A,c,rfl,hA⟩:=hi
 obtain⟨vnb,vib,rfl,hkw2,hnw2,hfw2,hsw2,hns2,hil3,hi2⟩:=ValAt.inv hv2
 obtain⟨hnl2,NB1,nb2,rfl,hnB⟩:=hns2
 obtain⟨hil4,B,c2,rfl,hB⟩:=hi2
 clear hkw hnw hfw hsw hnl hnA hil hil2 hA hkw2 hnw2 hfw2 hsw2 hnl2 hnB hil3 hil4 hB hv hv2
 go_enter Tryz.func121,Tryz.ntmps121
 go_upto_region 1 with (fail)
 have HST:=hid (tb_start w [.int .i64 4,.int .i64 na,.float .f64 fa,.string sa,.slice NA1 nsa.length na2,.slice A ia.length c] [.int .i64 4,.int .i64 nb,.float .f64 fb,.string sb,.slice NB1 nsb.length nb2,.slice B ib.length c2])
 generalize (w.alloc (.cells ⟨[.int .i64 4,.int .i64 na,.float .f64 fa,.string sa,.slice NA1 nsa.length na2,.slice A ia.length c]⟩ 26)).alloc (.cells ⟨[.int .i64 4,.int .i64 nb,.float .f64 fb,.string sb,.slice NB1 nsb.length nb2,.slice B ib.length c2]⟩ 26)= W at*
 have d0:W.cell? ⟨w.heap.size,0,none⟩= some (.int .i64 4):=HST.out.wa.cells 0 rfl
 have HVO:=hid (vorder _ _ _ _ W ((HV.out.under HST.out.bel).more HST.out.bel.size) ((HV2.out.under HST.out.bel).more HST.out.bel.size))
 rw[HORD.out] at HVO
 go_upto_region 7 with (first|((with_reducible refine wl_sload 26 _ rfl ?hwa w.heap.size 0 [.int .i64 4,.int .i64 na,.float .f64 fa,.string sa,.slice NA1 nsa.length na2,.slice A ia.length c] _ rfl HST.out.wa.range Tryz.underlying26 rfl ?hia ?_);(case hwa=>(first|exact wanted_none rfl|exact wanted_if rfl rfl rfl rfl));(case hia=>kernel_rfl))|((with_reducible refine wl_sload 26 _ rfl ?hwb (w.heap.size+1) 0 [.int .i64 4,.int .i64 nb,.float .f64 fb,.string sb,.slice NB1 nsb.length nb2,.slice B ib.length c2] _ rfl HST.out.wb.range Tryz.underlying26 rfl ?hib ?_);(case hwb=>(first|exact wanted_none rfl|exact wanted_if rfl rfl rfl rfl));(case hib=>kernel_rfl))|(go_at_call 158;refine HVO.out.mono ?_;rintro e z ⟨rfl,hb⟩;have HBZ:=hid hb;clear hb))
 go_wp2
 go_ret
 exact⟨rfl,HST.out.bel.trans (HBZ.out.mono HST.out.bel.size)⟩
theorem less_o4falsefalse (na nb:Int) (fa fb:Nat) (sa sb:ByteArray) (nsa nsb:List ByteArray) (ia ib:List VT) (ca cb:List Value) (w:World) (r:Int) (hb:decide (r < 0)= false) (hv:ValAt w w.heap.size ca (.mk 4 na fa sa nsa ia)) (hv2:ValAt w w.heap.size cb (.mk 4 nb fb sb nsb ib)) (hord:ordV (.mk 4 na fa sa nsa ia) (.mk 4 nb fb sb nsb ib)= r):
  Calls Tryz.prog 121 #[.bool false,.agg ⟨ca⟩,.agg ⟨cb⟩] w fun e w'=>e= .returned (.bool false)∧Below w.heap.size w w':=by
 have HORD:=hid hord
 clear hord
 have HV:=hid hv
 have HV2:=hid hv2
 obtain⟨vna,via,rfl,hkw,hnw,hfw,hsw,hns,hil,hi⟩:=ValAt.inv hv
 obtain⟨hnl,NA1,na2,rfl,hnA⟩:=hns
 obtain⟨hil2,A,c,rfl,hA⟩:=hi
 obtain⟨vnb,vib,rfl,hkw2,hnw2,hfw2,hsw2,hns2,hil3,hi2⟩:=ValAt.inv hv2
 obtain⟨hnl2,NB1,nb2,rfl,hnB⟩:=hns2
 obtain⟨hil4,B,c2,rfl,hB⟩:=hi2
 clear hkw hnw hfw hsw hnl hnA hil hil2 hA hkw2 hnw2 hfw2 hsw2 hnl2 hnB hil3 hil4 hB hv hv2
 go_enter Tryz.func121,Tryz.ntmps121
 go_upto_region 1 with (fail)
 have HST:=hid (tb_start w [.int .i64 4,.int .i64 na,.float .f64 fa,.string sa,.slice NA1 nsa.length na2,.slice A ia.length c] [.int .i64 4,.int .i64 nb,.float .f64 fb,.string sb,.slice NB1 nsb.length nb2,.slice B ib.length c2])
 generalize (w.alloc (.cells ⟨[.int .i64 4,.int .i64 na,.float .f64 fa,.string sa,.slice NA1 nsa.length na2,.slice A ia.length c]⟩ 26)).alloc (.cells ⟨[.int .i64 4,.int .i64 nb,.float .f64 fb,.string sb,.slice NB1 nsb.length nb2,.slice B ib.length c2]⟩ 26)= W at*
 have d0:W.cell? ⟨w.heap.size,0,none⟩= some (.int .i64 4):=HST.out.wa.cells 0 rfl
 have HVO:=hid (vorder _ _ _ _ W ((HV.out.under HST.out.bel).more HST.out.bel.size) ((HV2.out.under HST.out.bel).more HST.out.bel.size))
 rw[HORD.out] at HVO
 go_upto_region 7 with (first|((with_reducible refine wl_sload 26 _ rfl ?hwa w.heap.size 0 [.int .i64 4,.int .i64 na,.float .f64 fa,.string sa,.slice NA1 nsa.length na2,.slice A ia.length c] _ rfl HST.out.wa.range Tryz.underlying26 rfl ?hia ?_);(case hwa=>(first|exact wanted_none rfl|exact wanted_if rfl rfl rfl rfl));(case hia=>kernel_rfl))|((with_reducible refine wl_sload 26 _ rfl ?hwb (w.heap.size+1) 0 [.int .i64 4,.int .i64 nb,.float .f64 fb,.string sb,.slice NB1 nsb.length nb2,.slice B ib.length c2] _ rfl HST.out.wb.range Tryz.underlying26 rfl ?hib ?_);(case hwb=>(first|exact wanted_none rfl|exact wanted_if rfl rfl rfl rfl));(case hib=>kernel_rfl))|(go_at_call 158;refine HVO.out.mono ?_;rintro e z ⟨rfl,hb⟩;have HBZ:=hid hb;clear hb))
 go_wp2
 go_ret
 exact⟨rfl,HST.out.bel.trans (HBZ.out.mono HST.out.bel.size)⟩
theorem less_o4false (na nb:Int) (fa fb:Nat) (sa sb:ByteArray) (nsa nsb:List ByteArray) (ia ib:List VT) (ca cb:List Value) (w:World) (r:Int) (hv:ValAt w w.heap.size ca (.mk 4 na fa sa nsa ia)) (hv2:ValAt w w.heap.size cb (.mk 4 nb fb sb nsb ib)) (hord:ordV (.mk 4 na fa sa nsa ia) (.mk 4 nb fb sb nsb ib)= r):
  Calls Tryz.prog 121 #[.bool false,.agg ⟨ca⟩,.agg ⟨cb⟩] w fun e w'=>e= .returned (.bool (decide (r < 0) ||(false && (r ==0))))∧Below w.heap.size w w':=by
 cases hb:decide (r < 0) with
 |true=>exact less_o4falsetrue na nb fa fb sa sb nsa nsb ia ib ca cb w r hb hv hv2 hord
 |false=>exact less_o4falsefalse na nb fa fb sa sb nsa nsb ia ib ca cb w r hb hv hv2 hord
theorem less_x (eq:Bool) (ka kb:Int) (na nb:Int) (fa fb:Nat) (sa sb:ByteArray) (nsa nsb:List ByteArray) (ia ib:List VT) (ca cb:List Value) (w:World) (h2:(ka ==2)= false) (h3:(ka ==3)= false) (h4:(ka ==4)= false) (hv:ValAt w w.heap.size ca (.mk ka na fa sa nsa ia)) (hv2:ValAt w w.heap.size cb (.mk kb nb fb sb nsb ib)):
  Calls Tryz.prog 121 #[.bool eq,.agg ⟨ca⟩,.agg ⟨cb⟩] w fun e w'=>e= panE 6∧Below w.heap.size w w':=by
 have HV:=hid hv
 have HV2:=hid hv2
 obtain⟨vna,via,rfl,hkw,hnw,hfw,hsw,hns,hil,hi⟩:=ValAt.inv hv
 obtain⟨hnl,NA1,na2,rfl,hnA⟩:=hns
 obtain⟨hil2,A,c,rfl,hA⟩:=hi
 obtain⟨vnb,vib,rfl,hkw2,hnw2,hfw2,hsw2,hns2,hil3,hi2⟩:=ValAt.inv hv2
 obtain⟨hnl2,NB1,nb2,rfl,hnB⟩:=hns2
 obtain⟨hil4,B,c2,rfl,hB⟩:=hi2
 clear hkw hnw hfw hsw hnl hnA hil hil2 hA hkw2 hnw2 hfw2 hsw2 hnl2 hnB hil3 hil4 hB hv hv2
 go_enter Tryz.func121,Tryz.ntmps121
 go_upto_region 1 with (fail)
 have HST:=hid (tb_start w [.int .i64 ka,.int .i64 na,.float .f64 fa,.string sa,.slice NA1 nsa.length na2,.slice A ia.length c] [.int .i64 kb,.int .i64 nb,.float .f64 fb,.string sb,.slice NB1 nsb.length nb2,.slice B ib.length c2])
 generalize (w.alloc (.cells ⟨[.int .i64 ka,.int .i64 na,.float .f64 fa,.string sa,.slice NA1 nsa.length na2,.slice A ia.length c]⟩ 26)).alloc (.cells ⟨[.int .i64 kb,.int .i64 nb,.float .f64 fb,.string sb,.slice NB1 nsb.length nb2,.slice B ib.length c2]⟩ 26)= W at*
 have d0:W.cell? ⟨w.heap.size,0,none⟩= some (.int .i64 ka):=HST.out.wa.cells 0 rfl
 go_wp2
 exact⟨rfl,rfl,HST.out.bel⟩
theorem less_any (eq:Bool) (k:Int) (na nb:Int) (fa fb:Nat) (sa sb:ByteArray) (nsa nsb:List ByteArray) (ia ib:List VT) (ca cb:List Value) (w:World) (hv:ValAt w w.heap.size ca (.mk k na fa sa nsa ia)) (hv2:ValAt w w.heap.size cb (.mk k nb fb sb nsb ib)):
  Calls Tryz.prog 121 #[.bool eq,.agg ⟨ca⟩,.agg ⟨cb⟩] w (BoolPost (lessZ eq (.mk k na fa sa nsa ia) (.mk k nb fb sb nsb ib)) w):=by
 unfold lessZ
 dsimp only
 by_cases k3:k= 3
 ·subst k3
  rw[if_pos rfl]
  cases eq with
  |true=>exact(less_ftrue na nb fa fb sa sb nsa nsb ia ib ca cb w hv hv2).mono fun e w' h=>⟨.inl ⟨_,rfl,h.1⟩,h.2⟩
  |false=>exact(less_ffalse na nb fa fb sa sb nsa nsb ia ib ca cb w hv hv2).mono fun e w' h=>⟨.inl ⟨_,rfl,h.1⟩,h.2⟩
 rw[if_neg k3]
 by_cases k2:k= 2
 ·subst k2
  rw[if_pos (Or.inl rfl)]
  cases eq with
  |true=>exact(less_o2true na nb fa fb sa sb nsa nsb ia ib ca cb w _ hv hv2 rfl).mono fun e w' h=>⟨.inl ⟨_,rfl,h.1⟩,h.2⟩
  |false=>exact(less_o2false na nb fa fb sa sb nsa nsb ia ib ca cb w _ hv hv2 rfl).mono fun e w' h=>⟨.inl ⟨_,rfl,h.1⟩,h.2⟩
 by_cases k4:k= 4
 ·subst k4
  rw[if_pos (Or.inr rfl)]
  cases eq with
  |true=>exact(less_o4true na nb fa fb sa sb nsa nsb ia ib ca cb w _ hv hv2 rfl).mono fun e w' h=>⟨.inl ⟨_,rfl,h.1⟩,h.2⟩
  |false=>exact(less_o4false na nb fa fb sa sb nsa nsb ia ib ca cb w _ hv hv2 rfl).mono fun e w' h=>⟨.inl ⟨_,rfl,h.1⟩,h.2⟩
 rw[if_neg (by omega)]
 exact(less_x eq k k na nb fa fb sa sb nsa nsb ia ib ca cb w (by simpa using k2) (by simpa using k3) (by simpa using k4) hv hv2).mono fun e w' h=>⟨.inr ⟨_,rfl,h.1⟩,h.2⟩
end Go.Proofs.YtmpbepjjbaeebaaGreatDoor
