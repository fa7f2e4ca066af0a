/- THE STATEMENT EvalNot is proved: for every input the Go function EvalNot returns true, and its arguments read afterwards as before; without conditions. -/
import Derived.Test.YtmpbepjjbaeebaaGreatDoorPackN17
import Derived.Test.YtmpbepjjbaeebaaGreatDoorPackN53
import Derived.Test.YtmpbepjjbaeebaaGreatDoorCards
import Derived.Test.YtmpbepjjbaeebaaGreatDoorTie
import Derived.WalkKit
import Derived.Deep.DeepHandedRow
import Derived.SevenTiedAt
import Derived.Lib.LaidTab
import Derived.Stop.LaidErr
import Derived.Test.YtmpbepjjbaeebaaGreatDoorPackN4
set_option maxHeartbeats 8000000
set_option maxRecDepth 100000
set_option linter.unusedVariables false
set_option linter.unusedSimpArgs false
section
namespace Go.Proofs.YtmpbepjjbaeebaaGreatDoor
open Go Go.RowKit
open Go.Lib (hid)
def vkind:VT→Int
 | .mk k _ _ _ _ _=>k
theorem z8f {w:World} {B:Nat} {cs:List Value} {v:VT} (h:ValAt w B cs v):cs[0]?= some (.int .i64 (vkind v)):=by
 cases v
 obtain⟨vn,vi,rfl,_⟩:=h.inv
 rfl
theorem ok_vB {r:Res} (hr:∀ v,r= .ok v→zi v= true) (hk:vkind (resV r).1= 1):∃ b,r= .ok (vB b):=by
 match r,hr,hk with
 | .error e,_,hk=>exact absurd (show(0:Int)= 1 from hk) (by decide)
 | .ok (.mk k n f s ns its),hr,hk=>
  obtain rfl:k= 1:=hk
  exact⟨_,zcY hr (by rw[boolR,if_pos rfl])⟩
theorem z19 {w:World} {B:Nat} {cs:List Value} {v:VT} (h:ValAt w B cs v):cs[1]?= some (.int .i64 (vnum v)):=by
 cases v
 obtain⟨vn,vi,rfl,_⟩:=h.inv
 rfl
theorem evalNot_walk (w:World) (htb:TabP w) (cx:List Value) (x:ET) (hxx:ExpAt w w.heap.size cx x) (cy:List Value) (y:ET) (hxy:ExpAt w w.heap.size cy y) (v:Value) (E:List VarT) (hE:SlAt w w.heap.size 11 (VarAt w w.heap.size) v E) (hEl:E.length≤maxLen):
  Calls Tryz.prog 8 #[.agg ⟨cx⟩,.agg ⟨cy⟩,v] w fun e w'=>e= .returned (.bool true)∧Below w.heap.size w w':=by
 have HTB:=hid htb
 have HLx:=hid (eslen hxx)
 have HOx:=hid hxx.one
 have HXx:=hid hxx
 have HLy:=hid (eslen hxy)
 have HOy:=hid hxy.one
 have HXy:=hid hxy
 obtain⟨hel,EA,ec,rfl,hEA⟩:=id hE
 have HE:=hid hE
 have HEA:=hid hEA
 have HEM:=hid hEl
 clear hE hEA hEl hel htb hxx hxy
 go_enter Tryz.func8,Tryz.ntmps8
 go_upto_region 1 with (fail)
 have hrx:=Whole.new (w) cx 29
 have hrx:=hrx.keep ((zc ((w).alloc (.cells ⟨cx⟩ 29)) (.cells ⟨cy⟩ 29)).block _ (by simp))
 have hry:=Whole.new ((w).alloc (.cells ⟨cx⟩ 29)) cy 29
 rw[show((w).alloc (.cells ⟨cx⟩ 29)).heap.size= w.heap.size+1 by simp] at hry
 have HB1:Hid (Below w.heap.size w (((w).alloc (.cells ⟨cx⟩ 29)).alloc (.cells ⟨cy⟩ 29))):=hid (((Below.refl w.heap.size w).alloc (by simp) (.cells ⟨cx⟩ 29)).alloc (by simp) (.cells ⟨cy⟩ 29))
 generalize ((w).alloc (.cells ⟨cx⟩ 29)).alloc (.cells ⟨cy⟩ 29)= W at*
 have HRx:=hid hrx
 have HRy:=hid hry
 clear hrx hry
 have HK1:=hid (Below.refl W.heap.size W)
 have HEx:=hid (fun z (hz:Below W.heap.size W z)=>(((HXx.out.under (HB1.out.trans (hz.mono HB1.out.size))).more (HB1.out.trans (hz.mono HB1.out.size)).size:ExpAt z z.heap.size cx x)))
 have HWx:=hid (fun z (hz:Below W.heap.size W z)=>HRx.out.keep (hz.block _ HRx.out.lt))
 have HEy:=hid (fun z (hz:Below W.heap.size W z)=>(((HXy.out.under (HB1.out.trans (hz.mono HB1.out.size))).more (HB1.out.trans (hz.mono HB1.out.size)).size:ExpAt z z.heap.size cy y)))
 have HWy:=hid (fun z (hz:Below W.heap.size W z)=>HRy.out.keep (hz.block _ HRy.out.lt))
 have HEV:=hid (fun z (hz:Below W.heap.size W z)=>((HE.out.below (HB1.out.trans (hz.mono HB1.out.size)) fun _ _ _ h=>(h.under (HB1.out.trans (hz.mono HB1.out.size))).more (HB1.out.trans (hz.mono HB1.out.size)).size).more (HB1.out.trans (hz.mono HB1.out.size)).size:SlAt z z.heap.size 11 (VarAt z z.heap.size) (.slice EA E.length ec) E))
 go_wp2_with (go_at_call 10;fail)
 refine(z0M W (HTB.out.next HB1.out)).mono ?_
 rintro e w2 ⟨rfl,hb⟩
 have HK2:=hid hb
 have HB2:=hid (HB1.out.trans (hb.mono HB1.out.size))
 clear hb
 have HS2:=hid (z7P x cx w2 (HEx.out w2 HK2.out))
 go_wp2_with (first|((with_reducible refine z8 29 _ rfl ?hwl1 (w.heap.size) (0) (cx) _ rfl (HWx.out w2 HK2.out).range Tryz.underlying29 rfl ?hil1 ?_);(case hwl1=>(exact wantA rfl));(case hil1=>rw[HLx.out];kernel_rfl))|(go_at_call 11;fail))
 refine HS2.out.mono ?_
 rintro e w3 ⟨q,rfl,hb⟩
 have HK3:=hid (HK2.out.trans (hb.mono HK2.out.size))
 have HB3:=hid (HB2.out.trans (hb.mono HB2.out.size))
 clear hb HS2
 cases q with
 |false=>
  go_wp2_with (go_at_call 10;fail)
  refine(z0M w3 (HTB.out.next HB3.out)).mono ?_
  rintro e w9 ⟨rfl,hb⟩
  have HB9:=hid (HB3.out.trans (hb.mono HB3.out.size))
  clear hb
  go_wp2
  go_ret
  exact⟨rfl,HB9.out⟩
 |true=>
  have HS3:=hid (z7P y cy w3 (HEy.out w3 HK3.out))
  go_wp2_with (first|((with_reducible refine z8 29 _ rfl ?hwl2 (w.heap.size+1) (0) (cy) _ rfl (HWy.out w3 HK3.out).range Tryz.underlying29 rfl ?hil2 ?_);(case hwl2=>(exact wantA rfl));(case hil2=>rw[HLy.out];kernel_rfl))|(go_at_call 11;fail))
  refine HS3.out.mono ?_
  rintro e w4 ⟨q,rfl,hb⟩
  have HK4:=hid (HK3.out.trans (hb.mono HK3.out.size))
  have HB4:=hid (HB3.out.trans (hb.mono HB3.out.size))
  clear hb HS3
  cases q with
  |false=>
   go_wp2_with (go_at_call 10;fail)
   refine(z0M w4 (HTB.out.next HB4.out)).mono ?_
   rintro e w9 ⟨rfl,hb⟩
   have HB9:=hid (HB4.out.trans (hb.mono HB4.out.size))
   clear hb
   go_wp2
   go_ret
   exact⟨rfl,HB9.out⟩
  |true=>
   have HS4:=hid (z99 E (.slice EA E.length ec) w4 (HEV.out w4 HK4.out) HEM.out)
   go_wp2_with (first|(go_at_call 12;fail))
   refine HS4.out.mono ?_
   rintro e w5 ⟨q,rfl,hq,hb⟩
   have HK5:=hid (HK4.out.trans (hb.mono HK4.out.size))
   have HB5:=hid (HB4.out.trans (hb.mono HB4.out.size))
   clear hb HS4
   cases q with
   |false=>
    clear hq
    go_wp2_with (go_at_call 10;fail)
    refine(z0M w5 (HTB.out.next HB5.out)).mono ?_
    rintro e w9 ⟨rfl,hb⟩
    have HB9:=hid (HB5.out.trans (hb.mono HB5.out.size))
    clear hb
    go_wp2
    go_ret
    exact⟨rfl,HB9.out⟩
   |true=>
    have HE40:=hid (hq rfl)
    clear hq
    have HS5:=hid (z3m x 40 cx w5 (by omega) (HEx.out w5 HK5.out))
    obtain⟨d1,hqd1⟩:∃ d:Nat,zO x 40= d:=⟨_,rfl⟩
    have HD1Q:=hid hqd1
    rw[hqd1] at HS5
    clear hqd1
    go_wp2_with (first|((with_reducible refine z8 29 _ rfl ?hwl3 (w.heap.size) (0) (cx) _ rfl (HWx.out w5 HK5.out).range Tryz.underlying29 rfl ?hil3 ?_);(case hwl3=>(exact wantA rfl));(case hil3=>rw[HLx.out];kernel_rfl))|(go_at_call 24;fail))
    refine HS5.out.mono ?_
    rintro e w6 ⟨rfl,hb⟩
    have HK6:=hid (HK5.out.trans (hb.mono HK5.out.size))
    have HB6:=hid (HB5.out.trans (hb.mono HB5.out.size))
    clear hb HS5
    rcases Nat.lt_or_ge 8 d1 with hd|hd
    ·have hgt:decide ((8:Int) <(d1:Int))= true:=decide_eq_true (by omega)
     clear hd
     go_wp2_with (go_at_call 10;fail)
     refine(z0M w6 (HTB.out.next HB6.out)).mono ?_
     rintro e w9 ⟨rfl,hb⟩
     have HB9:=hid (HB6.out.trans (hb.mono HB6.out.size))
     clear hb
     go_wp2
     go_ret
     exact⟨rfl,HB9.out⟩
    have hgt:decide ((8:Int) <(d1:Int))= false:=decide_eq_false (by omega)
    have HD1:=hid (show zO x 40≤8 by rw[HD1Q.out];exact hd)
    clear hd
    have HS6:=hid (z3m y 40 cy w6 (by omega) (HEy.out w6 HK6.out))
    obtain⟨d2,hqd2⟩:∃ d:Nat,zO y 40= d:=⟨_,rfl⟩
    have HD2Q:=hid hqd2
    rw[hqd2] at HS6
    clear hqd2
    go_wp2_with (first|((with_reducible refine z8 29 _ rfl ?hwl4 (w.heap.size+1) (0) (cy) _ rfl (HWy.out w6 HK6.out).range Tryz.underlying29 rfl ?hil4 ?_);(case hwl4=>(exact wantA rfl));(case hil4=>rw[HLy.out];kernel_rfl))|(go_at_call 24;fail))
    refine HS6.out.mono ?_
    rintro e w7 ⟨rfl,hb⟩
    have HK7:=hid (HK6.out.trans (hb.mono HK6.out.size))
    have HB7:=hid (HB6.out.trans (hb.mono HB6.out.size))
    clear hb HS6
    rcases Nat.lt_or_ge 8 d2 with hd|hd
    ·have hgt:decide ((8:Int) <(d2:Int))= true:=decide_eq_true (by omega)
     clear hd
     go_wp2_with (go_at_call 10;fail)
     refine(z0M w7 (HTB.out.next HB7.out)).mono ?_
     rintro e w9 ⟨rfl,hb⟩
     have HB9:=hid (HB7.out.trans (hb.mono HB7.out.size))
     clear hb
     go_wp2
     go_ret
     exact⟨rfl,HB9.out⟩
    have hgt:decide ((8:Int) <(d2:Int))= false:=decide_eq_false (by omega)
    have HD2:=hid (show zO y 40≤8 by rw[HD2Q.out];exact hd)
    clear hd
    go_wp2
    obtain⟨G,hG⟩:∃ G,w7= G:=⟨_,rfl⟩
    rw[hG] at HK7 HB7
    rw[hG]
    clear hG
    have HKG:=HK7
    have HBG:=HB7
    obtain⟨j0,hi,hz0,hz1,hz2⟩:=z0a z0O
    have HJ0:=hid hi
    have HY0:=hid hz0
    have HY1:=hid hz1
    have HY2:=hid hz2
    clear hi hz0 hz1 hz2
    go_loopg [7,52] E.length (fun q x y u=>∃ (j:Nat) (KL:List zU),j+q= E.length∧y= .int .i64 j∧InitInv 26 G u x E j KL)
    case atStart=>exact⟨0,[],by omega,rfl,InitInv.start _ _ _⟩
    case round=>
     obtain⟨j,KL,hj,rfl,hI⟩:=hrel
     have HI:=hid hI
     obtain⟨UA,uc,rfl⟩:=z3P hI.own
     have hkl:=hI.len
     have HKLL:=hid hkl
     clear hI hkl
     cases gk with
     |succ g=>
      have hlt:(j:Int) <(E.length:Int):=by omega
      obtain⟨y,hy⟩:∃ y,E[j]?= some y:=⟨_,List.getElem?_eq_getElem (by omega)⟩
      obtain⟨b,ob,rfl,hbb,hc⟩:=HEA.out (by omega)
      obtain⟨ks,hkl,hkr,hkv⟩:=hc j y hy
      obtain⟨c0,c1,c2,c3,c4,ci,rfl,hci,hvi⟩:=z6C hkv
      have hG:=HBG.out.trans (HI.out.bel.mono HBG.out.size)
      have HR:=hid (zd hkr hG hbb)
      have HCI:=hid hci
      have HVI:Hid (ValAt G G.heap.size ci y.init):=hid ((hvi.under HBG.out).more HBG.out.size)
      have HOV:=hid hkv.one
      have HOI:=hid (ze hvi).2
      have HYY:=hid hy
      have HCL:Hid ((c0::c1::c2::c3::c4::ci).length= 11):=hid (by simp[hci])
      clear hc hkl hkr hkv hci hvi hG hy
      go_upto_region 7 with (first|((with_reducible refine z8 47 _ rfl ?hwl5 (b) (ob+j*11) (c0::c1::c2::c3::c4::ci) _ rfl HR.out Tryz.underlying47 rfl ?hil5 ?_);(case hwl5=>(exact wantA rfl));(case hil5=>rw[HCL.out];kernel_rfl))|((with_reducible refine zR 47 _ _ rfl ?hwx6 wr ?zz6 (c0::c1::c2::c3::c4::ci) ?hwld6 ?hz6 ?hx6 ?hy6 ?hi6 ?h16 ?_);(case hwld6=>rfl);(case hx6=>rfl);(case hy6=>rfl);(case hwx6=>(exact wantA rfl));(case hz6=>rw[HCL.out];rfl);(case hi6=>rw[HCL.out];kernel_rfl);(case h16=>exact HOV.out);intro Z hZ;have HXZ:=hid hZ;clear hZ))
      have HRI:Hid (Z.rangeAt wr.heap.size 5 ci):=hid (fun i u hu=>by have:=HXZ.out.range (5+i) u (by rw[show 5+i= i+1+1+1+1+1 by omega];exact hu);rw[show 0+ (5+i)= 5+i by omega] at this;exact this)
      have HC7:Hid (∀ i u,(enc6 ⟨ci,HCI.out⟩)[i]?= some u→(Z.alloc (.cells ⟨ci⟩ 26)).cell? ⟨Z.heap.size,i,none⟩= some u):=hid (z0E Z ci 26)
      have HB7:=hid (zc Z (.cells ⟨ci⟩ 26))
      have HS7:Hid (G.heap.size≤(Z.alloc (.cells ⟨ci⟩ 26)).heap.size):=hid (Nat.le_trans HI.out.bel.size (Nat.le_trans HXZ.out.below.size HB7.out.size))
      have HOW:Hid (OwnSl 26 6 enc6 (Z.alloc (.cells ⟨ci⟩ 26)) G.heap.size (.slice UA KL.length uc) KL):=hid (HI.out.own.below (HXZ.out.below.trans (HB7.out.mono HXZ.out.below.size)))
      have HM63:Hid (KL.length+1≤maxLen):=hid (by have:=HE40.out;have h2:=HKLL.out;unfold maxLen;omega)
      have HM88:Hid ((KL.length+1) *88≤140737488355328):=hid (by have:=HE40.out;have h2:=HKLL.out;omega)
      go_wp2_with (first|((with_reducible refine z8 26 _ rfl ?hwl7 (wr.heap.size) (5) (ci) _ rfl HRI.out Tryz.underlying26 rfl ?hil7 ?_);(case hwl7=>(exact wantA rfl));(case hil7=>rw[HCI.out];kernel_rfl))|((with_reducible refine z0o 24 _ rfl ?hw3 26 j0 _ ci ?hx3 Tryz.underlying24 HJ0.out HY0.out ?hs3 ?h03 ?hm3 ?_);(case hw3=>(exact wantA rfl));(case hx3=>rfl);(case hs3=>rw[HCI.out];exact HY1.out);(case h03=>rw[HCI.out];decide);(case hm3=>rw[HCI.out];decide))|(at_builtin;(refine z3q rfl _ _ 24 rfl G.heap.size 26 j0 _ 6 88 enc6 Tryz.underlying24 HJ0.out HY0.out HY1.out HY2.out rfl (by decide) z0s (.slice UA KL.length uc) KL rfl HOW.out Z.heap.size 1 ⟨ci,HCI.out⟩ HOI.out rfl HC7.out HM63.out HM88.out HS7.out ?_;intro v' u8 hown hg hblk;have HN:=hid (InitInv.next (k:=⟨ci,HCI.out⟩) HI.out (HXZ.out.below.trans (HB7.out.mono HXZ.out.below.size)) HYY.out HVI.out hown hg);clear hown hg hblk)))
      go_roundg g
      case measure=>omega
      case rel=>
       have hb40:=HE40.out
       have hq:wrap64 ((j:Int)+1)=((j+1:Nat):Int):=by unfold wrap64;omega
       exact⟨j+1,KL ++ [⟨ci,HCI.out⟩],by omega,by first|rw[hq]|rfl,HN.out⟩
     |zero=>
      obtain rfl:j= E.length:=by omega
      have hge: ¬ ((E.length:Int) <(E.length:Int)):=by omega
      have HLV:=hid (fun z (hz:Below wr.heap.size wr z)=>HI.out.row (by have:=HE40.out;omega) hz)
      have HWR:Hid (Below W.heap.size W wr):=hid (HKG.out.trans (HI.out.bel.mono HKG.out.size))
      have HBR:Hid (Below w.heap.size w wr):=hid (HBG.out.trans (HI.out.bel.mono HBG.out.size))
      obtain⟨kn,hkn⟩:∃ n,KL.length= n:=⟨_,rfl⟩
      rw[hkn] at HLV
      rw[hkn]
      have HKN:=hid hkn
      clear hkn HI
      have HEV1:=hid (z0Q x E (E.map VarT.init) cx (.slice EA E.length ec) (.slice UA kn uc) wr (HEx.out wr HWR.out) (HEV.out wr HWR.out) (HLV.out wr (Below.refl _ _)) (by have:=HE40.out;omega) (by rw[List.length_map];have:=HE40.out;omega) (HTB.out.next HBR.out))
      obtain⟨r1,hr1⟩:∃ r,evalT x E (E.map VarT.init)= r:=⟨_,rfl⟩
      rw[hr1] at HEV1
      have HRR1:=hid hr1
      clear hr1
      go_upto_region 12 with (first|((with_reducible refine z8 29 _ rfl ?hwl8 (w.heap.size) (0) (cx) _ rfl (HWx.out wr HWR.out).range Tryz.underlying29 rfl ?hil8 ?_);(case hwl8=>(exact wantA rfl));(case hil8=>rw[HLx.out];kernel_rfl))|(go_at_call 14;refine HEV1.out.mono ?_;rintro e y1 ⟨cs1,rfl,hk,hr,hb⟩;have HC1:=hid (ze hk.val).1;have HOO1:=hid (ze hk.val).2;have HNN1:=hid (z19 hk.val);have HKK1:=hid (z8f hk.val);have HRT1:=hid hr;have HBY1:=hid hb;clear hk hr hb)|((with_reducible refine zR 26 _ _ rfl ?hwx9 y1 ?zz9 (cs1) ?hwld9 ?hz9 ?hx9 ?hy9 ?hi9 ?h19 ?_);(case hwld9=>rfl);(case hx9=>rfl);(case hy9=>rfl);(case hwx9=>(exact wantA rfl));(case hz9=>rw[HC1.out];rfl);(case hi9=>rw[HC1.out];kernel_rfl);(case h19=>exact HOO1.out);intro Z1 hZ;have HXX1:=hid hZ;clear hZ))
      have HST1:Hid (Below wr.heap.size wr Z1):=hid (HBY1.out.trans (HXX1.out.below.mono HBY1.out.size))
      have HWZ1:Hid (Below W.heap.size W Z1):=hid (HWR.out.trans (HST1.out.mono HWR.out.size))
      have HBZ1:Hid (Below w.heap.size w Z1):=hid (HBR.out.trans (HST1.out.mono HBR.out.size))
      have HZ1:Hid (Below wr.heap.size wr Z1):=hid (HST1.out)
      have HPL1:Hid (y1.heap.size < Z1.heap.size):=hid HXX1.out.size
      have HPC1:=hid HXX1.out.range
      obtain⟨q1,hq1⟩:∃ q,y1.heap.size= q:=⟨_,rfl⟩
      rw[hq1] at HPL1 HPC1
      rw[hq1]
      clear hq1 HXX1 HEV1
      have HEV2:=hid (z0Q y E (E.map VarT.init) cy (.slice EA E.length ec) (.slice UA kn uc) Z1 (HEy.out Z1 HWZ1.out) (HEV.out Z1 HWZ1.out) (HLV.out Z1 HZ1.out) (by have:=HE40.out;omega) (by rw[List.length_map];have:=HE40.out;omega) (HTB.out.next HBZ1.out))
      obtain⟨r2,hr2⟩:∃ r,evalT y E (E.map VarT.init)= r:=⟨_,rfl⟩
      rw[hr2] at HEV2
      have HRR2:=hid hr2
      clear hr2
      go_upto_region 13 with (first|((with_reducible refine z8 29 _ rfl ?hwl10 (w.heap.size+1) (0) (cy) _ rfl (HWy.out Z1 HWZ1.out).range Tryz.underlying29 rfl ?hil10 ?_);(case hwl10=>(exact wantA rfl));(case hil10=>rw[HLy.out];kernel_rfl))|(go_at_call 14;refine HEV2.out.mono ?_;rintro e y2 ⟨cs2,rfl,hk,hr,hb⟩;have HC2:=hid (ze hk.val).1;have HOO2:=hid (ze hk.val).2;have HNN2:=hid (z19 hk.val);have HKK2:=hid (z8f hk.val);have HRT2:=hid hr;have HBY2:=hid hb;clear hk hr hb)|((with_reducible refine zR 26 _ _ rfl ?hwx11 y2 ?zz11 (cs2) ?hwld11 ?hz11 ?hx11 ?hy11 ?hi11 ?h111 ?_);(case hwld11=>rfl);(case hx11=>rfl);(case hy11=>rfl);(case hwx11=>(exact wantA rfl));(case hz11=>rw[HC2.out];rfl);(case hi11=>rw[HC2.out];kernel_rfl);(case h111=>exact HOO2.out);intro Z2 hZ;have HXX2:=hid hZ;clear hZ))
      have HST2:Hid (Below Z1.heap.size Z1 Z2):=hid (HBY2.out.trans (HXX2.out.below.mono HBY2.out.size))
      have HWZ2:Hid (Below W.heap.size W Z2):=hid (HWZ1.out.trans (HST2.out.mono HWZ1.out.size))
      have HBZ2:Hid (Below w.heap.size w Z2):=hid (HBZ1.out.trans (HST2.out.mono HBZ1.out.size))
      have HZ2:Hid (Below wr.heap.size wr Z2):=hid (HZ1.out.trans (HST2.out.mono HZ1.out.size))
      have HPL2:Hid (y2.heap.size < Z2.heap.size):=hid HXX2.out.size
      have HPC2:=hid HXX2.out.range
      obtain⟨q2,hq2⟩:∃ q,y2.heap.size= q:=⟨_,rfl⟩
      rw[hq2] at HPL2 HPC2
      rw[hq2]
      clear hq2 HXX2 HEV2
      have HPC1':Hid (Z2.rangeAt q1 0 cs1):=hid (zd HPC1.out HST2.out HPL1.out)
      have HCK1:Hid (∀ z,Below Z2.heap.size Z2 z→z.cell? ⟨q1,0,none⟩= some (.int .i64 (vkind (resV r1).1))∧z.cell? ⟨q1,1,none⟩= some (.int .i64 (vnum (resV r1).1))):=hid fun z hz=>⟨(hz.cell (p:=⟨q1,0,none⟩) (Nat.lt_of_lt_of_le HPL1.out HST2.out.size)).trans (HPC1'.out 0 _ HKK1.out),(hz.cell (p:=⟨q1,1,none⟩) (Nat.lt_of_lt_of_le HPL1.out HST2.out.size)).trans (HPC1'.out 1 _ HNN1.out)⟩
      have HCK2:Hid (∀ z,Below Z2.heap.size Z2 z→z.cell? ⟨q2,0,none⟩= some (.int .i64 (vkind (resV r2).1))∧z.cell? ⟨q2,1,none⟩= some (.int .i64 (vnum (resV r2).1))):=hid fun z hz=>⟨(hz.cell (p:=⟨q2,0,none⟩) HPL2.out).trans (HPC2.out 0 _ HKK2.out),(hz.cell (p:=⟨q2,1,none⟩) HPL2.out).trans (HPC2.out 1 _ HNN2.out)⟩
      obtain⟨n1,hn1⟩:∃ n,(resV r1).2= n:=⟨_,rfl⟩
      obtain⟨n2,hn2⟩:∃ n,(resV r2).2= n:=⟨_,rfl⟩
      obtain⟨k1,hk1⟩:∃ n,vkind (resV r1).1= n:=⟨_,rfl⟩
      obtain⟨k2,hk2⟩:∃ n,vkind (resV r2).1= n:=⟨_,rfl⟩
      rw[hn1,hn2]
      rw[hk1] at HCK1
      rw[hk2] at HCK2
      have HN1:=hid hn1
      have HN2:=hid hn2
      have HKD1:=hid hk1
      have HKD2:=hid hk2
      clear hn1 hn2 hk1 hk2
      have DONE:∀ z,Below Z2.heap.size Z2 z→Below w.heap.size w z:=fun z hz=>HBZ2.out.trans (hz.mono HBZ2.out.size)
      have HDN:=hid DONE
      have HQ:Hid (∀ n,Below Z2.heap.size Z2 (Z2.drewN n)):=hid fun n=>⟨rfl,rfl,rfl,Nat.le_refl _,fun _ _=>rfl⟩
      clear DONE
      rcases(Decidable.em (n1= 0)).symm with a1|a1
      ·have f1:(n1 !=0)= true:=by simpa using a1
       clear a1
       go_quiet (fail)
       go_wp2
       go_ret
       exact⟨rfl,HDN.out _ (HQ.out _)⟩
      subst a1
      rcases(Decidable.em (n2= 0)).symm with a2|a2
      ·have f1:(n2 !=0)= true:=by simpa using a2
       clear a2
       go_quiet (fail)
       go_wp2
       go_ret
       exact⟨rfl,HDN.out _ (HQ.out _)⟩
      subst a2
      rcases(Decidable.em (k1= 1)).symm with a3|a3
      ·have f1:(k1 !=1)= true:=by simpa using a3
       have d1:=(HCK1.out Z2 (Below.refl _ _)).1
       clear a3
       go_quiet (fail)
       go_wp2
       go_ret
       exact⟨rfl,HDN.out _ (HQ.out _)⟩
      subst a3
      rcases(Decidable.em (k2= 1)).symm with a4|a4
      ·have f1:(k2 !=1)= true:=by simpa using a4
       have d1:=(HCK1.out Z2 (Below.refl _ _)).1
       have d2:=(HCK2.out Z2 (Below.refl _ _)).1
       clear a4
       go_quiet (fail)
       go_wp2
       go_ret
       exact⟨rfl,HDN.out _ (HQ.out _)⟩
      subst a4
      have hs:Below Z2.heap.size Z2 Z2.drew:=(Below.refl _ _).drew
      obtain⟨P1,hP1⟩:∃ n,cntE x 0= n:=⟨_,rfl⟩
      obtain⟨P2,hP2⟩:∃ n,cntE y 0= n:=⟨_,rfl⟩
      have hL1:=z2T x 0 (by omega)
      have hL2:=z2T y 0 (by omega)
      rw[hP1] at hL1
      rw[hP2] at hL2
      have hwr:IntKind.i64.wrap ((P1:Int)+ (P2:Int))=(P1:Int)+ (P2:Int):=by rw[IntKind.wrap_i64];omega
      obtain⟨b150,hb150⟩:∃ b,decide ((150:Int) <(P1:Int)+ (P2:Int))= b:=⟨_,rfl⟩
      have HP1:=hid hP1
      have HP2:=hid hP2
      have HB150:=hid hb150
      clear hP1 hP2 hL1 hL2
      refine zB [(0,true),(1,true),(2,true),(3,true),(4,true),(5,true),(6,true),(7,true),(8,true),(9,true),(10,true),(11,true),(12,true),(13,true),(14,true),(15,true),(16,true),(17,true),(19,true),(18,false),(20,false),(21,true),(22,true),(23,true)] (fun z=>Below Z2.heap.size Z2 z) (by kernel_rfl) (by kernel_rfl) (by kernel_rfl) rfl (by intro c a d v w h;cases d<;>exact h) ?_
      refine zj (some 76) (.int .i64 0) _ _ rfl rfl rfl (by exact wantA rfl) hs rfl ?_
      go_frame
      refine z7 (some 77) (.bool false) _ rfl rfl (by exact wantA rfl) hs (fun z hz=>by go_simp) ?_
      go_frame
      refine zj (some 78) (.bool false) _ _ rfl rfl rfl (by exact wantA rfl) hs rfl ?_
      go_frame
      refine zj (some 79) (.int .i64 0) _ _ rfl rfl rfl (by exact wantA rfl) hs rfl ?_
      go_frame
      refine z7 (some 80) (.bool false) _ rfl rfl (by exact wantA rfl) hs (fun z hz=>by go_simp) ?_
      go_frame
      refine z1E (some 81) (.bool false) _ _ _ _ false rfl rfl rfl rfl (by exact wantA rfl) hs rfl ?_
      go_frame
      refine zj (some 82) (.bool false) _ _ rfl rfl rfl (by exact wantA rfl) hs rfl ?_
      go_frame
      refine z7 (some 83) (.pointer (some ⟨q1,0,none⟩)) _ rfl rfl (by exact wantA rfl) hs (fun z hz=>by go_simp) ?_
      go_frame
      refine z7 (some 84) (.int .i64 1) _ rfl rfl (by exact wantA rfl) hs (fun z hz=>by have d1:=(HCK1.out z hz).1;clear hz;go_simp) ?_
      go_frame
      refine z7 (some 85) (.bool false) _ rfl rfl (by exact wantA rfl) hs (fun z hz=>by go_simp) ?_
      go_frame
      refine z1E (some 86) (.bool false) _ _ _ _ false rfl rfl rfl rfl (by exact wantA rfl) hs rfl ?_
      go_frame
      refine zj (some 87) (.bool false) _ _ rfl rfl rfl (by exact wantA rfl) hs rfl ?_
      go_frame
      refine z7 (some 88) (.pointer (some ⟨q2,0,none⟩)) _ rfl rfl (by exact wantA rfl) hs (fun z hz=>by go_simp) ?_
      go_frame
      refine z7 (some 89) (.int .i64 1) _ rfl rfl (by exact wantA rfl) hs (fun z hz=>by have d1:=(HCK2.out z hz).1;clear hz;go_simp) ?_
      go_frame
      refine z7 (some 90) (.bool false) _ rfl rfl (by exact wantA rfl) hs (fun z hz=>by go_simp) ?_
      go_frame
      refine z1E (some 91) (.bool false) _ _ _ _ false rfl rfl rfl rfl (by exact wantA rfl) hs rfl ?_
      go_frame
      refine zj (some 92) (.bool false) _ _ rfl rfl rfl (by exact wantA rfl) hs rfl ?_
      go_frame
      refine z7 (some 93) (.agg ⟨cx⟩) _ rfl rfl (by exact wantA rfl) hs (fun z hz=>zJ 29 rfl (w.heap.size) 0 (cx) _ rfl (HWx.out z (HWZ2.out.trans (hz.mono HWZ2.out.size))).range Tryz.underlying29 rfl (by rw[HLx.out];kernel_rfl)) ?_
      go_frame
      refine z7 (some 95) (.agg ⟨cy⟩) _ rfl rfl (by exact wantA rfl) hs (fun z hz=>zJ 29 rfl (w.heap.size+1) 0 (cy) _ rfl (HWy.out z (HWZ2.out.trans (hz.mono HWZ2.out.size))).range Tryz.underlying29 rfl (by rw[HLy.out];kernel_rfl)) ?_
      go_frame
      refine zy (some 94) 25 Tryz.func25 (by kernel_rfl) (by kernel_rfl) [.agg ⟨cx⟩] _ _ _ rfl rfl rfl (by exact wantA rfl) rfl ?_
      refine(z1c x cx Z2.drew (HEx.out Z2.drew (HWZ2.out.trans (hs.mono HWZ2.out.size)))).mono ?_
      rintro e u1 ⟨rfl,hb⟩
      have hs:Below Z2.heap.size Z2 u1:=hs.trans (hb.mono hs.size)
      clear hb
      refine⟨_,rfl,hs,?_⟩
      rw[HP1.out]
      go_frame
      refine zy (some 96) 25 Tryz.func25 (by kernel_rfl) (by kernel_rfl) [.agg ⟨cy⟩] _ _ _ rfl rfl rfl (by exact wantA rfl) rfl ?_
      refine(z1c y cy u1 (HEy.out u1 (HWZ2.out.trans (hs.mono HWZ2.out.size)))).mono ?_
      rintro e u2 ⟨rfl,hb⟩
      have hs:Below Z2.heap.size Z2 u2:=hs.trans (hb.mono hs.size)
      clear hb
      refine⟨_,rfl,hs,?_⟩
      rw[HP2.out]
      go_frame
      refine z7 (some 97) (.int .i64 ((P1:Int)+ (P2:Int))) _ rfl rfl (by exact wantA rfl) hs (fun z hz=>by go_simp) ?_
      go_frame
      refine z7 (some 98) (.bool b150) _ rfl rfl (by exact wantA rfl) hs (fun z hz=>by go_simp) ?_
      go_frame
      refine z1E (some 99) (.bool b150) _ _ _ _ false rfl rfl rfl rfl (by exact wantA rfl) hs rfl ?_
      go_frame
      refine z09 ?_
      have HU2:=hid hs
      clear hs hwr hb150
      cases b150 with
      |true=>
       go_wp2
       go_ret
       exact⟨rfl,HDN.out _ HU2.out⟩
      |false=>
       have HPS:Hid (cntE x 0+cntE y 0≤150):=hid (by have h:=of_decide_eq_false HB150.out;have h1:=HP1.out;have h2:=HP2.out;omega)
       obtain⟨va,hva⟩:=ok_vB HRT1.out HKD1.out
       obtain⟨vb,hvb⟩:=ok_vB HRT2.out HKD2.out
       have HVA:=hid hva
       have HVB:=hid hvb
       clear hva hvb
       obtain⟨l1,l2,l3⟩:=zdH (HRR1.out.trans HVA.out) (HRR2.out.trans HVB.out) HD1.out HD2.out HPS.out
       have HL1:=hid l1
       have HL2:=hid l2
       have HL3:=hid l3
       clear l1 l2 l3
       have HUW:Hid (Below W.heap.size W u2):=hid (HWZ2.out.trans (HU2.out.mono HWZ2.out.size))
       have HUB:Hid (Below w.heap.size w u2):=hid (HDN.out u2 HU2.out)
       have HUR:Hid (Below wr.heap.size wr u2):=hid (HZ2.out.trans (HU2.out.mono HZ2.out.size))
       have HKX:Hid (∀ z,Below W.heap.size W z→KeptP (fun _=>True) z cx x):=hid fun z hz=>ExpAt.cells (HEx.out z hz) fun a v hv=>zL.2 ⟨trivial,hv⟩
       have HKY:Hid (∀ z,Below W.heap.size W z→KeptP (fun _=>True) z cy y):=hid fun z hz=>ExpAt.cells (HEy.out z hz) fun a v hv=>zL.2 ⟨trivial,hv⟩
       have HNA:=hid (z1M (fun _=>True) cx x u2 (HKX.out u2 HUW.out) (fun _ _=>trivial))
       go_upto_region 16 with (first|((with_reducible refine z8 29 _ rfl ?hwl12 (w.heap.size) (0) (cx) _ rfl (HWx.out u2 HUW.out).range Tryz.underlying29 rfl ?hil12 ?_);(case hwl12=>(exact wantA rfl));(case hil12=>rw[HLx.out];kernel_rfl))|(go_at_call 26;refine HNA.out.mono ?_;rintro e m1 ⟨d1,rfl,hk,hbb⟩;have HM1:=hid hbb;have HNB:=hid (z1M (fun _=>True) d1 (notE x) m1 hk (fun _ _=>trivial));clear hk hbb)|(go_at_call 26;refine HNB.out.mono ?_;rintro e m2 ⟨d2,rfl,hk,hb2⟩;have hbb:=HM1.out.trans (hb2.mono HM1.out.size);have HM2:=hid hbb;have HEV3:=hid (z0Q (notE (notE x)) E (E.map VarT.init) d2 (.slice EA E.length ec) (.slice UA kn uc) m2 hk.exp (HEV.out m2 (HUW.out.trans (hbb.mono HUW.out.size))) (HLV.out m2 (HUR.out.trans (hbb.mono HUR.out.size))) (by have:=HE40.out;omega) (by rw[List.length_map];have:=HE40.out;omega) (HTB.out.next (HUB.out.trans (hbb.mono HUB.out.size))));clear hk hbb hb2)|(go_at_call 14;refine HEV3.out.mono ?_;rintro e y3 ⟨cs3,rfl,hk,hr,hb⟩;have HC3:=hid (ze hk.val).1;have HOO3:=hid (ze hk.val).2;have HNN3:=hid (z19 hk.val);have HBY3:=hid hb;clear hk hr hb)|((with_reducible refine zR 26 _ _ rfl ?hwx13 y3 ?zz13 (cs3) ?hwld13 ?hz13 ?hx13 ?hy13 ?hi13 ?h113 ?_);(case hwld13=>rfl);(case hx13=>rfl);(case hy13=>rfl);(case hwx13=>(exact wantA rfl));(case hz13=>rw[HC3.out];rfl);(case hi13=>rw[HC3.out];kernel_rfl);(case h113=>exact HOO3.out);intro Z3 hZ;have HXX3:=hid hZ;clear hZ))
       have HST3:Hid (Below u2.heap.size u2 Z3):=hid (HM2.out.trans ((HBY3.out.trans (HXX3.out.below.mono HBY3.out.size)).mono HM2.out.size))
       have H3W:Hid (Below W.heap.size W Z3):=hid (HUW.out.trans (HST3.out.mono HUW.out.size))
       have H3B:Hid (Below w.heap.size w Z3):=hid (HUB.out.trans (HST3.out.mono HUB.out.size))
       have H3R:Hid (Below wr.heap.size wr Z3):=hid (HUR.out.trans (HST3.out.mono HUR.out.size))
       have HPL3:Hid (y3.heap.size < Z3.heap.size):=hid HXX3.out.size
       have HPC3:=hid HXX3.out.range
       obtain⟨q3,hq3⟩:∃ q,y3.heap.size= q:=⟨_,rfl⟩
       rw[hq3] at HPL3 HPC3
       rw[hq3]
       clear hq3 HXX3 HEV3
       have HTA:=hid (z3z (fun _=>True) 13 (zl 13 (by decide +kernel)) cx cy x y Z3 (HKX.out Z3 H3W.out) (HKY.out Z3 H3W.out) (fun _ _=>trivial))
       go_upto_region 17 with (first|((with_reducible refine z8 29 _ rfl ?hwl14 (w.heap.size) (0) (cx) _ rfl (HWx.out Z3 H3W.out).range Tryz.underlying29 rfl ?hil14 ?_);(case hwl14=>(exact wantA rfl));(case hil14=>rw[HLx.out];kernel_rfl))|((with_reducible refine z8 29 _ rfl ?hwl15 (w.heap.size+1) (0) (cy) _ rfl (HWy.out Z3 H3W.out).range Tryz.underlying29 rfl ?hil15 ?_);(case hwl15=>(exact wantA rfl));(case hil15=>rw[HLy.out];kernel_rfl))|(go_at_call 27;refine HTA.out.mono ?_;rintro e m3 ⟨d3,rfl,hk,hbb⟩;have HM3:=hid hbb;have HNC:=hid (z1M (fun _=>True) d3 (twoE 13 x y) m3 hk (fun _ _=>trivial));clear hk hbb)|(go_at_call 26;refine HNC.out.mono ?_;rintro e m4 ⟨d4,rfl,hk,hb2⟩;have hbb:=HM3.out.trans (hb2.mono HM3.out.size);have HM4:=hid hbb;have HEV4:=hid (z0Q (notE (twoE 13 x y)) E (E.map VarT.init) d4 (.slice EA E.length ec) (.slice UA kn uc) m4 hk.exp (HEV.out m4 (H3W.out.trans (hbb.mono H3W.out.size))) (HLV.out m4 (H3R.out.trans (hbb.mono H3R.out.size))) (by have:=HE40.out;omega) (by rw[List.length_map];have:=HE40.out;omega) (HTB.out.next (H3B.out.trans (hbb.mono H3B.out.size))));clear hk hbb hb2)|(go_at_call 14;refine HEV4.out.mono ?_;rintro e y4 ⟨cs4,rfl,hk,hr,hb⟩;have HC4:=hid (ze hk.val).1;have HOO4:=hid (ze hk.val).2;have HNN4:=hid (z19 hk.val);have HBY4:=hid hb;clear hk hr hb)|((with_reducible refine zR 26 _ _ rfl ?hwx16 y4 ?zz16 (cs4) ?hwld16 ?hz16 ?hx16 ?hy16 ?hi16 ?h116 ?_);(case hwld16=>rfl);(case hx16=>rfl);(case hy16=>rfl);(case hwx16=>(exact wantA rfl));(case hz16=>rw[HC4.out];rfl);(case hi16=>rw[HC4.out];kernel_rfl);(case h116=>exact HOO4.out);intro Z4 hZ;have HXX4:=hid hZ;clear hZ))
       have HST4:Hid (Below Z3.heap.size Z3 Z4):=hid (HM4.out.trans ((HBY4.out.trans (HXX4.out.below.mono HBY4.out.size)).mono HM4.out.size))
       have H4W:Hid (Below W.heap.size W Z4):=hid (H3W.out.trans (HST4.out.mono H3W.out.size))
       have H4B:Hid (Below w.heap.size w Z4):=hid (H3B.out.trans (HST4.out.mono H3B.out.size))
       have H4R:Hid (Below wr.heap.size wr Z4):=hid (H3R.out.trans (HST4.out.mono H3R.out.size))
       have HPL4:Hid (y4.heap.size < Z4.heap.size):=hid HXX4.out.size
       have HPC4:=hid HXX4.out.range
       obtain⟨q4,hq4⟩:∃ q,y4.heap.size= q:=⟨_,rfl⟩
       rw[hq4] at HPL4 HPC4
       rw[hq4]
       clear hq4 HXX4 HEV4
       have hs:Below Z4.heap.size Z4 Z4.drew:=(Below.refl _ _).drew
       have hkx0:=HKX.out Z4.drew (H4W.out.trans (hs.mono H4W.out.size))
       have hky0:=HKY.out Z4.drew (H4W.out.trans (hs.mono H4W.out.size))
       go_cut [20,21] (fun v n z=>∃ p c,v= .pointer (some ⟨p,0,none⟩)∧n= .int .i64 (resV (evalT (twoE 14 (notE x) (notE y)) E (E.map VarT.init))).2∧Whole 26 z p c∧c[1]?= some (.int .i64 (vnum (resV (evalT (twoE 14 (notE x) (notE y)) E (E.map VarT.init))).1))∧Below Z4.heap.size Z4 z)
       case first=>
        refine z62 (.take 0 (.take 1 (.take 2 (.take 4 (.take 5 (.take 8 (.take 9 (.two 3 14 (.two 6 14 (.two 7 14 (.two 10 14 (.take 11 (.take 12 (.take 13 (.act 14 (.act 15 (.take 16 .done)))))) (.act 10 (.take 11 (.take 12 (.take 13 (.act 15 (.take 16 .done))))))) (.act 7 (.act 10 (.take 11 (.take 12 (.take 13 (.act 15 (.take 16 .done)))))))) (.act 6 (.act 7 (.act 10 (.take 11 (.take 12 (.take 13 (.act 15 (.take 16 .done))))))))) (.act 3 (.act 6 (.act 7 (.act 10 (.take 11 (.take 12 (.take 13 (.act 15 (.take 16 .done))))))))))))))))) (fun z=>Below Z4.heap.size Z4 z) (by kernel_rfl) (by kernel_rfl) (by kernel_rfl) rfl (by intro c a d v w h;cases d<;>exact h) ?_
        refine z0A (some 124) (.func (.func 27) #[] #[]) _ _ rfl rfl rfl (by exact wantA rfl) hs rfl ?_
        go_frame
        refine z0A (some 125) (.func (.func 26) #[] #[]) _ _ rfl rfl rfl (by exact wantA rfl) hs rfl ?_
        go_frame
        refine z0l (some 126) (.agg ⟨cx⟩) _ rfl rfl (by exact wantA rfl) hs (fun z hz=>zJ 29 rfl (w.heap.size) 0 (cx) _ rfl (HWx.out z (H4W.out.trans (hz.mono H4W.out.size))).range Tryz.underlying29 rfl (by rw[HLx.out];kernel_rfl)) ?_
        go_frame
        refine z0A (some 128) (.func (.func 26) #[] #[]) _ _ rfl rfl rfl (by exact wantA rfl) hs rfl ?_
        go_frame
        refine z0l (some 129) (.agg ⟨cy⟩) _ rfl rfl (by exact wantA rfl) hs (fun z hz=>zJ 29 rfl (w.heap.size+1) 0 (cy) _ rfl (HWy.out z (H4W.out.trans (hz.mono H4W.out.size))).range Tryz.underlying29 rfl (by rw[HLy.out];kernel_rfl)) ?_
        go_frame
        refine z0A (some 132) (.slice EA E.length ec) _ _ rfl rfl rfl (by exact wantA rfl) hs rfl ?_
        go_frame
        refine z0A (some 133) (.slice UA kn uc) _ _ rfl rfl rfl (by exact wantA rfl) hs rfl ?_
        go_frame
        refine z2c ?_ ?_
        ·refine z0x (some 127) 26 Tryz.func26 (by kernel_rfl) (by kernel_rfl) [.agg ⟨cx⟩] _ _ _ _ rfl rfl rfl (by exact wantA rfl) rfl rfl ?_
         refine(z1M (fun _=>True) (cx) (x) Z4.drew hkx0 (fun _ _=>trivial)).mono ?_
         rintro e w1 ⟨c2,rfl,hkc2,hbc2⟩
         have hs:Below Z4.heap.size Z4 w1:=hs.trans (hbc2.mono hs.size)
         refine⟨_,rfl,hs,?_⟩
         go_frame
         have hm3:=hkx0.to (q:=(fun _=>True)) (fun b h1 h2=>⟨h1,hbc2.block b h2⟩) hbc2.size
         have hm4:=hky0.to (q:=(fun _=>True)) (fun b h1 h2=>⟨h1,hbc2.block b h2⟩) hbc2.size
         refine z2c ?_ ?_
         ·refine z0x (some 130) 26 Tryz.func26 (by kernel_rfl) (by kernel_rfl) [.agg ⟨cy⟩] _ _ _ _ rfl rfl rfl (by exact wantA rfl) rfl rfl ?_
          refine(z1M (fun _=>True) (cy) (y) w1 hm4 (fun _ _=>trivial)).mono ?_
          rintro e w5 ⟨c6,rfl,hkc6,hbc6⟩
          have hs:Below Z4.heap.size Z4 w5:=hs.trans (hbc6.mono hs.size)
          refine⟨_,rfl,hs,?_⟩
          go_frame
          have hm7:=hm3.to (q:=(fun _=>True)) (fun b h1 h2=>⟨h1,hbc6.block b h2⟩) hbc6.size
          have hm8:=hm4.to (q:=(fun _=>True)) (fun b h1 h2=>⟨h1,hbc6.block b h2⟩) hbc6.size
          have hm9:=hkc2.to (q:=(fun _=>True)) (fun b h1 h2=>⟨h1,hbc6.block b h2⟩) hbc6.size
          refine z2c ?_ ?_
          ·refine z0x (some 131) 27 Tryz.func27 (by kernel_rfl) (by kernel_rfl) [.int .i64 14,.agg ⟨c2⟩,.agg ⟨c6⟩] _ _ _ _ rfl rfl rfl (by exact wantA rfl) rfl rfl ?_
           refine(z3z (fun _=>True) 14 (zl 14 (by decide +kernel)) (c2) (c6) (notE (x)) (notE (y)) w5 hm9 hkc6 (fun _ _=>trivial)).mono ?_
           rintro e w10 ⟨c11,rfl,hkc11,hbc11⟩
           have hs:Below Z4.heap.size Z4 w10:=hs.trans (hbc11.mono hs.size)
           refine⟨_,rfl,hs,?_⟩
           go_frame
           have hm12:=hm7.to (q:=(fun _=>True)) (fun b h1 h2=>⟨h1,hbc11.block b h2⟩) hbc11.size
           have hm13:=hm8.to (q:=(fun _=>True)) (fun b h1 h2=>⟨h1,hbc11.block b h2⟩) hbc11.size
           have hm14:=hm9.to (q:=(fun _=>True)) (fun b h1 h2=>⟨h1,hbc11.block b h2⟩) hbc11.size
           have hm15:=hkc6.to (q:=(fun _=>True)) (fun b h1 h2=>⟨h1,hbc11.block b h2⟩) hbc11.size
           refine z2c ?_ ?_
           ·refine z2R (some 134) 14 Tryz.func14 (by kernel_rfl) (by kernel_rfl) [.agg ⟨c11⟩,.slice EA E.length ec,.slice UA kn uc] _ _ _ rfl rfl rfl (by exact wantA rfl) rfl ?_
            refine(z0Q (twoE 14 (notE x) (notE y)) E (E.map VarT.init) c11 _ _ w10 hkc11.exp (HEV.out w10 (H4W.out.trans (hs.mono H4W.out.size))) (HLV.out w10 (H4R.out.trans (hs.mono H4R.out.size))) (by have:=HE40.out;omega) (by rw[List.length_map];have:=HE40.out;omega) (HTB.out.next (H4B.out.trans (hs.mono H4B.out.size)))).mono ?_
            rintro e y16 ⟨v17,rfl,hkv17,hrv17,hbv17⟩
            have hlv17:=(ze hkv17.val).1
            have hov17:=(ze hkv17.val).2
            have hnv17:=z19 hkv17.val
            have hs:Below Z4.heap.size Z4 y16:=hs.trans (hbv17.mono hs.size)
            refine⟨_,rfl,hs,?_⟩
            go_frame
            refine z0A (some 123) (.tuple #[.agg ⟨v17⟩,.int .i64 (resV (evalT (twoE 14 (notE x) (notE y)) E (E.map VarT.init))).2]) _ _ rfl rfl rfl (by exact wantA rfl) hs rfl ?_
            go_frame
            refine z0l (some 135) (.agg ⟨v17⟩) _ rfl rfl (by exact wantA rfl) hs (fun z hz=>by go_simp) ?_
            go_frame
            refine z0l (some 136) (.int .i64 (resV (evalT (twoE 14 (notE x) (notE y)) E (E.map VarT.init))).2) _ rfl rfl (by exact wantA rfl) hs (fun z hz=>by go_simp) ?_
            go_frame
            refine z1B (some 20) (.pointer (some ⟨y16.heap.size,0,none⟩)) (y16.alloc (.cells zV6.toArray 26)) _ rfl rfl (by exact wantA rfl) (z0w 26 rfl _ _ HJ0.out HY0.out) (hs.trans ((zc y16 _).mono hs.size)) ?_
            go_frame
            have hbw19:=zc y16 (.cells zV6.toArray 26)
            have hww19:Whole 26 (y16.alloc (.cells zV6.toArray 26)) y16.heap.size zV6:=Whole.new y16 zV6 26
            have hgw19:Z4.heap.size≤y16.heap.size:=hs.size
            have hs:Below Z4.heap.size Z4 (y16.alloc (.cells zV6.toArray 26)):=hs.trans (hbw19.mono hs.size)
            generalize y16.alloc (.cells zV6.toArray 26)= w19 at*
            refine z0S none 26 _ _ _ rfl rfl rfl (by exact wantA rfl) y16.heap.size zV6 v17 hww19 (by rw[hlv17];rfl) rfl rfl (by rw[hlv17];kernel_rfl) hov17 ?_
            intro w20 hwf hbf
            have hsf:Below Z4.heap.size Z4 w20:=hs.trans (hbf.below hs.size hgw19 hgw19)
            refine⟨hsf,?_⟩
            go_frame
            refine z1d (some 21) (.int .i64 (resV (evalT (twoE 14 (notE x) (notE y)) E (E.map VarT.init))).2) _ _ rfl rfl rfl (by exact wantA rfl) hsf rfl ?_
            go_frame
            refine z2u ?_
            go_wp2
            go_meet
            case rel=>exact⟨_,v17,rfl,rfl,hwf,hnv17,hsf⟩
           ·refine z1B (some 20) (.pointer (some ⟨w10.heap.size,0,none⟩)) (w10.alloc (.cells zV6.toArray 26)) _ rfl rfl (by exact wantA rfl) (z0w 26 rfl _ _ HJ0.out HY0.out) (hs.trans ((zc w10 _).mono hs.size)) ?_
            go_frame
            have hbw21:=zc w10 (.cells zV6.toArray 26)
            have hww21:Whole 26 (w10.alloc (.cells zV6.toArray 26)) w10.heap.size zV6:=Whole.new w10 zV6 26
            have hgw21:Z4.heap.size≤w10.heap.size:=hs.size
            have hs:Below Z4.heap.size Z4 (w10.alloc (.cells zV6.toArray 26)):=hs.trans (hbw21.mono hs.size)
            generalize w10.alloc (.cells zV6.toArray 26)= w21 at*
            have hm22:=z0g hm12 hbw21
            have hm23:=z0g hm13 hbw21
            have hm24:=z0g hm14 hbw21
            have hm25:=z0g hm15 hbw21
            have hm26:=z0g hkc11 hbw21
            refine z2R (some 134) 14 Tryz.func14 (by kernel_rfl) (by kernel_rfl) [.agg ⟨c11⟩,.slice EA E.length ec,.slice UA kn uc] _ _ _ rfl rfl rfl (by exact wantA rfl) rfl ?_
            refine(z0Q (twoE 14 (notE x) (notE y)) E (E.map VarT.init) c11 _ _ w21 hm26.exp (HEV.out w21 (H4W.out.trans (hs.mono H4W.out.size))) (HLV.out w21 (H4R.out.trans (hs.mono H4R.out.size))) (by have:=HE40.out;omega) (by rw[List.length_map];have:=HE40.out;omega) (HTB.out.next (H4B.out.trans (hs.mono H4B.out.size)))).mono ?_
            rintro e y27 ⟨v28,rfl,hkv28,hrv28,hbv28⟩
            have hlv28:=(ze hkv28.val).1
            have hov28:=(ze hkv28.val).2
            have hnv28:=z19 hkv28.val
            have hs:Below Z4.heap.size Z4 y27:=hs.trans (hbv28.mono hs.size)
            refine⟨_,rfl,hs,?_⟩
            go_frame
            have hw29:=hww21.keep (hbv28.block _ hww21.lt)
            refine z0A (some 123) (.tuple #[.agg ⟨v28⟩,.int .i64 (resV (evalT (twoE 14 (notE x) (notE y)) E (E.map VarT.init))).2]) _ _ rfl rfl rfl (by exact wantA rfl) hs rfl ?_
            go_frame
            refine z0l (some 135) (.agg ⟨v28⟩) _ rfl rfl (by exact wantA rfl) hs (fun z hz=>by go_simp) ?_
            go_frame
            refine z0l (some 136) (.int .i64 (resV (evalT (twoE 14 (notE x) (notE y)) E (E.map VarT.init))).2) _ rfl rfl (by exact wantA rfl) hs (fun z hz=>by go_simp) ?_
            go_frame
            refine z0S none 26 _ _ _ rfl rfl rfl (by exact wantA rfl) w10.heap.size zV6 v28 hw29 (by rw[hlv28];rfl) rfl rfl (by rw[hlv28];kernel_rfl) hov28 ?_
            intro w30 hwf hbf
            have hsf:Below Z4.heap.size Z4 w30:=hs.trans (hbf.below hs.size hgw21 hgw21)
            refine⟨hsf,?_⟩
            go_frame
            refine z1d (some 21) (.int .i64 (resV (evalT (twoE 14 (notE x) (notE y)) E (E.map VarT.init))).2) _ _ rfl rfl rfl (by exact wantA rfl) hsf rfl ?_
            go_frame
            refine z2u ?_
            go_wp2
            go_meet
            case rel=>exact⟨_,v28,rfl,rfl,hwf,hnv28,hsf⟩
          ·refine z1B (some 20) (.pointer (some ⟨w5.heap.size,0,none⟩)) (w5.alloc (.cells zV6.toArray 26)) _ rfl rfl (by exact wantA rfl) (z0w 26 rfl _ _ HJ0.out HY0.out) (hs.trans ((zc w5 _).mono hs.size)) ?_
           go_frame
           have hbw31:=zc w5 (.cells zV6.toArray 26)
           have hww31:Whole 26 (w5.alloc (.cells zV6.toArray 26)) w5.heap.size zV6:=Whole.new w5 zV6 26
           have hgw31:Z4.heap.size≤w5.heap.size:=hs.size
           have hs:Below Z4.heap.size Z4 (w5.alloc (.cells zV6.toArray 26)):=hs.trans (hbw31.mono hs.size)
           generalize w5.alloc (.cells zV6.toArray 26)= w31 at*
           have hm32:=z0g hm7 hbw31
           have hm33:=z0g hm8 hbw31
           have hm34:=z0g hm9 hbw31
           have hm35:=z0g hkc6 hbw31
           refine z0x (some 131) 27 Tryz.func27 (by kernel_rfl) (by kernel_rfl) [.int .i64 14,.agg ⟨c2⟩,.agg ⟨c6⟩] _ _ _ _ rfl rfl rfl (by exact wantA rfl) rfl rfl ?_
           refine(z3z (fun b=>b≠w5.heap.size) 14 (zl 14 (by decide +kernel)) (c2) (c6) (notE (x)) (notE (y)) w31 hm34 hm35 (fun b h=>Nat.ne_of_gt (Nat.lt_of_lt_of_le hww31.lt h))).mono ?_
           rintro e w36 ⟨c37,rfl,hkc37,hbc37⟩
           have hs:Below Z4.heap.size Z4 w36:=hs.trans (hbc37.mono hs.size)
           refine⟨_,rfl,hs,?_⟩
           go_frame
           have hm38:=hm32.to (q:=(fun b=>b≠w5.heap.size)) (fun b h1 h2=>⟨h1,hbc37.block b h2⟩) hbc37.size
           have hm39:=hm33.to (q:=(fun b=>b≠w5.heap.size)) (fun b h1 h2=>⟨h1,hbc37.block b h2⟩) hbc37.size
           have hm40:=hm34.to (q:=(fun b=>b≠w5.heap.size)) (fun b h1 h2=>⟨h1,hbc37.block b h2⟩) hbc37.size
           have hm41:=hm35.to (q:=(fun b=>b≠w5.heap.size)) (fun b h1 h2=>⟨h1,hbc37.block b h2⟩) hbc37.size
           have hw42:=hww31.keep (hbc37.block _ hww31.lt)
           refine z2R (some 134) 14 Tryz.func14 (by kernel_rfl) (by kernel_rfl) [.agg ⟨c37⟩,.slice EA E.length ec,.slice UA kn uc] _ _ _ rfl rfl rfl (by exact wantA rfl) rfl ?_
           refine(z0Q (twoE 14 (notE x) (notE y)) E (E.map VarT.init) c37 _ _ w36 hkc37.exp (HEV.out w36 (H4W.out.trans (hs.mono H4W.out.size))) (HLV.out w36 (H4R.out.trans (hs.mono H4R.out.size))) (by have:=HE40.out;omega) (by rw[List.length_map];have:=HE40.out;omega) (HTB.out.next (H4B.out.trans (hs.mono H4B.out.size)))).mono ?_
           rintro e y43 ⟨v44,rfl,hkv44,hrv44,hbv44⟩
           have hlv44:=(ze hkv44.val).1
           have hov44:=(ze hkv44.val).2
           have hnv44:=z19 hkv44.val
           have hs:Below Z4.heap.size Z4 y43:=hs.trans (hbv44.mono hs.size)
           refine⟨_,rfl,hs,?_⟩
           go_frame
           have hw45:=hw42.keep (hbv44.block _ hw42.lt)
           refine z0A (some 123) (.tuple #[.agg ⟨v44⟩,.int .i64 (resV (evalT (twoE 14 (notE x) (notE y)) E (E.map VarT.init))).2]) _ _ rfl rfl rfl (by exact wantA rfl) hs rfl ?_
           go_frame
           refine z0l (some 135) (.agg ⟨v44⟩) _ rfl rfl (by exact wantA rfl) hs (fun z hz=>by go_simp) ?_
           go_frame
           refine z0l (some 136) (.int .i64 (resV (evalT (twoE 14 (notE x) (notE y)) E (E.map VarT.init))).2) _ rfl rfl (by exact wantA rfl) hs (fun z hz=>by go_simp) ?_
           go_frame
           refine z0S none 26 _ _ _ rfl rfl rfl (by exact wantA rfl) w5.heap.size zV6 v44 hw45 (by rw[hlv44];rfl) rfl rfl (by rw[hlv44];kernel_rfl) hov44 ?_
           intro w46 hwf hbf
           have hsf:Below Z4.heap.size Z4 w46:=hs.trans (hbf.below hs.size hgw31 hgw31)
           refine⟨hsf,?_⟩
           go_frame
           refine z1d (some 21) (.int .i64 (resV (evalT (twoE 14 (notE x) (notE y)) E (E.map VarT.init))).2) _ _ rfl rfl rfl (by exact wantA rfl) hsf rfl ?_
           go_frame
           refine z2u ?_
           go_wp2
           go_meet
           case rel=>exact⟨_,v44,rfl,rfl,hwf,hnv44,hsf⟩
         ·refine z1B (some 20) (.pointer (some ⟨w1.heap.size,0,none⟩)) (w1.alloc (.cells zV6.toArray 26)) _ rfl rfl (by exact wantA rfl) (z0w 26 rfl _ _ HJ0.out HY0.out) (hs.trans ((zc w1 _).mono hs.size)) ?_
          go_frame
          have hbw47:=zc w1 (.cells zV6.toArray 26)
          have hww47:Whole 26 (w1.alloc (.cells zV6.toArray 26)) w1.heap.size zV6:=Whole.new w1 zV6 26
          have hgw47:Z4.heap.size≤w1.heap.size:=hs.size
          have hs:Below Z4.heap.size Z4 (w1.alloc (.cells zV6.toArray 26)):=hs.trans (hbw47.mono hs.size)
          generalize w1.alloc (.cells zV6.toArray 26)= w47 at*
          have hm48:=z0g hm3 hbw47
          have hm49:=z0g hm4 hbw47
          have hm50:=z0g hkc2 hbw47
          refine z0x (some 130) 26 Tryz.func26 (by kernel_rfl) (by kernel_rfl) [.agg ⟨cy⟩] _ _ _ _ rfl rfl rfl (by exact wantA rfl) rfl rfl ?_
          refine(z1M (fun b=>b≠w1.heap.size) (cy) (y) w47 hm49 (fun b h=>Nat.ne_of_gt (Nat.lt_of_lt_of_le hww47.lt h))).mono ?_
          rintro e w51 ⟨c52,rfl,hkc52,hbc52⟩
          have hs:Below Z4.heap.size Z4 w51:=hs.trans (hbc52.mono hs.size)
          refine⟨_,rfl,hs,?_⟩
          go_frame
          have hm53:=hm48.to (q:=(fun b=>b≠w1.heap.size)) (fun b h1 h2=>⟨h1,hbc52.block b h2⟩) hbc52.size
          have hm54:=hm49.to (q:=(fun b=>b≠w1.heap.size)) (fun b h1 h2=>⟨h1,hbc52.block b h2⟩) hbc52.size
          have hm55:=hm50.to (q:=(fun b=>b≠w1.heap.size)) (fun b h1 h2=>⟨h1,hbc52.block b h2⟩) hbc52.size
          have hw56:=hww47.keep (hbc52.block _ hww47.lt)
          refine z0x (some 131) 27 Tryz.func27 (by kernel_rfl) (by kernel_rfl) [.int .i64 14,.agg ⟨c2⟩,.agg ⟨c52⟩] _ _ _ _ rfl rfl rfl (by exact wantA rfl) rfl rfl ?_
          refine(z3z (fun b=>b≠w1.heap.size) 14 (zl 14 (by decide +kernel)) (c2) (c52) (notE (x)) (notE (y)) w51 hm55 hkc52 (fun b h=>Nat.ne_of_gt (Nat.lt_of_lt_of_le hw56.lt h))).mono ?_
          rintro e w57 ⟨c58,rfl,hkc58,hbc58⟩
          have hs:Below Z4.heap.size Z4 w57:=hs.trans (hbc58.mono hs.size)
          refine⟨_,rfl,hs,?_⟩
          go_frame
          have hm59:=hm53.to (q:=(fun b=>b≠w1.heap.size)) (fun b h1 h2=>⟨h1,hbc58.block b h2⟩) hbc58.size
          have hm60:=hm54.to (q:=(fun b=>b≠w1.heap.size)) (fun b h1 h2=>⟨h1,hbc58.block b h2⟩) hbc58.size
          have hm61:=hm55.to (q:=(fun b=>b≠w1.heap.size)) (fun b h1 h2=>⟨h1,hbc58.block b h2⟩) hbc58.size
          have hm62:=hkc52.to (q:=(fun b=>b≠w1.heap.size)) (fun b h1 h2=>⟨h1,hbc58.block b h2⟩) hbc58.size
          have hw63:=hw56.keep (hbc58.block _ hw56.lt)
          refine z2R (some 134) 14 Tryz.func14 (by kernel_rfl) (by kernel_rfl) [.agg ⟨c58⟩,.slice EA E.length ec,.slice UA kn uc] _ _ _ rfl rfl rfl (by exact wantA rfl) rfl ?_
          refine(z0Q (twoE 14 (notE x) (notE y)) E (E.map VarT.init) c58 _ _ w57 hkc58.exp (HEV.out w57 (H4W.out.trans (hs.mono H4W.out.size))) (HLV.out w57 (H4R.out.trans (hs.mono H4R.out.size))) (by have:=HE40.out;omega) (by rw[List.length_map];have:=HE40.out;omega) (HTB.out.next (H4B.out.trans (hs.mono H4B.out.size)))).mono ?_
          rintro e y64 ⟨v65,rfl,hkv65,hrv65,hbv65⟩
          have hlv65:=(ze hkv65.val).1
          have hov65:=(ze hkv65.val).2
          have hnv65:=z19 hkv65.val
          have hs:Below Z4.heap.size Z4 y64:=hs.trans (hbv65.mono hs.size)
          refine⟨_,rfl,hs,?_⟩
          go_frame
          have hw66:=hw63.keep (hbv65.block _ hw63.lt)
          refine z0A (some 123) (.tuple #[.agg ⟨v65⟩,.int .i64 (resV (evalT (twoE 14 (notE x) (notE y)) E (E.map VarT.init))).2]) _ _ rfl rfl rfl (by exact wantA rfl) hs rfl ?_
          go_frame
          refine z0l (some 135) (.agg ⟨v65⟩) _ rfl rfl (by exact wantA rfl) hs (fun z hz=>by go_simp) ?_
          go_frame
          refine z0l (some 136) (.int .i64 (resV (evalT (twoE 14 (notE x) (notE y)) E (E.map VarT.init))).2) _ rfl rfl (by exact wantA rfl) hs (fun z hz=>by go_simp) ?_
          go_frame
          refine z0S none 26 _ _ _ rfl rfl rfl (by exact wantA rfl) w1.heap.size zV6 v65 hw66 (by rw[hlv65];rfl) rfl rfl (by rw[hlv65];kernel_rfl) hov65 ?_
          intro w67 hwf hbf
          have hsf:Below Z4.heap.size Z4 w67:=hs.trans (hbf.below hs.size hgw47 hgw47)
          refine⟨hsf,?_⟩
          go_frame
          refine z1d (some 21) (.int .i64 (resV (evalT (twoE 14 (notE x) (notE y)) E (E.map VarT.init))).2) _ _ rfl rfl rfl (by exact wantA rfl) hsf rfl ?_
          go_frame
          refine z2u ?_
          go_wp2
          go_meet
          case rel=>exact⟨_,v65,rfl,rfl,hwf,hnv65,hsf⟩
        ·refine z1B (some 20) (.pointer (some ⟨Z4.drew.heap.size,0,none⟩)) (Z4.drew.alloc (.cells zV6.toArray 26)) _ rfl rfl (by exact wantA rfl) (z0w 26 rfl _ _ HJ0.out HY0.out) (hs.trans ((zc Z4.drew _).mono hs.size)) ?_
         go_frame
         have hbw68:=zc Z4.drew (.cells zV6.toArray 26)
         have hww68:Whole 26 (Z4.drew.alloc (.cells zV6.toArray 26)) Z4.drew.heap.size zV6:=Whole.new Z4.drew zV6 26
         have hgw68:Z4.heap.size≤Z4.drew.heap.size:=hs.size
         have hs:Below Z4.heap.size Z4 (Z4.drew.alloc (.cells zV6.toArray 26)):=hs.trans (hbw68.mono hs.size)
         generalize Z4.drew.alloc (.cells zV6.toArray 26)= w68 at*
         have hm69:=z0g hkx0 hbw68
         have hm70:=z0g hky0 hbw68
         refine z0x (some 127) 26 Tryz.func26 (by kernel_rfl) (by kernel_rfl) [.agg ⟨cx⟩] _ _ _ _ rfl rfl rfl (by exact wantA rfl) rfl rfl ?_
         refine(z1M (fun b=>b≠Z4.drew.heap.size) (cx) (x) w68 hm69 (fun b h=>Nat.ne_of_gt (Nat.lt_of_lt_of_le hww68.lt h))).mono ?_
         rintro e w71 ⟨c72,rfl,hkc72,hbc72⟩
         have hs:Below Z4.heap.size Z4 w71:=hs.trans (hbc72.mono hs.size)
         refine⟨_,rfl,hs,?_⟩
         go_frame
         have hm73:=hm69.to (q:=(fun b=>b≠Z4.drew.heap.size)) (fun b h1 h2=>⟨h1,hbc72.block b h2⟩) hbc72.size
         have hm74:=hm70.to (q:=(fun b=>b≠Z4.drew.heap.size)) (fun b h1 h2=>⟨h1,hbc72.block b h2⟩) hbc72.size
         have hw75:=hww68.keep (hbc72.block _ hww68.lt)
         refine z0x (some 130) 26 Tryz.func26 (by kernel_rfl) (by kernel_rfl) [.agg ⟨cy⟩] _ _ _ _ rfl rfl rfl (by exact wantA rfl) rfl rfl ?_
         refine(z1M (fun b=>b≠Z4.drew.heap.size) (cy) (y) w71 hm74 (fun b h=>Nat.ne_of_gt (Nat.lt_of_lt_of_le hw75.lt h))).mono ?_
         rintro e w76 ⟨c77,rfl,hkc77,hbc77⟩
         have hs:Below Z4.heap.size Z4 w76:=hs.trans (hbc77.mono hs.size)
         refine⟨_,rfl,hs,?_⟩
         go_frame
         have hm78:=hm73.to (q:=(fun b=>b≠Z4.drew.heap.size)) (fun b h1 h2=>⟨h1,hbc77.block b h2⟩) hbc77.size
         have hm79:=hm74.to (q:=(fun b=>b≠Z4.drew.heap.size)) (fun b h1 h2=>⟨h1,hbc77.block b h2⟩) hbc77.size
         have hm80:=hkc72.to (q:=(fun b=>b≠Z4.drew.heap.size)) (fun b h1 h2=>⟨h1,hbc77.block b h2⟩) hbc77.size
         have hw81:=hw75.keep (hbc77.block _ hw75.lt)
         refine z0x (some 131) 27 Tryz.func27 (by kernel_rfl) (by kernel_rfl) [.int .i64 14,.agg ⟨c72⟩,.agg ⟨c77⟩] _ _ _ _ rfl rfl rfl (by exact wantA rfl) rfl rfl ?_
         refine(z3z (fun b=>b≠Z4.drew.heap.size) 14 (zl 14 (by decide +kernel)) (c72) (c77) (notE (x)) (notE (y)) w76 hm80 hkc77 (fun b h=>Nat.ne_of_gt (Nat.lt_of_lt_of_le hw81.lt h))).mono ?_
         rintro e w82 ⟨c83,rfl,hkc83,hbc83⟩
         have hs:Below Z4.heap.size Z4 w82:=hs.trans (hbc83.mono hs.size)
         refine⟨_,rfl,hs,?_⟩
         go_frame
         have hm84:=hm78.to (q:=(fun b=>b≠Z4.drew.heap.size)) (fun b h1 h2=>⟨h1,hbc83.block b h2⟩) hbc83.size
         have hm85:=hm79.to (q:=(fun b=>b≠Z4.drew.heap.size)) (fun b h1 h2=>⟨h1,hbc83.block b h2⟩) hbc83.size
         have hm86:=hm80.to (q:=(fun b=>b≠Z4.drew.heap.size)) (fun b h1 h2=>⟨h1,hbc83.block b h2⟩) hbc83.size
         have hm87:=hkc77.to (q:=(fun b=>b≠Z4.drew.heap.size)) (fun b h1 h2=>⟨h1,hbc83.block b h2⟩) hbc83.size
         have hw88:=hw81.keep (hbc83.block _ hw81.lt)
         refine z2R (some 134) 14 Tryz.func14 (by kernel_rfl) (by kernel_rfl) [.agg ⟨c83⟩,.slice EA E.length ec,.slice UA kn uc] _ _ _ rfl rfl rfl (by exact wantA rfl) rfl ?_
         refine(z0Q (twoE 14 (notE x) (notE y)) E (E.map VarT.init) c83 _ _ w82 hkc83.exp (HEV.out w82 (H4W.out.trans (hs.mono H4W.out.size))) (HLV.out w82 (H4R.out.trans (hs.mono H4R.out.size))) (by have:=HE40.out;omega) (by rw[List.length_map];have:=HE40.out;omega) (HTB.out.next (H4B.out.trans (hs.mono H4B.out.size)))).mono ?_
         rintro e y89 ⟨v90,rfl,hkv90,hrv90,hbv90⟩
         have hlv90:=(ze hkv90.val).1
         have hov90:=(ze hkv90.val).2
         have hnv90:=z19 hkv90.val
         have hs:Below Z4.heap.size Z4 y89:=hs.trans (hbv90.mono hs.size)
         refine⟨_,rfl,hs,?_⟩
         go_frame
         have hw91:=hw88.keep (hbv90.block _ hw88.lt)
         refine z0A (some 123) (.tuple #[.agg ⟨v90⟩,.int .i64 (resV (evalT (twoE 14 (notE x) (notE y)) E (E.map VarT.init))).2]) _ _ rfl rfl rfl (by exact wantA rfl) hs rfl ?_
         go_frame
         refine z0l (some 135) (.agg ⟨v90⟩) _ rfl rfl (by exact wantA rfl) hs (fun z hz=>by go_simp) ?_
         go_frame
         refine z0l (some 136) (.int .i64 (resV (evalT (twoE 14 (notE x) (notE y)) E (E.map VarT.init))).2) _ rfl rfl (by exact wantA rfl) hs (fun z hz=>by go_simp) ?_
         go_frame
         refine z0S none 26 _ _ _ rfl rfl rfl (by exact wantA rfl) Z4.drew.heap.size zV6 v90 hw91 (by rw[hlv90];rfl) rfl rfl (by rw[hlv90];kernel_rfl) hov90 ?_
         intro w92 hwf hbf
         have hsf:Below Z4.heap.size Z4 w92:=hs.trans (hbf.below hs.size hgw68 hgw68)
         refine⟨hsf,?_⟩
         go_frame
         refine z1d (some 21) (.int .i64 (resV (evalT (twoE 14 (notE x) (notE y)) E (E.map VarT.init))).2) _ _ rfl rfl rfl (by exact wantA rfl) hsf rfl ?_
         go_frame
         refine z2u ?_
         go_wp2
         go_meet
         case rel=>exact⟨_,v90,rfl,rfl,hwf,hnv90,hsf⟩
       case rest=>
       obtain⟨q5,c5,rfl,rfl,hw5,hn5,hs5⟩:=hcut
       obtain⟨Z5,hZ5⟩:∃ z,z= wc:=⟨_,rfl⟩
       subst hZ5
       have e3:(resV (evalT (notE (notE x)) E (E.map VarT.init))).2= 0:=by rw[HL1.out];rfl
       have e4:(resV (evalT (notE (twoE 13 x y)) E (E.map VarT.init))).2= 0:=by rw[HL2.out];rfl
       have e5:(resV (evalT (twoE 14 (notE x) (notE y)) E (E.map VarT.init))).2= 0:=by rw[HL3.out];rfl
       rw[e3,e4,e5]
       clear e3 e4 e5
       have HB5:Hid (Below w.heap.size w Z5):=hid (H4B.out.trans (hs5.mono H4B.out.size))
       have h35:Below Z3.heap.size Z3 Z5:=HST4.out.trans (hs5.mono HST4.out.size)
       have h25:Below Z2.heap.size Z2 Z5:=HU2.out.trans ((HST3.out.trans (h35.mono HST3.out.size)).mono HU2.out.size)
       have c1:=(HCK1.out Z5 h25).2
       have c2:=(HCK2.out Z5 h25).2
       have c3:=(h35.cell (p:=⟨q3,0+1,none⟩) HPL3.out).trans (HPC3.out 1 _ HNN3.out)
       have c4:=(hs5.cell (p:=⟨q4,0+1,none⟩) HPL4.out).trans (HPC4.out 1 _ HNN4.out)
       have c6:=hw5.range 1 _ hn5
       rw[Nat.zero_add] at c3 c4 c6
       rw[HVA.out] at c1
       rw[HVB.out] at c2
       rw[HL1.out] at c3
       rw[HL2.out] at c4
       rw[HL3.out] at c6
       clear hs5 h35 h25 hw5 hn5 hs hkx0 hky0
       cases va<;>cases vb
       ·have f1:Z5.cell? ⟨q1,1,none⟩= some (.int .i64 0):=c1
        have f2:Z5.cell? ⟨q2,1,none⟩= some (.int .i64 0):=c2
        have f3:Z5.cell? ⟨q3,1,none⟩= some (.int .i64 0):=c3
        have f4:Z5.cell? ⟨q4,1,none⟩= some (.int .i64 1):=c4
        have f5:Z5.cell? ⟨q5,1,none⟩= some (.int .i64 1):=c6
        clear c1 c2 c3 c4 c6
        go_wp2
        go_ret
        exact⟨rfl,HB5.out⟩
       ·have f1:Z5.cell? ⟨q1,1,none⟩= some (.int .i64 0):=c1
        have f2:Z5.cell? ⟨q2,1,none⟩= some (.int .i64 1):=c2
        have f3:Z5.cell? ⟨q3,1,none⟩= some (.int .i64 0):=c3
        have f4:Z5.cell? ⟨q4,1,none⟩= some (.int .i64 1):=c4
        have f5:Z5.cell? ⟨q5,1,none⟩= some (.int .i64 1):=c6
        clear c1 c2 c3 c4 c6
        go_wp2
        go_ret
        exact⟨rfl,HB5.out⟩
       ·have f1:Z5.cell? ⟨q1,1,none⟩= some (.int .i64 1):=c1
        have f2:Z5.cell? ⟨q2,1,none⟩= some (.int .i64 0):=c2
        have f3:Z5.cell? ⟨q3,1,none⟩= some (.int .i64 1):=c3
        have f4:Z5.cell? ⟨q4,1,none⟩= some (.int .i64 1):=c4
        have f5:Z5.cell? ⟨q5,1,none⟩= some (.int .i64 1):=c6
        clear c1 c2 c3 c4 c6
        go_wp2
        go_ret
        exact⟨rfl,HB5.out⟩
       ·have f1:Z5.cell? ⟨q1,1,none⟩= some (.int .i64 1):=c1
        have f2:Z5.cell? ⟨q2,1,none⟩= some (.int .i64 1):=c2
        have f3:Z5.cell? ⟨q3,1,none⟩= some (.int .i64 1):=c3
        have f4:Z5.cell? ⟨q4,1,none⟩= some (.int .i64 0):=c4
        have f5:Z5.cell? ⟨q5,1,none⟩= some (.int .i64 0):=c6
        clear c1 c2 c3 c4 c6
        go_wp2
        go_ret
        exact⟨rfl,HB5.out⟩
end Go.Proofs.YtmpbepjjbaeebaaGreatDoor
end
section
namespace Go.Proofs.YtmpbepjjbaeebaaGreatDoor
open Go.ChangeShapes Go.WideShapes Go.ChangeAt Go.RowKit Go
theorem z8O {W:World} (hL:laidMetH Tryz.prog Rows.evalNotRow.laid W):TabP W:=by
 have h1:laidMet Tryz.prog [("internal/strconv.uint64pow10",Rows.laid_internal_strconv_uint64pow10)] W:=laidMet.tail (laidMet.tail (show laidMet Tryz.prog Rows.evalNotRow.laid W from hL))
 have e:(Rows.laid_internal_strconv_uint64pow10:DataW Unit)= Lib.tabData .u64 Lib.pow10Tab:=by kernel_rfl
 rw[e] at h1
 exact Lib.tabIs_of_head (g:=2) (t:=226) (e:=161) (n:=20) (by kernel_rfl) (by kernel_rfl) Tryz.underlying226 Tryz.underlying161 (by kernel_rfl) (by kernel_rfl) h1
noncomputable def z2t (os:Os):World:=
 { World.holding Tryz.prog os ⟨#[],#[],[]⟩ with heap:=((((World.holding Tryz.prog os ⟨#[],#[],[]⟩).heap).modify 2 (fun x=>match x with| .cells _ t frozen=> .cells #[.int .u64 1,.int .u64 10,.int .u64 100,.int .u64 1000,.int .u64 10000,.int .u64 100000,.int .u64 1000000,.int .u64 10000000,.int .u64 100000000,.int .u64 1000000000,.int .u64 10000000000,.int .u64 100000000000,.int .u64 1000000000000,.int .u64 10000000000000,.int .u64 100000000000000,.int .u64 1000000000000000,.int .u64 10000000000000000,.int .u64 100000000000000000,.int .u64 1000000000000000000,.int .u64 10000000000000000000] t frozen|o=>o)).modify 3 (fun x=>match x with| .cells _ t frozen=> .cells #[.int .u8 0,.int .u8 1,.int .u8 28,.int .u8 2,.int .u8 29,.int .u8 14,.int .u8 24,.int .u8 3,.int .u8 30,.int .u8 22,.int .u8 20,.int .u8 15,.int .u8 25,.int .u8 17,.int .u8 4,.int .u8 8,.int .u8 31,.int .u8 27,.int .u8 13,.int .u8 23,.int .u8 21,.int .u8 19,.int .u8 16,.int .u8 7,.int .u8 26,.int .u8 12,.int .u8 18,.int .u8 6,.int .u8 11,.int .u8 5,.int .u8 10,.int .u8 9] t frozen|o=>o)).modify 4 (fun x=>match x with| .cells _ t frozen=> .cells #[.int .u8 0,.int .u8 1,.int .u8 56,.int .u8 2,.int .u8 57,.int .u8 49,.int .u8 28,.int .u8 3,.int .u8 61,.int .u8 58,.int .u8 42,.int .u8 50,.int .u8 38,.int .u8 29,.int .u8 17,.int .u8 4,.int .u8 62,.int .u8 47,.int .u8 59,.int .u8 36,.int .u8 45,.int .u8 43,.int .u8 51,.int .u8 22,.int .u8 53,.int .u8 39,.int .u8 33,.int .u8 30,.int .u8 24,.int .u8 18,.int .u8 12,.int .u8 5,.int .u8 63,.int .u8 55,.int .u8 48,.int .u8 27,.int .u8 60,.int .u8 41,.int .u8 37,.int .u8 16,.int .u8 46,.int .u8 35,.int .u8 44,.int .u8 21,.int .u8 52,.int .u8 32,.int .u8 23,.int .u8 11,.int .u8 54,.int .u8 26,.int .u8 40,.int .u8 15,.int .u8 34,.int .u8 20,.int .u8 31,.int .u8 10,.int .u8 25,.int .u8 14,.int .u8 19,.int .u8 9,.int .u8 13,.int .u8 8,.int .u8 7,.int .u8 6] t frozen|o=>o) }
theorem z7N (os:Os):laidMet Tryz.prog Rows.evalNotRow.laid ((z2t os).forCall (fun _ _=>0) ⟨#[],#[.agg #[.int .i64 0,.string .empty,.int .i64 0,.int .i64 0,.float .f64 0,.string .empty,.slice none 0 0,.slice none 0 0,.slice none 0 0,.slice none 0 0],.agg #[.int .i64 0,.string .empty,.int .i64 0,.int .i64 0,.float .f64 0,.string .empty,.slice none 0 0,.slice none 0 0,.slice none 0 0,.slice none 0 0],.slice none 0 0],[]⟩).memory:=
 laidMet_of_run' 8 (by kernel_rfl) (by kernel_rfl)
theorem z6W (os:Os) {H:Type} (enc:TypeId × Value→H):∃ x,DataW.whole enc Tryz.prog ((z2t os).forCall (fun _ _=>0) ⟨#[],#[.agg #[.int .i64 0,.string .empty,.int .i64 0,.int .i64 0,.float .f64 0,.string .empty,.slice none 0 0,.slice none 0 0,.slice none 0 0,.slice none 0 0],.agg #[.int .i64 0,.string .empty,.int .i64 0,.int .i64 0,.float .f64 0,.string .empty,.slice none 0 0,.slice none 0 0,.slice none 0 0,.slice none 0 0],.slice none 0 0],[]⟩).memory Tryz.f8.params.toList Rows.evalNotSpec.vars false (#[.agg #[.int .i64 0,.string .empty,.int .i64 0,.int .i64 0,.float .f64 0,.string .empty,.slice none 0 0,.slice none 0 0,.slice none 0 0,.slice none 0 0],.agg #[.int .i64 0,.string .empty,.int .i64 0,.int .i64 0,.float .f64 0,.string .empty,.slice none 0 0,.slice none 0 0,.slice none 0 0,.slice none 0 0],.slice none 0 0]:Array Value).toList 8= some x:=
 Option.isSome_iff_exists.1 (by kernel_rfl)
theorem z54 (H:Type) (enc:TypeId × Value→H) (W:World) (base:Nat) (args:Array Value) (ds gs:List (DataW H)) (before:List MemPlace)
  (hval0:∀ (j:Nat) t v,Tryz.f8.params[j]?= some t→args[j]?= some v→Value.okWide Tryz.prog W .any base t v)
  (hW:DataW.Whole enc Tryz.prog Tryz.f8.params.toList Rows.evalNotSpec.vars false W args.toList ds gs before)
  (hL:laidMetH Tryz.prog Rows.evalNotRow.laid W):
  Calls Tryz.prog 8 args W fun e W'=>∃ v,e= .returned v∧Rows.evalNotSpec.post enc Tryz.prog Tryz.f8 false true false false W args v W':=by
 have hval:∀ (j:Nat) t v,Tryz.f8.params[j]?= some t→args[j]?= some v→Value.okWide Tryz.prog W .any base t v:=hval0
 have hW':=hW
 obtain⟨p,q,hA0,hV,rfl,hfz,hnd⟩:=hW
 have hA:DataW.TrodAll enc Tryz.prog W 0 (fun _=>true) true Tryz.f8.params.toList args.toList ds p:=hA0
 rw[Tryz.params8] at hA hval
 obtain⟨v0,vs0,d0,ds0,p0,q0,hargs,rfl,rfl,h0,r0⟩:=trodAll_cons hA
 obtain⟨v1,vs1,d1,ds1,p1,q1,rfl,rfl,rfl,h1,r1⟩:=trodAll_cons r0
 obtain⟨v2,vs2,d2,ds2,p2,q2,rfl,rfl,rfl,h2,r2⟩:=trodAll_cons r1
 obtain⟨rfl,rfl,rfl⟩:=trodAll_nil r2
 obtain rfl:args= #[v0,v1,v2]:=by cases args;simp_all
 obtain⟨rfl,rfl⟩:=trodVars_none hV
 have k0:=h0
 have lt0:=z1z k0
 obtain⟨cs0,m0,rfl,hm0⟩:=z5e (hval 0 29 v0 rfl rfl) h0
 have k1:=h1
 have lt1:=z1z k1
 obtain⟨cs1,m1,rfl,hm1⟩:=z5e (hval 1 29 v1 rfl rfl) h1
 have k2:=h2
 have lt2:=z1z k2
 obtain⟨m2,hm2,hl2⟩:=z7x (hval 2 30 v2 rfl rfl) h2
 clear hA0 hval0
 refine(evalNot_walk W (z8O hL) cs0 m0 hm0 cs1 m1 hm1 v2 m2 hm2 hl2).mono fun e W' ⟨he,bel⟩=> ?_
 subst he
 exact⟨_,rfl,_,_,_,[],_,[],hW',trodAll_mk1 (shut_bool Tryz.underlying4 _),(trodAll_cons_mk (Below.trod z2Q (by kernel_rfl) (of_decide_eq_true (by kernel_rfl)) k0 bel lt0) (trodAll_cons_mk (Below.trod z2Q (by kernel_rfl) (of_decide_eq_true (by kernel_rfl)) k1 bel lt1) (trodAll_cons_mk (Below.trod z2Q (by kernel_rfl) (of_decide_eq_true (by kernel_rfl)) k2 bel lt2) trodAll_mk0))),rfl,bel.frame _,fun h=>by cases h⟩
theorem z69 (os:Os) (started:os.Started) (H:Type) (enc:TypeId × Value→H) (F:Stop.Interp):
  ReturnsInHanded {} Tryz.checked os 8 .any ((OpenSpec.ofChange Rows.evalNotSpec).preRow enc Tryz.prog Tryz.f8 Rows.evalNotRow.domain false Rows.evalNotRow.laid) (((OpenSpec.ofChange Rows.evalNotSpec).at F).post enc Tryz.prog Tryz.f8 false true false false):=by
 obtain⟨x,hx⟩:=z6W os enc
 refine returnsInHanded_of_row (C:=Tryz.checked) (s:=OpenSpec.ofChange Rows.evalNotSpec) own started (by kernel_rfl) Tryz.func8
  (witness_row_at (enc:=enc) (C:=Tryz.checked) false (z2t os) #[.agg #[.int .i64 0,.string .empty,.int .i64 0,.int .i64 0,.float .f64 0,.string .empty,.slice none 0 0,.slice none 0 0,.slice none 0 0,.slice none 0 0],.agg #[.int .i64 0,.string .empty,.int .i64 0,.int .i64 0,.float .f64 0,.string .empty,.slice none 0 0,.slice none 0 0,.slice none 0 0,.slice none 0 0],.slice none 0 0] rfl (by kernel_rfl) (by kernel_rfl) (by kernel_rfl)
   (OpenSpec.preRow_of_cond 8 hx rfl (fun k hk=>by cases hk) (by kernel_rfl) (z7N os))) ?_
 intro W base args ds gs before hval hW _ _ hsz hL _ _
 exact z54 H enc W base args ds gs before hval hW hL
theorem z7R:Rows.EvalNotSaid:=
 OpenClaim.holds_of_cond 8 Tryz.f8 rfl rfl rfl rfl rfl rfl rfl ⟨rfl,rfl,rfl,rfl,rfl⟩ rfl rfl rfl rfl rfl (by kernel_rfl) Tryz.func8 (by kernel_rfl)
  (of_decide_eq_true (by kernel_rfl)) (by unfold Func.isWrapper;first|(rw[if_pos (by decide +kernel)];kernel_rfl)|(rw[if_neg (by decide +kernel)];exact⟨rfl,rfl⟩))
  (fun os started H enc _ F=>by rw[OpenClaim.pre_eq_preRow];exact z69 os started H enc F)
theorem z6X (f:FuncId) (fn:Func) (hf:Tryz.pinned.checked.prog.funcNamed "bascule/basculelaw10.EvalNot" = some f) (hfn:Tryz.pinned.checked.prog.funcs[f]?= some fn):
  true= Tryz.pinned.checked.prog.looks []∧∀ (j:Nat) t,fn.params[j]?= some t→Tryz.pinned.checked.prog.wantsStandIn t= false:=by
 obtain rfl:f= 8:=Option.some.inj ((show Tryz.prog.funcNamed "bascule/basculelaw10.EvalNot" = some 8 by kernel_rfl).symm.trans hf)|>.symm
 obtain rfl:fn= Tryz.f8:=(Option.some.inj (Tryz.func8.symm.trans hfn)).symm
 refine⟨by kernel_rfl,fun j t ht=> ?_⟩
 rw[Tryz.params8] at ht
 have hm:=Array.mem_of_getElem? ht
 simp only[List.mem_toArray,List.mem_cons,List.not_mem_nil,or_false] at hm
 rcases hm with rfl|rfl|rfl
 ·exact(show Tryz.prog.wantsStandIn 29= false by kernel_rfl)
 ·exact(show Tryz.prog.wantsStandIn 29= false by kernel_rfl)
 ·exact(show Tryz.prog.wantsStandIn 30= false by kernel_rfl)
theorem evalNot_proved:Rows.EvalNotCardSaid:=
 Claim7.holds_tied_plain_at .later [] _ _ _ _ z7R (fun _ h=>by cases h) (by kernel_rfl) (fun _ h=>by cases h) evalNot_row_tie rfl ⟨rfl,rfl⟩ (by kernel_rfl) rfl z6X (by kernel_rfl)
#print axioms evalNot_proved
end Go.Proofs.YtmpbepjjbaeebaaGreatDoor
end
