/- Parts of a proof: InfSnd. -/
import Derived.Test.YteolfamhmfidbaaGreatDoorPackI17
import Derived.Test.YteolfamhmfidbaaGreatDoorPackI36
import Derived.Test.YteolfamhmfidbaaGreatDoorPackI39
import Derived.Test.YteolfamhmfidbaaGreatDoorPackI40
import Derived.Test.YteolfamhmfidbaaGreatDoorPackI48
import Derived.Test.YteolfamhmfidbaaGreatDoorPackI49
import Derived.Test.YteolfamhmfidbaaGreatDoorPackI50
set_option maxHeartbeats 8000000
set_option maxRecDepth 100000
set_option linter.unusedVariables false
set_option linter.unusedSimpArgs false
namespace Go.Proofs.YteolfamhmfidbaaGreatDoor
open Go Go.RowKit P
theorem z3U {w w':World} {p i:Nat} (h:w'.heap[p]?= w.heap[p]?):w'.cell? ⟨p,i,none⟩= w.cell? ⟨p,i,none⟩:=by
 unfold World.cell?
 rw[h]
theorem zaO {w:World} {B:Nat} {cs:List Value} {x:VarT} (h:VarAt w B cs x):∃ c2 c3 c4 ci,cs= .string x.name:: .int .i64 x.label::c2::c3::c4::ci/\ci.length= 6/\ValAt w B ci x.init:=by
 obtain⟨⟨ct,ci,rfl,h1,h2,_,h4⟩,_,_⟩:=h
 match ct,h1 with
 |[a,b,c],_=>exact⟨a,b,c,ci,rfl,h2,h4⟩
theorem zbm (a:VT):ordV a a= 0:=by
 have:=ordV_good.anti a a
 omega
theorem zan (t:VT) (cs:List Value) (w:World) (hv:ValAt w w.heap.size cs t):Calls Tryz.prog 12 #[.agg ⟨cs⟩] w fun e w'=>e= .returned (.bool (zh t))/\Below w.heap.size w w':=z5U t cs w hv
theorem zgd {TV:TypeId} {W u:World} {v:Value} {E:List VarT} {F:List VT} {KL:List zw} (h:SetInv TV W u v E F (fun _=>false) E.length KL):∀ (i:Nat) y,E[i]?= some y->F[i]?= some y.init:=fun i y hy=>by
 have hi:=(List.getElem?_eq_some_iff.1 hy).1
 obtain⟨x,hx⟩:∃ x,F[i]?= some x:=⟨_,List.getElem?_eq_getElem (by rw[h.flen];exact hi)⟩
 rcases h.rel i x y hx hy with e|⟨e,_⟩
 ·rw[hx,e]
 ·cases e
theorem zgb {TV:TypeId} {W u:World} {v v':Value} {E:List VarT} {F G:List VT} {ok:VarT->Bool} {KL KM:List zw} (h:SetInv TV W u v E F (fun _=>false) E.length KL) (k:SetInv TV W u v' E G ok E.length KM):
  ∀ (i:Nat) y,E[i]?= some y->F[i]?= G[i]?\/(ok y= true/\∃ p q,F[i]?= some p/\G[i]?= some q/\zh p= true/\zh q= true):=fun i y hy=>by
 have h1:=zgd h i y hy
 have hi:=(List.getElem?_eq_some_iff.1 hy).1
 obtain⟨x,hx⟩:∃ x,G[i]?= some x:=⟨_,List.getElem?_eq_getElem (by rw[k.flen];exact hi)⟩
 rcases k.rel i x y hx hy with e|⟨e1,e2,e3⟩
 ·exact .inl (by rw[h1,hx,e])
 ·exact .inr ⟨e1,_,_,h1,hx,e2,e3⟩
theorem inferSound_walk (w:World) (htb:TabP w) (n:Int) (_wn:(Lit.int .i64 n).wf= true) (A:Option Addr) (l c:Nat) (ps:List (Int × Int)) (hl:ps.length= l) (hp:Pairs w w.heap.size A ps)
  (cx:List Value) (x:ET) (hx:ExpAt w w.heap.size cx x) (v:Value) (E:List VarT) (hE:SlAt w w.heap.size 11 (VarAt w w.heap.size) v E) (hEl:E.length<=maxLen) (vo:Value) (O:List VT) (hO:SlAt w w.heap.size 6 (ValAt w w.heap.size) vo O) (hOl:O.length<=maxLen) (lv:Int) (_wl:(Lit.int .i64 lv).wf= true):
  Calls Tryz.prog 3 #[.int .i64 n,.slice A l c,.agg ⟨cx⟩,v,vo,.int .i64 lv] w fun e w'=>e= .returned (.bool true)/\Below w.heap.size w w':=by
 have HTB:=I htb
 have HLX:=I (eslen hx)
 have HOX:=I hx.one
 have HX:=I hx
 obtain⟨hel,EA,ec,rfl,hEA⟩:=id hE
 obtain⟨hol,OA,oc,rfl,hOA⟩:=id hO
 have HE:=I hE
 have HEA:=I hEA
 have HEM:=I hEl
 have HOA:=I hOA
 have hz:=rzero
 have HP:=I hp
 clear hx hp hE hEA hEl hO hOA hOl hel _wn _wl htb
 go_enter Tryz.func3,Tryz.ntmps3
 go_upto_region 1 with (fail)
 have HA:=I (Whole.new w cx 30)
 have HW:=I (zc w (.cells ⟨cx⟩ 30))
 generalize w.alloc (.cells ⟨cx⟩ 30)= W0 at*
 have CB:=I (zav n A l c ps W0 hl ((HP.o.below HW.o).more HW.o.size))
 clear hl
 go_wp2_with fail
 refine CB.o.mono ?_
 rintro e w1 ⟨hb,(⟨N,L,rfl⟩|⟨_,_,k,b,rfl,rfl,hlat⟩)⟩
 ·have HB1:=I (HW.o.trans (hb.mono HW.o.size))
  have HM:=I (Rm.new w1 0 (fun _ _=>false) 36)
  have HB2:=I (zo (HB1.o.alloc HB1.o.size (.cells (rv 0 fun _ _=>false) 36)) (b:=w1.heap.size) HB1.o.size (rl N L) 0)
  clear hb CB
  go_wp2_with (first|((with_reducible show wpList _ _ _ _ _ _);refine zL _ _ rfl ?hw w1.heap.size N L rfl rfl ?hm ?_;(case hw=>simp[Region.wanted]);(case hm=>exact⟨_,_,HM.o⟩))|(go_at_call 6;fail))
  generalize World.setCells _ _ _ _= W at*
  refine(z2w _).mono ?_
  rintro e w2 ⟨rfl,hb⟩
  have HB3:=I (HB2.o.trans (hb.mono HB2.o.size))
  clear hb
  go_wp2_with fail
  refine(z2w _).mono ?_
  rintro e w9 ⟨rfl,hb⟩
  have HB9:=I (HB3.o.trans (hb.mono HB3.o.size))
  clear hb
  go_wp2
  go_ret
  exact⟨rfl,HB9.o⟩
 ·have HB1:=I (HW.o.trans (hb.mono HW.o.size))
  have HM:=I (Rm.new w1 0 (fun _ _=>false) 36)
  have HB2:=I (zo (HB1.o.alloc HB1.o.size (.cells (rv 0 fun _ _=>false) 36)) (b:=w1.heap.size) HB1.o.size (rl k (ordOf k ps)) 0)
  have hb0:=(zo (hb.alloc hb.size (.cells (rv 0 fun _ _=>false) 36)) (b:=w1.heap.size) hb.size (rl k (ordOf k ps)) 0)
  have hl2:=((hlat.alloc (.cells (rv 0 fun _ _=>false) 36)).below (zo (Below.refl w1.heap.size _) (Nat.le_refl _) (rl k (ordOf k ps)) 0) hlat.lt)
  have HLAT:=I hlat.lat
  have HUB:=I (fun z (hz:Below ((w1.alloc (.cells (rv 0 fun _ _=>false) 36)).setCells w1.heap.size 0 (rl k (ordOf k ps))).heap.size ((w1.alloc (.cells (rv 0 fun _ _=>false) 36)).setCells w1.heap.size 0 (rl k (ordOf k ps))) z)=>(⟨hl2.here hz,za HA.o.range (hb0.trans (hz.mono hb0.size)) HA.o.lt⟩:LatR z b k (ordOf k ps)/\z.rangeAt w.heap.size 0 cx))
  clear hb hlat CB hl2 hb0
  go_wp2_with (first|((with_reducible show wpList _ _ _ _ _ _);refine zL _ _ rfl ?hw w1.heap.size k (ordOf k ps) rfl rfl ?hm ?_;(case hw=>simp[Region.wanted]);(case hm=>exact⟨_,_,HM.o⟩))|(go_at_call 6;fail))
  clear HM
  generalize World.setCells _ _ _ _= W at*
  generalize ordOf k ps= L at*
  have HEV:=I (fun z (hz:Below W.heap.size W z)=>((HE.o.below (HB2.o.trans (hz.mono HB2.o.size)) fun _ _ _ h=>(h.under (HB2.o.trans (hz.mono HB2.o.size))).more (HB2.o.trans (hz.mono HB2.o.size)).size).more (HB2.o.trans (hz.mono HB2.o.size)).size:SlAt z z.heap.size 11 (VarAt z z.heap.size) (.slice EA E.length ec) E))
  have HEX:=I (fun z (hz:Below W.heap.size W z)=>((HX.o.under (HB2.o.trans (hz.mono HB2.o.size))).more (HB2.o.trans (hz.mono HB2.o.size)).size:ExpAt z z.heap.size cx x))
  refine(z2w _).mono ?_
  rintro e w2 ⟨rfl,hb⟩
  have HK2:=I hb
  have HB3:=I (HB2.o.trans (hb.mono HB2.o.size))
  clear hb
  have HS1:=I (zgx x cx w2 (HEX.o w2 HK2.o))
  go_wp2_with (first|((with_reducible refine z7 30 _ rfl ?_ (w.heap.size) (0) (cx) _ rfl (HUB.o w2 HK2.o).2 Tryz.underlying30 rfl ?_ ?_);(exact wA rfl);rw[HLX.o];kernel_rfl)|(go_at_call 7;fail))
  refine HS1.o.mono ?_
  rintro e w3 ⟨q1,rfl,hb⟩
  have HK3:=I (HK2.o.trans (hb.mono HK2.o.size))
  have HB4:=I (HB3.o.trans (hb.mono HB3.o.size))
  clear hb HS1
  cases q1 with
  |false=>
   go_wp2_with fail
   refine(z2w _).mono ?_
   rintro e w9 ⟨rfl,hb⟩
   have HB9:=I (HB4.o.trans (hb.mono HB4.o.size))
   clear hb
   go_wp2
   go_ret
   exact⟨rfl,HB9.o⟩
  |true=>
  have HS3:=I (zfO E (.slice EA E.length ec) w3 (HEV.o w3 HK3.o) HEM.o)
  go_wp2_with (go_at_call 8;fail)
  refine HS3.o.mono ?_
  rintro e w4 ⟨q3,rfl,hq,hb⟩
  have HK4:=I (HK3.o.trans (hb.mono HK3.o.size))
  have HB5:=I (HB4.o.trans (hb.mono HB4.o.size))
  clear hb HS3
  cases q3 with
  |false=>
   clear hq
   go_wp2_with fail
   refine(z2w _).mono ?_
   rintro e w9 ⟨rfl,hb⟩
   have HB9:=I (HB5.o.trans (hb.mono HB5.o.size))
   clear hb
   go_wp2
   go_ret
   exact⟨rfl,HB9.o⟩
  |true=>
  have HE40:=I (hq rfl)
  clear hq
  by_cases ho40:(40:Int) <(O.length:Int)
  ·go_wp2_with fail
   refine(z2w _).mono ?_
   rintro e w9 ⟨rfl,hb⟩
   have HB9:=I (HB5.o.trans (hb.mono HB5.o.size))
   clear hb
   go_wp2
   go_ret
   exact⟨rfl,HB9.o⟩
  have hol2:(O.length:Int)<=40:=by omega
  have hel2:(E.length:Int)<=40:=by have:=HE40.o;omega
  have HLB:=I (z2o k L b x E cx (.slice EA E.length ec) w4 (HUB.o w4 HK4.o).1 (HEX.o w4 HK4.o) (HEV.o w4 HK4.o) (by have:=HE40.o;omega))
  obtain⟨la,hla⟩:∃ a,(labE k L E x).1= a:=⟨_,rfl⟩
  obtain⟨le,hle⟩:∃ a,(labE k L E x).2= a:=⟨_,rfl⟩
  have HLE:Hid (labE k L E x=(la,le)):=I (by rw[← hla,← hle])
  rw[hla,hle] at HLB
  clear hla hle
  go_wp2_with (first|((with_reducible refine z7 30 _ rfl ?_ (w.heap.size) (0) (cx) _ rfl (HUB.o w4 HK4.o).2 Tryz.underlying30 rfl ?_ ?_);(exact wA rfl);rw[HLX.o];kernel_rfl)|(go_at_call 9;fail))
  refine HLB.o.mono ?_
  rintro e w5 ⟨rfl,hb⟩
  have HK5:=I (HK4.o.trans (hb.mono HK4.o.size))
  have HB6:=I (HB5.o.trans (hb.mono HB5.o.size))
  clear hb HLB
  by_cases he0:le= 0
  case neg=>
   have he1:(le !=0)= true:=by simpa using he0
   clear he0
   go_wp2
   go_ret
   exact⟨rfl,HB6.o⟩
  subst he0
  have HLQ:=I (leq_r (HUB.o w5 HK5.o).1 la lv)
  obtain⟨qs,hqs⟩:∃ q,lqI k L la lv= q:=⟨_,rfl⟩
  rw[hqs] at HLQ
  have HQS:=I hqs
  clear hqs
  go_wp2_with (go_at_call 10;fail)
  refine HLQ.o.mono ?_
  rintro e w6 ⟨rfl,h⟩
  rw[← h]
  clear h w6 HLQ
  cases qs with
  |false=>
   go_wp2
   go_ret
   exact⟨rfl,HB6.o⟩
  |true=>
  obtain⟨G,hG⟩:∃ G,w5= G:=⟨_,rfl⟩
  rw[hG] at HK5 HB6
  rw[hG]
  clear hG
  obtain⟨j0,hi,hz0,hz1,hz2⟩:=z0A z1C
  have HJ0:=I hi
  have HY0:=I hz0
  have HY1:=I hz1
  have HY2:=I hz2
  clear hi hz0 hz1 hz2
  go_wp2
  go_loopg [18,19,73] E.length (fun q x1 y1 i u=>∃ (j:Nat) (F1 F2:List VT) (KA KB:List zw),j+q= E.length/\i= .int .i64 j/\SetInv 27 G u x1 E F1 (fun _=>false) j KA/\SetInv 27 G u y1 E F2 (fun y=> !lqI k L y.label lv) j KB/\Apart x1 y1)
  case atStart=>exact⟨0,[],[],[],[],by omega,rfl,SetInv.start _ _ _ _,SetInv.start _ _ _ _,fun b h=>by cases h⟩
  case round=>
   obtain⟨j,F1,F2,KA,KB,hj,rfl,hIA,hIB,hap⟩:=hrel
   have HIA:=I hIA
   have HIB:=I hIB
   have HAP:=I hap
   obtain⟨UA,uc,rfl⟩:=z4m hIA.own
   obtain⟨UB,ub,rfl⟩:=z4m hIB.own
   have HKLA:=I hIA.len
   have HKLB:=I hIB.len
   clear hIA hIB hap
   cases gk with
   |succ g=>
    have hlt:(j:Int) <(E.length:Int):=by omega
    obtain⟨y,hy⟩:∃ y,E[j]?= some y:=⟨_,List.getElem?_eq_getElem (by omega)⟩
    obtain⟨b2,ob,rfl,hbb,hc⟩:=HEA.o (by omega)
    obtain⟨ks,hkl,hkr,hkv⟩:=hc j y hy
    obtain⟨c2,c3,c4,ci,rfl,hci,hvi⟩:=zaO hkv
    have hG:=HB6.o.trans (HIA.o.bel.mono HB6.o.size)
    have HR:=I (za hkr hG hbb)
    have HCI:=I hci
    have HVI:Hid (ValAt G G.heap.size ci y.init):=I ((hvi.under HB6.o).more HB6.o.size)
    have HOV:=I hkv.one
    have HOI:=I (zl hvi).2
    have HYY:=I hy
    have HCL:Hid ((.string y.name:: .int .i64 y.label::c2::c3::c4::ci).length= 11):=I (by simp[hci])
    clear hc hkl hkr hkv hci hvi hG hy
    go_upto_region 11 with (first|((with_reducible refine z7 50 _ rfl ?_ (b2) (ob+j*11) (.string y.name:: .int .i64 y.label::c2::c3::c4::ci) _ rfl HR.o Tryz.underlying50 rfl ?_ ?_);(exact wA rfl);rw[HCL.o];kernel_rfl)|((with_reducible refine z0m 50 _ _ rfl ?hwx4 wr ?zz4 (.string y.name:: .int .i64 y.label::c2::c3::c4::ci) ?hwld4 ?hz4 ?hx4 ?hy4 ?hi4 ?h14 ?_);(case hwld4=>rfl);(case hx4=>rfl);(case hy4=>rfl);(case hwx4=>(exact wA rfl));(case hz4=>rw[HCL.o];rfl);(case hi4=>rw[HCL.o];kernel_rfl);(case h14=>exact HOV.o);intro Z hZ;have HXZ:=I hZ;clear hZ))
    have HRI:Hid (Z.rangeAt wr.heap.size 5 ci):=I (fun i u hu=>by have:=HXZ.o.range (5+i) u (by rw[show 5+i= i+1+1+1+1+1 by omega];exact hu);rw[show 0+ (5+i)= 5+i by omega] at this;exact this)
    have HC7:Hid (∀ i u,(enc6 ⟨ci,HCI.o⟩)[i]?= some u->(Z.alloc (.cells ⟨ci⟩ 27)).cell? ⟨Z.heap.size,i,none⟩= some u):=I (z0o Z ci 27)
    have HB7:=I (zc Z (.cells ⟨ci⟩ 27))
    have HU7:Hid (Below wr.heap.size wr (Z.alloc (.cells ⟨ci⟩ 27))):=I (HXZ.o.below.trans (HB7.o.mono HXZ.o.below.size))
    have HMAc:Hid (G.heap.size<=(Z.alloc (.cells ⟨ci⟩ 27)).heap.size):=I (Nat.le_trans HIA.o.bel.size HU7.o.size)
    have HOW:Hid (OwnSl 27 6 enc6 (Z.alloc (.cells ⟨ci⟩ 27)) G.heap.size (.slice UA KA.length uc) KA):=I (HIA.o.own.below HU7.o)
    have HMAa:Hid (KA.length+1<=maxLen):=I (by have:=HE40.o;have h2:=HKLA.o;unfold maxLen;omega)
    have HMAb:Hid ((KA.length+1) *88<=140737488355328):=I (by have:=HE40.o;have h2:=HKLA.o;omega)
    have HXL:Hid (wr.heap.size < Z.heap.size):=I HXZ.o.size
    go_upto_region 12 with (first|((with_reducible refine z7 27 _ rfl ?_ (wr.heap.size) (5) (ci) _ rfl HRI.o Tryz.underlying27 rfl ?_ ?_);(exact wA rfl);rw[HCI.o];kernel_rfl)|((with_reducible refine z14 25 _ rfl ?_ 27 j0 _ ci ?_ Tryz.underlying25 HJ0.o HY0.o ?_ ?_ ?_ ?_);(exact wA rfl);rfl;rw[HCI.o];exact HY1.o;rw[HCI.o];decide;rw[HCI.o];decide)|(at_builtin;(refine z3B rfl _ _ 25 rfl G.heap.size 27 j0 _ 6 88 enc6 Tryz.underlying25 HJ0.o HY0.o HY1.o HY2.o rfl (by decide) z03 (.slice UA KA.length uc) KA rfl HOW.o Z.heap.size 1 ⟨ci,HCI.o⟩ HOI.o rfl HC7.o HMAa.o HMAb.o HMAc.o ?_;intro xa u8 hown hg hblk;have HNA:=I (SetInv.snoc (k:=⟨ci,HCI.o⟩) HIA.o HU7.o HYY.o HVI.o (.inl rfl) hown hg HIA.o.ge);have HGR:=I hg;have HBL:=I hblk;clear hown hg hblk)))
    have HNB:Hid (SetInv 27 G u8 (.slice UB KB.length ub) E F2 (fun y=> !lqI k L y.label lv) j KB):=I (HIB.o.carry HU7.o HGR.o HAP.o.ne (HIA.o.ge))
    have hap:Apart xa (.slice UB KB.length ub):=HAP.o.next HBL.o (fun b hb=>Nat.lt_of_lt_of_le (HIB.o.lt b hb) HU7.o.size)
    have HAP2:=I hap
    have hbox:u8.heap[wr.heap.size]?= Z.heap[wr.heap.size]?:=by
     rw[HGR.o.block wr.heap.size (Nat.lt_of_lt_of_le HXL.o HB7.o.size) (fun e=>Nat.lt_irrefl _ (HIA.o.lt _ e.symm)),HB7.o.block _ HXL.o]
    have HV8:Hid (u8.rangeAt wr.heap.size 0 (.string y.name:: .int .i64 y.label::c2::c3::c4::ci)):=I (fun i u hu=>(z3U hbox).trans (HXZ.o.range i u hu))
    have HRJ:Hid (u8.rangeAt wr.heap.size 5 ci):=I (fun i u hu=>by have:=HV8.o (5+i) u (by rw[show 5+i= i+1+1+1+1+1 by omega];exact hu);rw[show 0+ (5+i)= 5+i by omega] at this;exact this)
    have HL8:Hid (wr.heap.size < u8.heap.size/\wr.heap.size < u8.heap.size):=I ⟨Nat.lt_of_lt_of_le HXL.o (Nat.le_trans HB7.o.size HGR.o.size),Nat.lt_of_lt_of_le HXL.o (Nat.le_trans HB7.o.size HGR.o.size)⟩
    clear hap hbox
    have HMBa:Hid (KB.length+1<=maxLen):=I (by have:=HE40.o;have h2:=HKLB.o;unfold maxLen;omega)
    have HMBb:Hid ((KB.length+1) *88<=140737488355328):=I (by have:=HE40.o;have h2:=HKLB.o;omega)
    have HC8:Hid (∀ i u,(enc6 ⟨ci,HCI.o⟩)[i]?= some u->(u8.alloc (.cells ⟨ci⟩ 27)).cell? ⟨u8.heap.size,i,none⟩= some u):=I (z0o u8 ci 27)
    have HB8:=I (zc u8 (.cells ⟨ci⟩ 27))
    have HMBc:Hid (G.heap.size<=(u8.alloc (.cells ⟨ci⟩ 27)).heap.size):=I (Nat.le_trans HNB.o.bel.size HB8.o.size)
    have HOB:Hid (OwnSl 27 6 enc6 (u8.alloc (.cells ⟨ci⟩ 27)) G.heap.size (.slice UB KB.length ub) KB):=I (HNB.o.own.below HB8.o)
    go_upto_region 13 with (first|((with_reducible refine z7 27 _ rfl ?_ (wr.heap.size) (5) (ci) _ rfl HRJ.o Tryz.underlying27 rfl ?_ ?_);(exact wA rfl);rw[HCI.o];kernel_rfl)|((with_reducible refine z14 25 _ rfl ?_ 27 j0 _ ci ?_ Tryz.underlying25 HJ0.o HY0.o ?_ ?_ ?_ ?_);(exact wA rfl);rfl;rw[HCI.o];exact HY1.o;rw[HCI.o];decide;rw[HCI.o];decide)|(at_builtin;(refine z3B rfl _ _ 25 rfl G.heap.size 27 j0 _ 6 88 enc6 Tryz.underlying25 HJ0.o HY0.o HY1.o HY2.o rfl (by decide) z03 (.slice UB KB.length ub) KB rfl HOB.o u8.heap.size 1 ⟨ci,HCI.o⟩ HOI.o rfl HC8.o HMBa.o HMBb.o HMBc.o ?_;intro xb u9 hown hg hblk;have HNC:=I (SetInv.snoc (k:=⟨ci,HCI.o⟩) HNB.o HB8.o HYY.o HVI.o (.inl rfl) hown hg HNB.o.ge);have HNX:=I (SetInv.carry HNA.o HB8.o hg HAP2.o.symm.ne HNB.o.ge);have HAX:=I (HAP2.o.symm.next hblk (fun b hb=>Nat.lt_of_lt_of_le (HNA.o.lt b hb) HB8.o.size)).symm;have HGS:=I hg;clear hown hg hblk)))
    have hbox:u9.heap[wr.heap.size]?= u8.heap[wr.heap.size]?:=by
     rw[HGS.o.block wr.heap.size (Nat.lt_of_lt_of_le HL8.o.1 HB8.o.size) (fun e=>Nat.lt_irrefl _ (HIB.o.lt _ e.symm)),HB8.o.block _ HL8.o.1]
    have HV9:Hid (∀ z,Below u9.heap.size u9 z->z.rangeAt wr.heap.size 0 (.string y.name:: .int .i64 y.label::c2::c3::c4::ci)):=I (fun z hz i u hu=>(hz.cell (p:=⟨wr.heap.size,0+i,none⟩) (Nat.lt_of_lt_of_le HL8.o.1 (Nat.le_trans HB8.o.size HGS.o.size))).trans ((z3U hbox).trans (HV8.o i u hu)))
    have HK9:Hid (Below W.heap.size W u9):=I (HK5.o.trans (HNC.o.bel.mono HK5.o.size))
    have HB9:Hid (Below w.heap.size w u9):=I (HB2.o.trans (HK9.o.mono HB2.o.size))
    clear hbox HV8 HRJ HRI
    have d1:u9.cell? ⟨wr.heap.size,1,none⟩= some (.int .i64 y.label):=HV9.o u9 (Below.refl _ _) 1 _ rfl
    go_cut [118] (fun v z=>∃ bb:Bool,v= .bool bb/\Below u9.heap.size u9 z/\(bb= true->∃ (b3 o3:Nat) (co:List Value) (z2:VT),OA= some ⟨b3,o3,none⟩/\j < O.length/\co.length= 6/\(∀ q,Below u9.heap.size u9 q->q.rangeAt b3 (o3+j*6) co)/\ValAt G G.heap.size co z2/\lqI k L y.label lv= false/\zh y.init= true/\zh z2= true))
    case first=>
     by_cases hjo:(j:Int) <(O.length:Int)
     case neg=>
      go_wp2
      go_meet
      case rel=>exact⟨false,rfl,Below.refl _ _,fun h=>by cases h⟩
     obtain⟨z2,hz2⟩:∃ y,O[j]?= some y:=⟨_,List.getElem?_eq_getElem (by omega)⟩
     obtain⟨b3,o3,rfl,hbo,hco⟩:=HOA.o (by omega)
     obtain⟨co,hol3,hor,hov⟩:=hco j z2 hz2
     have HCO:=I hol3
     have HRO:Hid (∀ q,Below u9.heap.size u9 q->q.rangeAt b3 (o3+j*6) co):=I fun q hq=>za hor (HB9.o.trans (hq.mono HB9.o.size)) hbo
     have HVO:Hid (ValAt G G.heap.size co z2):=I ((hov.under HB6.o).more HB6.o.size)
     have HGU:Hid (Below G.heap.size G u9):=I HNC.o.bel
     clear hz2 hbo hco hol3 hor hov
     have HLL:=I (leq_r (HUB.o u9 HK9.o).1 y.label lv)
     obtain⟨ql,hql⟩:∃ q,lqI k L y.label lv= q:=⟨_,rfl⟩
     rw[hql] at HLL
     have HQL:=I hql
     clear hql
     go_wp2_with (go_at_call 10;fail)
     refine HLL.o.mono ?_
     rintro e w6 ⟨rfl,h⟩
     rw[← h]
     clear h w6 HLL
     cases ql with
     |true=>
      go_wp2
      go_meet
      case rel=>exact⟨false,rfl,Below.refl _ _,fun h=>by cases h⟩
     |false=>
     have HSM:=I (z8e z2 co u9 ((HVO.o.under HGU.o).more HGU.o.size))
     go_wp2_with (first|((with_reducible refine z7 27 _ rfl ?_ (b3) (o3+j*6) (co) _ rfl (HRO.o u9 (Below.refl _ _)) Tryz.underlying27 rfl ?_ ?_);(exact wA rfl);rw[HCO.o];kernel_rfl)|(go_at_call 11;fail))
     refine HSM.o.mono ?_
     rintro e w7 ⟨qm,rfl,hb⟩
     have HB10:=I hb
     clear hb HSM
     cases qm with
     |false=>
      go_wp2
      go_meet
      case rel=>exact⟨false,rfl,HB10.o,fun h=>by cases h⟩
     |true=>
     have hg7:=HGU.o.trans (HB10.o.mono HGU.o.size)
     have HRT:=I (zan z2 co w7 ((HVO.o.under hg7).more hg7.size))
     clear hg7
     obtain⟨qr,hqr⟩:∃ q,zh z2= q:=⟨_,rfl⟩
     rw[hqr] at HRT
     have HQR:=I hqr
     clear hqr
     go_wp2_with (first|((with_reducible refine z7 27 _ rfl ?_ (b3) (o3+j*6) (co) _ rfl (HRO.o w7 HB10.o) Tryz.underlying27 rfl ?_ ?_);(exact wA rfl);rw[HCO.o];kernel_rfl)|(go_at_call 12;fail))
     refine HRT.o.mono ?_
     rintro e w8 ⟨rfl,hb⟩
     have HB11:=I (HB10.o.trans (hb.mono HB10.o.size))
     clear hb HRT
     cases qr with
     |false=>
      go_wp2
      go_meet
      case rel=>exact⟨false,rfl,HB11.o,fun h=>by cases h⟩
     |true=>
     have hg8:=HGU.o.trans (HB11.o.mono HGU.o.size)
     have HRV:=I (zan y.init ci w8 ((HVI.o.under hg8).more hg8.size))
     have HRW:Hid (w8.rangeAt wr.heap.size 5 ci):=I (fun i u hu=>by have:=HV9.o w8 HB11.o (5+i) u (by rw[show 5+i= i+1+1+1+1+1 by omega];exact hu);rw[show 0+ (5+i)= 5+i by omega] at this;exact this)
     clear hg8
     obtain⟨qv,hqv⟩:∃ q,zh y.init= q:=⟨_,rfl⟩
     rw[hqv] at HRV
     have HQV:=I hqv
     clear hqv
     go_wp2_with (first|((with_reducible refine z7 27 _ rfl ?_ (wr.heap.size) (5) (ci) _ rfl HRW.o Tryz.underlying27 rfl ?_ ?_);(exact wA rfl);rw[HCI.o];kernel_rfl)|(go_at_call 12;fail))
     refine HRV.o.mono ?_
     rintro e w9 ⟨rfl,hb⟩
     have HB12:=I (HB11.o.trans (hb.mono HB11.o.size))
     clear hb HRV
     cases qv with
     |false=>
      go_wp2
      go_meet
      case rel=>exact⟨false,rfl,HB12.o,fun h=>by cases h⟩
     |true=>
      go_wp2
      go_meet
      case rel=>exact⟨true,rfl,HB12.o,fun _=>⟨b3,o3,co,z2,rfl,by omega,HCO.o,HRO.o,HVO.o,HQL.o,HQV.o,HQR.o⟩⟩
    case rest=>
    obtain⟨bb,rfl,hbc,hfacts⟩:=hcut
    have HBC:=I hbc
    have hr0:wc.grownBy wc none:=⟨rfl,rfl,rfl,Nat.le_refl _,fun _ _ _=>rfl⟩
    have HNX2:Hid (SetInv 27 G wc xa E (F1 ++ [y.init]) (fun _=>false) (j+1) (KA ++ [⟨ci,HCI.o⟩])):=I (HNX.o.carry hbc hr0 (by cases h:xa.ownBlock with|none=>exact .inl rfl|some b=>exact .inr (by simp)) (fun b hb=>by cases hb))
    have HNC2:Hid (SetInv 27 G wc xb E (F2 ++ [y.init]) (fun y=> !lqI k L y.label lv) (j+1) (KB ++ [⟨ci,HCI.o⟩])):=I (HNC.o.carry hbc hr0 (by cases h:xb.ownBlock with|none=>exact .inl rfl|some b=>exact .inr (by simp)) (fun b hb=>by cases hb))
    have HYW:Hid (wrap64 ((j:Int)+1)=((j+1:Nat):Int)):=I (by have:=HE40.o;unfold wrap64;omega)
    clear d1 hbc hr0
    cases bb with
    |false=>
     clear hfacts
     go_wp2
     go_roundg g
     case measure=>omega
     case rel=>exact⟨j+1,_,_,_,_,by omega,by first|rw[HYW.o]|rfl,HNX2.o,HNC2.o,HAX.o⟩
    |true=>
     obtain⟨b3,o3,co,z2,rfl,hjo,hcl,hro,hvo,hq1,hq2,hq3⟩:=hfacts rfl
     have HCO:=I hcl
     have HRO:=I (hro wc HBC.o)
     have hjo2:(j:Int) <(O.length:Int):=by omega
     clear hfacts hcl hro
     obtain⟨gb,gc,hxb,hglt⟩:∃ gb gc,xb= .slice (some ⟨gb,0,none⟩) (KB ++ [(⟨ci,HCI.o⟩:zw)]).length gc/\gb < wc.heap.size:=by
      have ho:=HNC2.o.own
      rcases ho.2 with ⟨_,h0⟩|⟨gb,gc,cur,hv,_⟩
      ·simp at h0
      ·exact⟨gb,gc,hv,z0W ho (by rw[hv];rfl)⟩
     subst hxb
     have HTH:=I (zaz (KL:=KB) (k:=⟨ci,HCI.o⟩) HNC2.o.own)
     have hpt:=SetInv.put (k':=⟨co,HCO.o⟩) (z:=z2) HKLB.o HIB.o.flen HNC2.o HYY.o hvo ⟨by rw[hq1];rfl,hq2,hq3⟩
     have HPT:=I hpt.1
     have HPG:=I hpt.2
     have HNX3:Hid (SetInv 27 G (wc.setCells gb (j*6) co) xa E (F1 ++ [y.init]) (fun _=>false) (j+1) (KA ++ [⟨ci,HCI.o⟩])):=I (HNX2.o.carry (Below.refl _ _) hpt.2 (by
      cases h:xa.ownBlock with
      |none=>exact .inl rfl
      |some b=>exact .inr fun e=>HAX.o b h (by rw[e];rfl)) (fun b hb=>by injection hb with hb;subst hb;exact HNC2.o.ge _ rfl))
     have HOC:=I (zl hvo).2
     rw[HKLB.o] at HTH
     have hlt3:(j:Int) <((KB ++ [(⟨ci,HCI.o⟩:zw)]).length:Int):=by rw[List.length_append,HKLB.o];simp;omega
     obtain⟨ln,hln⟩:∃ ln,(KB ++ [(⟨ci,HCI.o⟩:zw)]).length= ln:=⟨_,rfl⟩
     rw[hln] at HPT hlt3 HAX
     rw[hln]
     clear hpt hvo hq1 hq2 hq3 hglt hln
     go_wp2_with (first|((with_reducible refine z7 27 _ rfl ?_ (b3) (o3+j*6) (co) _ rfl HRO.o Tryz.underlying27 rfl ?_ ?_);(exact wA rfl);rw[HCO.o];kernel_rfl)|((with_reducible refine z2T 27 _ _ rfl ?_ gb (j*6) co ?_ ?_ ?_ ?_ ?_ ?_);(exact wA rfl);(first|rfl|(simp only[Nat.zero_add]));rfl;rw[HCO.o];exact HTH.o;rw[HCO.o];kernel_rfl;exact HOC.o))
     go_roundg g
     case measure=>omega
     case rel=>exact⟨j+1,_,_,_,_,by omega,by first|rw[HYW.o]|rfl,HNX3.o,HPT.o,HAX.o⟩
   |zero=>
    obtain rfl:j= E.length:=by omega
    have hge: ¬ ((E.length:Int) <(E.length:Int)):=by omega
    have HU:=I (fun z (hz:Below wr.heap.size wr z)=>HIA.o.row (by have:=HE40.o;omega) hz)
    have HT:=I (fun z (hz:Below wr.heap.size wr z)=>HIB.o.row (by have:=HE40.o;omega) hz)
    have HF1:=I HIA.o.flen
    have HF2:=I HIB.o.flen
    have HLW:Hid (evalT x E F1= evalT x E F2):=I (z9n HLAT.o HLE.o HQS.o (HF1.o.trans HF2.o.symm) (fun i y hy=>(zgb HIA.o HIB.o i y hy).imp id fun⟨h1,h2⟩=>⟨by simpa using h1,h2⟩) HF1.o)
    have HWR:Hid (Below W.heap.size W wr):=I (HK5.o.trans (HIA.o.bel.mono HK5.o.size))
    have HBR:Hid (Below w.heap.size w wr):=I (HB6.o.trans (HIA.o.bel.mono HB6.o.size))
    obtain⟨kn,hkn⟩:∃ n,KA.length= n:=⟨_,rfl⟩
    obtain⟨km,hkm⟩:∃ n,KB.length= n:=⟨_,rfl⟩
    rw[hkn] at HU
    rw[hkm] at HT
    rw[hkn,hkm]
    clear hkn hkm HIA HIB HAP HKLA HKLB
    obtain⟨V0,hV0⟩:∃ z,z= wr:=⟨_,rfl⟩
    subst hV0
    have HW1:=HWR
    have HD1:=HBR
    have HEV1:=I (zch x E F1 cx (.slice EA E.length ec) (.slice UA kn uc) V0 (HEX.o V0 HW1.o) (HEV.o V0 HW1.o) (HU.o V0 (Below.refl _ _)) (by have:=HE40.o;omega) (by have:=HE40.o;have:=HF1.o;omega) (HTB.o.next HD1.o))
    go_upto_region 17 with (first|((with_reducible refine z7 30 _ rfl ?_ (w.heap.size) (0) (cx) _ rfl (HUB.o V0 HW1.o).2 Tryz.underlying30 rfl ?_ ?_);(exact wA rfl);rw[HLX.o];kernel_rfl)|(go_at_call 13;refine HEV1.o.mono ?_;rintro e y1 ⟨cs1,rfl,hk,hr,hb⟩;have HC1:=I (zl hk.val).1;have HOO1:=I (zl hk.val).2;have HVV1:=I hk.val;have HBY1:=I hb;clear hk hr hb)|((with_reducible refine z0m 27 _ _ rfl ?hwx12 y1 ?zz12 (cs1) ?hwld12 ?hz12 ?hx12 ?hy12 ?hi12 ?h112 ?_);(case hwld12=>rfl);(case hx12=>rfl);(case hy12=>rfl);(case hwx12=>(exact wA rfl));(case hz12=>rw[HC1.o];rfl);(case hi12=>rw[HC1.o];kernel_rfl);(case h112=>exact HOO1.o);intro Z1 hZ;have HXX1:=I hZ;clear hZ))
    have HST1:Hid (Below V0.heap.size V0 Z1):=I (HBY1.o.trans (HXX1.o.below.mono HBY1.o.size))
    have HPL1:Hid (y1.heap.size < Z1.heap.size):=I HXX1.o.size
    have HPC1:=I HXX1.o.range
    have HVZ1:Hid (ValAt Z1 Z1.heap.size cs1 (resV (evalT x E F1)).1):=I ((HVV1.o.under HXX1.o.below).more HXX1.o.below.size)
    obtain⟨q1,hq1⟩:∃ q,y1.heap.size= q:=⟨_,rfl⟩
    rw[hq1] at HPL1 HPC1
    rw[hq1]
    clear hq1 HXX1 HEV1
    have HW2:Hid (Below W.heap.size W Z1):=I (HW1.o.trans (HST1.o.mono HW1.o.size))
    have HD2:Hid (Below w.heap.size w Z1):=I (HD1.o.trans (HST1.o.mono HD1.o.size))
    have HEV2:=I (zch x E F2 cx (.slice EA E.length ec) (.slice UB km ub) Z1 (HEX.o Z1 HW2.o) (HEV.o Z1 HW2.o) (HT.o Z1 HST1.o) (by have:=HE40.o;omega) (by have:=HE40.o;have:=HF2.o;omega) (HTB.o.next HD2.o))
    go_upto_region 18 with (first|((with_reducible refine z7 30 _ rfl ?_ (w.heap.size) (0) (cx) _ rfl (HUB.o Z1 HW2.o).2 Tryz.underlying30 rfl ?_ ?_);(exact wA rfl);rw[HLX.o];kernel_rfl)|(go_at_call 13;refine HEV2.o.mono ?_;rintro e y2 ⟨cs2,rfl,hk,hr,hb⟩;have HC2:=I (zl hk.val).1;have HOO2:=I (zl hk.val).2;have HVV2:=I hk.val;have HBY2:=I hb;clear hk hr hb)|((with_reducible refine z0m 27 _ _ rfl ?hwx14 y2 ?zz14 (cs2) ?hwld14 ?hz14 ?hx14 ?hy14 ?hi14 ?h114 ?_);(case hwld14=>rfl);(case hx14=>rfl);(case hy14=>rfl);(case hwx14=>(exact wA rfl));(case hz14=>rw[HC2.o];rfl);(case hi14=>rw[HC2.o];kernel_rfl);(case h114=>exact HOO2.o);intro Z2 hZ;have HXX2:=I hZ;clear hZ))
    have HST2:Hid (Below Z1.heap.size Z1 Z2):=I (HBY2.o.trans (HXX2.o.below.mono HBY2.o.size))
    have HPL2:Hid (y2.heap.size < Z2.heap.size):=I HXX2.o.size
    have HPC2:=I HXX2.o.range
    have HVZ2:Hid (ValAt Z2 Z2.heap.size cs2 (resV (evalT x E F2)).1):=I ((HVV2.o.under HXX2.o.below).more HXX2.o.below.size)
    obtain⟨q2,hq2⟩:∃ q,y2.heap.size= q:=⟨_,rfl⟩
    rw[hq2] at HPL2 HPC2
    rw[hq2]
    clear hq2 HXX2 HEV2
    have HD3:Hid (Below w.heap.size w Z2):=I (HD2.o.trans (HST2.o.mono HD2.o.size))
    have HR1:Hid (Z2.rangeAt q1 0 cs1):=I (za HPC1.o HST2.o HPL1.o)
    have hv1:ValAt Z1 Z1.heap.size cs1 (resV (evalT x E F2)).1:=by have h:=HVZ1.o;rw[HLW.o] at h;exact h
    have HSM:Hid (Calls Tryz.prog 14 #[.agg ⟨cs1⟩,.agg ⟨cs2⟩] Z2 fun e w'=>e= .returned (.bool true)/\Below Z2.heap.size Z2 w'):=I ((zca _ _ cs1 cs2 Z2 ((hv1.under HST2.o).more HST2.o.size) HVZ2.o).mono fun e w' ⟨h1,h2⟩=>⟨by rw[h1,zbm];rfl,h2⟩)
    rw[HLW.o]
    obtain⟨n1,hn1⟩:∃ n,(resV (evalT x E F2)).2= n:=⟨_,rfl⟩
    rw[hn1]
    have f2:(n1 ==n1)= true:=by simp
    clear hn1 hv1
    go_wp2_with (first|((with_reducible refine z7 27 _ rfl ?_ (q1) (0) (cs1) _ rfl HR1.o Tryz.underlying27 rfl ?_ ?_);(exact wA rfl);rw[HC1.o];kernel_rfl)|((with_reducible refine z7 27 _ rfl ?_ (q2) (0) (cs2) _ rfl HPC2.o Tryz.underlying27 rfl ?_ ?_);(exact wA rfl);rw[HC2.o];kernel_rfl)|(go_at_call 14;refine(HSM.o).mono ?_;rintro e w9 ⟨rfl,hb⟩;have HB9:=I hb;clear hb))
    go_ret
    exact⟨rfl,HD3.o.trans (HB9.o.mono HD3.o.size)⟩
end Go.Proofs.YteolfamhmfidbaaGreatDoor
