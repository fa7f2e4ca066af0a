/- Parts of a proof: InfRep. -/
import Derived.Test.YteolfamhmfidbaaGreatDoorPackJ11
import Derived.Test.YteolfamhmfidbaaGreatDoorPackJ13
import Derived.Test.YteolfamhmfidbaaGreatDoorPackJ22
import Derived.Test.YteolfamhmfidbaaGreatDoorPackJ31
import Derived.Test.YteolfamhmfidbaaGreatDoorPackJ32
import Derived.Test.YteolfamhmfidbaaGreatDoorPackJ33
import Derived.Test.YteolfamhmfidbaaGreatDoorPackJ48
import Derived.Test.YteolfamhmfidbaaGreatDoorPackJ49
set_option maxHeartbeats 8000000
set_option maxRecDepth 100000
set_option linter.unusedVariables false
set_option linter.unusedSimpArgs false
namespace Go.Proofs.YteolfamhmfidbaaGreatDoor
open Go Go.RowKit P
theorem zaU {w:World} {B:Nat} {cs:List Value} {x:VarT} (h:VarAt w B cs x):∃ c2 c3 c4 ci,cs= .string x.name:: .int .i64 x.label::c2::c3::c4::ci/\ci.length= 6/\ValAt w B ci x.init:=by
 obtain⟨⟨ct,ci,rfl,h1,h2,_,h4⟩,_,_⟩:=h
 match ct,h1 with
 |[a,b,c],_=>exact⟨a,b,c,ci,rfl,h2,h4⟩
theorem z5G (a:VT):ordV a a= 0:=by
 have:=ordV_good.anti a a
 omega
theorem zac (t:ET):sameE t t= true:=by
 induction t using ET.ind with
 |h k s v ns its ih=>
  have key:∀ (l:List ET),(∀ x∈l,sameE x x= true)->z03 l l= true:=by
   intro l
   induction l with
   |nil=>intro _;rw[z03]
   |cons a l ihl=>
    intro hx
    rw[z03,hx a (by simp),ihl fun x h=>hx x (List.mem_cons_of_mem _ h)]
    rfl
  rw[zb4,key its ih,z5G,z6x.2 rfl]
  simp
theorem z7F (v:VT):FitE (conT v):= .mk (by simp) (by simp) (fun x hx=>by cases hx)
theorem z9V {w:World} {B:Nat} {e0 e1 e2 e3 e4 e5:Value} {v:VT} (h:ValAt w B [e0,e1,e2,e3,e4,e5] v):ExpAt w B [.int .i64 1,.string ⟨#[]⟩,e0,e1,e2,e3,e4,e5,.slice none 0 0,.slice none 0 0] (conT v):=
 ExpAt.of (zI 1 (by decide +kernel)) (Nat.zero_le _) h (SlAt.nil _ _ _ _) (Nat.zero_le _) (SlAt.nil _ _ _ _)
theorem inferReplace_walk (w:World) (htb:TabP w) (cx:List Value) (x:ET) (hx:ExpAt w w.heap.size cx x) (hfx:FitE x) (v:Value) (E:List VarT) (hE:SlAt w w.heap.size 11 (VarAt w w.heap.size) v E) (hEl:E.length<=maxLen) (nm:ByteArray) (_ws:nm.size<=maxLen)
  (cv:List Value) (vv:VT) (hv:ValAt w w.heap.size cv vv):Calls Tryz.prog 4 #[.agg ⟨cx⟩,v,.string nm,.agg ⟨cv⟩] w fun e w'=>e= .returned (.bool true)/\Below w.heap.size w w':=by
 have HTB:=I htb
 have HLX:=I (eslen hx)
 have HX:=I hx
 have HFX:=I hfx
 obtain⟨e0,e1,e2,e3,e4,e5,rfl⟩:∃ a b c d e f,cv=[a,b,c,d,e,f]:=by
  have h6:=(zk hv).1
  match cv,h6 with
  |[a,b,c,d,e,f],_=>exact⟨a,b,c,d,e,f,rfl⟩
 have HVV:=I hv
 have HOV:=I (zk hv).2
 obtain⟨hel,EA,ec,rfl,hEA⟩:=id hE
 have HE:=I hE
 have HEA:=I hEA
 have HEM:=I hEl
 clear hx hE hEA hEl hel _ws htb hv hfx
 go_enter Tryz.func4,Tryz.ntmps4
 go_upto_region 1 with (fail)
 have hrx:=(Whole.new (w) cx 30).keep ((zc ((w).alloc (.cells ⟨cx⟩ 30)) (.cells ⟨[e0,e1,e2,e3,e4,e5]⟩ 27)).block _ (by simp))
 have hrv:=Whole.new ((w).alloc (.cells ⟨cx⟩ 30)) [e0,e1,e2,e3,e4,e5] 27
 rw[show((w).alloc (.cells ⟨cx⟩ 30)).heap.size= w.heap.size+1 by simp] at hrv
 have HB2:Hid (Below w.heap.size w (((w).alloc (.cells ⟨cx⟩ 30)).alloc (.cells ⟨[e0,e1,e2,e3,e4,e5]⟩ 27))):=I (((Below.refl w.heap.size w).alloc (by simp) (.cells ⟨cx⟩ 30)).alloc (by simp) (.cells ⟨[e0,e1,e2,e3,e4,e5]⟩ 27))
 generalize ((w).alloc (.cells ⟨cx⟩ 30)).alloc (.cells ⟨[e0,e1,e2,e3,e4,e5]⟩ 27)= W at*
 have HWx:=I (fun z (hz:Below W.heap.size W z)=>hrx.keep (hz.block _ hrx.lt))
 have HWv:=I (fun z (hz:Below W.heap.size W z)=>hrv.keep (hz.block _ hrv.lt))
 clear hrx hrv
 have HEV:=I (fun z (hz:Below W.heap.size W z)=>((HE.o.below (HB2.o.trans (hz.mono HB2.o.size)) fun _ _ _ h=>(h.under (HB2.o.trans (hz.mono HB2.o.size))).more (HB2.o.trans (hz.mono HB2.o.size)).size).more (HB2.o.trans (hz.mono HB2.o.size)).size:SlAt z z.heap.size 11 (VarAt z z.heap.size) (.slice EA E.length ec) E))
 have HEX:=I (fun z (hz:Below W.heap.size W z)=>((HX.o.under (HB2.o.trans (hz.mono HB2.o.size))).more (HB2.o.trans (hz.mono HB2.o.size)).size:ExpAt z z.heap.size cx x))
 have HEU:=I (fun z (hz:Below W.heap.size W z)=>((HVV.o.under (HB2.o.trans (hz.mono HB2.o.size))).more (HB2.o.trans (hz.mono HB2.o.size)).size:ValAt z z.heap.size [e0,e1,e2,e3,e4,e5] vv))
 go_wp2_with (go_at_call 6;fail)
 refine(z2S _).mono ?_
 rintro e w2 ⟨rfl,hb⟩
 have HK2:=I hb
 have HB3:=I (HB2.o.trans (hb.mono HB2.o.size))
 clear hb
 have HS1:=I (zgd x cx w2 (HEX.o w2 HK2.o))
 go_wp2_with (first|((with_reducible refine z7 30 _ rfl ?_ (w.heap.size) (0) (cx) _ rfl (HWx.o w2 HK2.o).range Tryz.underlying30 rfl ?_ ?_);(exact wA rfl);rw[HLX.o];kernel_rfl)|(go_at_call 7;fail))
 refine HS1.o.mono ?_
 rintro e w3 ⟨q1,rfl,hb⟩
 have HK3:=I (HK2.o.trans (hb.mono HK2.o.size))
 have HB4:=I (HB3.o.trans (hb.mono HB3.o.size))
 clear hb HS1
 cases q1 with
 |false=>
  go_wp2_with fail
  refine(z2S _).mono ?_
  rintro e w9 ⟨rfl,hb⟩
  have HB9:=I (HB4.o.trans (hb.mono HB4.o.size))
  clear hb
  go_wp2
  go_ret
  exact⟨rfl,HB9.o⟩
 |true=>
 have HS3:=I (zf5 E (.slice EA E.length ec) w3 (HEV.o w3 HK3.o) HEM.o)
 go_wp2_with (go_at_call 8;fail)
 refine HS3.o.mono ?_
 rintro e w4 ⟨q3,rfl,hq,hb⟩
 have HK4:=I (HK3.o.trans (hb.mono HK3.o.size))
 have HB5:=I (HB4.o.trans (hb.mono HB4.o.size))
 clear hb HS3
 cases q3 with
 |false=>
  clear hq
  go_wp2_with fail
  refine(z2S _).mono ?_
  rintro e w9 ⟨rfl,hb⟩
  have HB9:=I (HB5.o.trans (hb.mono HB5.o.size))
  clear hb
  go_wp2
  go_ret
  exact⟨rfl,HB9.o⟩
 |true=>
 have HE40:=I (hq rfl)
 clear hq
 have HS4:=I (z7L vv [e0,e1,e2,e3,e4,e5] w4 (HEU.o w4 HK4.o))
 go_wp2_with (first|((with_reducible refine z7 27 _ rfl ?_ (w.heap.size+1) (0) ([e0,e1,e2,e3,e4,e5]) _ rfl (HWv.o w4 HK4.o).range Tryz.underlying27 rfl ?_ ?_);(exact wA rfl);kernel_rfl)|(go_at_call 11;fail))
 refine HS4.o.mono ?_
 rintro e w5 ⟨q4,rfl,hb⟩
 have HK5:=I (HK4.o.trans (hb.mono HK4.o.size))
 have HB6:=I (HB5.o.trans (hb.mono HB5.o.size))
 clear hb HS4
 cases q4 with
 |false=>
  go_wp2_with fail
  refine(z2S _).mono ?_
  rintro e w9 ⟨rfl,hb⟩
  have HB9:=I (HB6.o.trans (hb.mono HB6.o.size))
  clear hb
  go_wp2
  go_ret
  exact⟨rfl,HB9.o⟩
 |true=>
 by_cases hn1:(100:Int) <(nm.size:Int)
 ·go_wp2_with fail
  refine(z2S _).mono ?_
  rintro e w9 ⟨rfl,hb⟩
  have HB9:=I (HB6.o.trans (hb.mono HB6.o.size))
  clear hb
  go_wp2
  go_ret
  exact⟨rfl,HB9.o⟩
 have hel2:(E.length:Int)<=40:=by have:=HE40.o;omega
 have HCC1:Hid (∀ u∈([.int .i64 1,.string ⟨#[]⟩,e0,e1,e2,e3,e4,e5,.slice none 0 0,.slice none 0 0]:List Value),u.oneCell'= true):=I (z9V HVV.o).one
 go_upto_region 4 with (first|((with_reducible refine z7 27 _ rfl ?_ (w.heap.size+1) (0) ([e0,e1,e2,e3,e4,e5]) _ rfl (HWv.o w5 HK5.o).range Tryz.underlying27 rfl ?_ ?_);(exact wA rfl);kernel_rfl)|((with_reducible refine z0c 30 _ _ rfl ?hwx20 w5 ?zz20 ([.int .i64 1,.string ⟨#[]⟩,e0,e1,e2,e3,e4,e5,.slice none 0 0,.slice none 0 0]) ?hwld20 ?hz20 ?hx20 ?hy20 ?hi20 ?h120 ?_);(case hwld20=>rfl);(case hx20=>rfl);(case hy20=>rfl);(case hwx20=>(exact wA rfl));(case hz20=>rfl);(case hi20=>kernel_rfl);(case h120=>exact HCC1.o);intro Z5 hZ;have HZ5:=I hZ;clear hZ))
 clear hn1
 have HK6:Hid (Below W.heap.size W Z5):=I (HK5.o.trans (HZ5.o.below.mono HK5.o.size))
 have HB7:Hid (Below w.heap.size w Z5):=I (HB6.o.trans (HZ5.o.below.mono HB6.o.size))
 have HRC:=I HZ5.o.range
 have HLC:Hid (w5.heap.size < Z5.heap.size):=I HZ5.o.size
 obtain⟨pc,hpc⟩:∃ q,w5.heap.size= q:=⟨_,rfl⟩
 rw[hpc] at HRC HLC
 rw[hpc]
 clear hpc HZ5
 have HCE:=I (fun z (hz:Below W.heap.size W z)=>z9V (HEU.o z hz))
 have HRU:=I (fun z (hz:Below Z5.heap.size Z5 z)=>za HRC.o hz HLC.o)
 obtain⟨yy,hyy⟩:∃ t,replE nm (conT vv) x= t:=⟨_,rfl⟩
 have HYY:=I hyy
 clear hyy
 have HRP:=I (z3Y nm (conT vv) (z7F vv) x Z5.heap.size cx [.int .i64 1,.string ⟨#[]⟩,e0,e1,e2,e3,e4,e5,.slice none 0 0,.slice none 0 0] Z5 HFX.o (Nat.le_refl _) (HEX.o Z5 HK6.o) (HCE.o Z5 HK6.o))
 rw[HYY.o] at HRP
 go_upto_region 5 with (first|((with_reducible refine z7 30 _ rfl ?_ (w.heap.size) (0) (cx) _ rfl (HWx.o Z5 HK6.o).range Tryz.underlying30 rfl ?_ ?_);(exact wA rfl);rw[HLX.o];kernel_rfl)|((with_reducible refine z7 30 _ rfl ?_ (pc) (0) ([.int .i64 1,.string ⟨#[]⟩,e0,e1,e2,e3,e4,e5,.slice none 0 0,.slice none 0 0]) _ rfl HRC.o Tryz.underlying30 rfl ?_ ?_);(exact wA rfl);kernel_rfl)|(go_at_call 15;refine HRP.o.mono ?_;rintro e y6 ⟨cy,rfl,hk,hb⟩;have HY6:=I hk.exp;have HLY:=I (eslen hk.exp);have HOY:=I hk.exp.one;have HBY:=I hb;clear hk hb)|((with_reducible refine z0c 30 _ _ rfl ?hwx23 y6 ?zz23 (cy) ?hwld23 ?hz23 ?hx23 ?hy23 ?hi23 ?h123 ?_);(case hwld23=>rfl);(case hx23=>rfl);(case hy23=>rfl);(case hwx23=>(exact wA rfl));(case hz23=>rw[HLY.o];rfl);(case hi23=>rw[HLY.o];kernel_rfl);(case h123=>exact HOY.o);intro G hZ;have HXG:=I hZ;clear hZ))
 have HZG:Hid (Below Z5.heap.size Z5 G):=I (HBY.o.trans (HXG.o.below.mono HBY.o.size))
 have HKG:Hid (Below W.heap.size W G):=I (HK6.o.trans (HZG.o.mono HK6.o.size))
 have HBG:Hid (Below w.heap.size w G):=I (HB7.o.trans (HZG.o.mono HB7.o.size))
 have HEY:Hid (∀ z,Below G.heap.size G z->ExpAt z z.heap.size cy yy):=I fun z hz=>by
  have h1:=HXG.o.below.trans (hz.mono HXG.o.below.size)
  exact(HY6.o.under h1).more h1.size
 have HRG:=I HXG.o.range
 have HLG:Hid (y6.heap.size < G.heap.size):=I HXG.o.size
 obtain⟨py,hpy⟩:∃ q,y6.heap.size= q:=⟨_,rfl⟩
 rw[hpy] at HRG HLG
 rw[hpy]
 clear hpy HXG HRP
 have HYU:=I (fun z (hz:Below G.heap.size G z)=>za HRG.o hz HLG.o)
 have HWG:=I (fun z (hz:Below G.heap.size G z)=>HKG.o.trans (hz.mono HKG.o.size))
 have HZZ:=I (fun z (hz:Below G.heap.size G z)=>HZG.o.trans (hz.mono HZG.o.size))
 go_frame
 go_cut [54] (fun v z=>v= .bool false/\Below G.heap.size G z)
 case first=>
  refine zF [(0,true),(1,true),(2,true),(3,true),(4,false),(5,false),(6,true)] (fun z=>Below G.heap.size G z) (by kernel_rfl) (by kernel_rfl) (by kernel_rfl) rfl (by intro c a d v w h;cases d<;>exact h) ?_
  have hs:Below G.heap.size G G.drew:=(Below.refl _ _).drew
  refine z8 (some 48) (.agg ⟨cy⟩) _ rfl rfl (by exact wA rfl) hs (fun z hz=>zD 30 rfl (py) (0) (cy) _ rfl (HYU.o z hz) Tryz.underlying30 rfl (by rw[HLY.o];kernel_rfl)) ?_
  go_frame
  refine z8 (some 49) (.agg ⟨cx⟩) _ rfl rfl (by exact wA rfl) hs (fun z hz=>zD 30 rfl (w.heap.size) (0) (cx) _ rfl (HWx.o z (HWG.o z hz)).range Tryz.underlying30 rfl (by rw[HLX.o];kernel_rfl)) ?_
  go_frame
  refine zh (some 50) (.string nm) _ _ rfl rfl rfl (by exact wA rfl) hs rfl ?_
  go_frame
  refine z8 (some 51) (.agg ⟨[.int .i64 1,.string ⟨#[]⟩,e0,e1,e2,e3,e4,e5,.slice none 0 0,.slice none 0 0]⟩) _ rfl rfl (by exact wA rfl) hs (fun z hz=>zD 30 rfl (pc) (0) ([.int .i64 1,.string ⟨#[]⟩,e0,e1,e2,e3,e4,e5,.slice none 0 0,.slice none 0 0]) _ rfl (HRU.o z (HZZ.o z hz)) Tryz.underlying30 rfl (by kernel_rfl)) ?_
  go_frame
  refine zx (some 52) 17 Tryz.func17 (by kernel_rfl) (by kernel_rfl) [.agg ⟨cx⟩,.string nm,.agg ⟨[.int .i64 1,.string ⟨#[]⟩,e0,e1,e2,e3,e4,e5,.slice none 0 0,.slice none 0 0]⟩] _ _ _ rfl rfl rfl (by exact wA rfl) rfl ?_
  refine(z8z nm (conT vv) (z7F vv) x G.drew.heap.size cx [.int .i64 1,.string ⟨#[]⟩,e0,e1,e2,e3,e4,e5,.slice none 0 0,.slice none 0 0] G.drew HFX.o (Nat.le_refl _) (HEX.o G.drew (HWG.o _ hs)) (HCE.o G.drew (HWG.o _ hs))).mono ?_
  rintro e u1 ⟨cr,rfl,hk,hb⟩
  rw[HYY.o] at hk
  have hER:=hk.exp
  have hs:Below G.heap.size G u1:=hs.trans (hb.mono hs.size)
  clear hk hb
  refine⟨_,rfl,hs,?_⟩
  go_frame
  refine zx (some 53) 16 Tryz.func16 (by kernel_rfl) (by kernel_rfl) [.agg ⟨cy⟩,.agg ⟨cr⟩] _ _ _ rfl rfl rfl (by exact wA rfl) rfl ?_
  refine(z61 yy yy cy cr u1 (HEY.o u1 hs) hER).mono ?_
  rintro e u2 ⟨rfl,hb⟩
  rw[zac]
  have hs:Below G.heap.size G u2:=hs.trans (hb.mono hs.size)
  clear hb hER
  refine⟨_,rfl,hs,?_⟩
  go_frame
  refine z8 (some 54) (.bool false) _ rfl rfl (by exact wA rfl) hs (fun z hz=>by go_simp) ?_
  go_frame
  refine z0a ?_
  have HSS:=I hs
  clear hs
  go_wp2
  go_meet
  case rel=>exact⟨rfl,HSS.o⟩
 case rest=>
 obtain⟨rfl,hbc⟩:=hcut
 have HGC:=I hbc
 clear hbc
 have HKC:Hid (Below W.heap.size W wc):=I (HWG.o wc HGC.o)
 have HBC:Hid (Below w.heap.size w wc):=I (HBG.o.trans (HGC.o.mono HBG.o.size))
 have HFD:=I (zbR E nm (.slice EA E.length ec) wc (HEV.o wc HKC.o) (by have:=HE40.o;omega))
 obtain⟨fv,hfv⟩:∃ f,findV E nm= f:=⟨_,rfl⟩
 rw[hfv] at HFD
 have HFV:=I hfv
 clear hfv
 go_wp2_with (go_at_call 18;fail)
 refine HFD.o.mono ?_
 rintro e u3 ⟨rfl,h⟩
 rw[h]
 clear h u3 HFD
 have HR1:=I (z9N x cx wc (HEX.o wc HKC.o))
 obtain⟨b1,hb1⟩:∃ b,zB x= b:=⟨_,rfl⟩
 rw[hb1] at HR1
 have HQ1:=I hb1
 clear hb1
 go_wp2_with (first|((with_reducible refine z7 30 _ rfl ?_ (w.heap.size) (0) (cx) _ rfl (HWx.o wc HKC.o).range Tryz.underlying30 rfl ?_ ?_);(exact wA rfl);rw[HLX.o];kernel_rfl)|(go_at_call 19;fail))
 refine HR1.o.mono ?_
 rintro e u4 ⟨rfl,hb⟩
 have HG4:Hid (Below G.heap.size G u4):=I (HGC.o.trans (hb.mono HGC.o.size))
 have HB4':Hid (Below w.heap.size w u4):=I (HBC.o.trans (hb.mono HBC.o.size))
 clear hb HR1
 cases b1 with
 |false=>
  go_wp2
  go_ret
  exact⟨rfl,HB4'.o⟩
 |true=>
 have HR2:=I (z9N (conT vv) [.int .i64 1,.string ⟨#[]⟩,e0,e1,e2,e3,e4,e5,.slice none 0 0,.slice none 0 0] u4 (HCE.o u4 (HWG.o u4 HG4.o)))
 obtain⟨b2,hb2⟩:∃ b,zB (conT vv)= b:=⟨_,rfl⟩
 rw[hb2] at HR2
 have HQ2:=I hb2
 clear hb2
 go_wp2_with (first|((with_reducible refine z7 30 _ rfl ?_ (pc) (0) ([.int .i64 1,.string ⟨#[]⟩,e0,e1,e2,e3,e4,e5,.slice none 0 0,.slice none 0 0]) _ rfl (HRU.o u4 (HZZ.o u4 HG4.o)) Tryz.underlying30 rfl ?_ ?_);(exact wA rfl);kernel_rfl)|(go_at_call 19;fail))
 refine HR2.o.mono ?_
 rintro e u5 ⟨rfl,hb⟩
 have HG5:Hid (Below G.heap.size G u5):=I (HG4.o.trans (hb.mono HG4.o.size))
 have HB5':Hid (Below w.heap.size w u5):=I (HB4'.o.trans (hb.mono HB4'.o.size))
 clear hb HR2
 cases b2 with
 |false=>
  go_wp2
  go_ret
  exact⟨rfl,HB5'.o⟩
 |true=>
 by_cases hf0:fv < 0
 ·go_wp2
  go_ret
  exact⟨rfl,HB5'.o⟩
 obtain⟨fi,rfl⟩:∃ n:Nat,fv= n:=⟨fv.toNat,by omega⟩
 have HFI:Hid (fi < E.length):=I (by
  obtain⟨y,hy,_⟩:=zdg HFV.o
  exact(List.getElem?_eq_some_iff.1 hy).1)
 obtain⟨V,hV⟩:∃ V,u5= V:=⟨_,rfl⟩
 rw[hV] at HG5 HB5'
 rw[hV]
 clear hV
 have HKV:Hid (Below W.heap.size W V):=I (HWG.o V HG5.o)
 obtain⟨j0,hi,hz0,hz1,hz2⟩:=z0s z1n
 have HJ0:=I hi
 have HY0:=I hz0
 have HY1:=I hz1
 have HY2:=I hz2
 clear hi hz0 hz1 hz2
 go_wp2
 go_loopg [12,72] E.length (fun q x1 i u=>∃ (j:Nat) (F1:List VT) (KA:List zq),j+q= E.length/\i= .int .i64 j/\SetInv 27 V u x1 E F1 (fun _=>false) j KA)
 case atStart=>exact⟨0,[],[],by omega,rfl,SetInv.start _ _ _ _⟩
 case round=>
  obtain⟨j,F1,KA,hj,rfl,hIA⟩:=hrel
  have HIA:=I hIA
  obtain⟨UA,uc,rfl⟩:=z7d hIA.own
  have HKLA:=I hIA.len
  clear hIA
  cases gk with
  |succ g=>
   have hlt:(j:Int) <(E.length:Int):=by omega
   obtain⟨y,hy⟩:∃ y,E[j]?= some y:=⟨_,List.getElem?_eq_getElem (by omega)⟩
   obtain⟨b2,ob,rfl,hbb,hc⟩:=HEA.o (by omega)
   obtain⟨ks,hkl,hkr,hkv⟩:=hc j y hy
   obtain⟨c2,c3,c4,ci,rfl,hci,hvi⟩:=zaU hkv
   have hG:=HB5'.o.trans (HIA.o.bel.mono HB5'.o.size)
   have HR:=I (za hkr hG hbb)
   have HCI:=I hci
   have HVI:Hid (ValAt V V.heap.size ci y.init):=I ((hvi.under HB5'.o).more HB5'.o.size)
   have HOW1:=I hkv.one
   have HOI:=I (zk hvi).2
   have HYV:=I hy
   have HCL:Hid ((.string y.name:: .int .i64 y.label::c2::c3::c4::ci).length= 11):=I (by simp[hci])
   clear hc hkl hkr hkv hci hvi hG hy
   go_upto_region 14 with (first|((with_reducible refine z7 50 _ rfl ?_ (b2) (ob+j*11) (.string y.name:: .int .i64 y.label::c2::c3::c4::ci) _ rfl HR.o Tryz.underlying50 rfl ?_ ?_);(exact wA rfl);rw[HCL.o];kernel_rfl)|((with_reducible refine z0c 50 _ _ rfl ?hwx27 wr ?zz27 (.string y.name:: .int .i64 y.label::c2::c3::c4::ci) ?hwld27 ?hz27 ?hx27 ?hy27 ?hi27 ?h127 ?_);(case hwld27=>rfl);(case hx27=>rfl);(case hy27=>rfl);(case hwx27=>(exact wA rfl));(case hz27=>rw[HCL.o];rfl);(case hi27=>rw[HCL.o];kernel_rfl);(case h127=>exact HOW1.o);intro Z hZ;have HXZ:=I hZ;clear hZ))
   have HRI:Hid (Z.rangeAt wr.heap.size 5 ci):=I (fun i u hu=>by have:=HXZ.o.range (5+i) u (by rw[show 5+i= i+1+1+1+1+1 by omega];exact hu);rw[show 0+ (5+i)= 5+i by omega] at this;exact this)
   have HC7:Hid (∀ i u,(enc6 ⟨ci,HCI.o⟩)[i]?= some u->(Z.alloc (.cells ⟨ci⟩ 27)).cell? ⟨Z.heap.size,i,none⟩= some u):=I (z0l Z ci 27)
   have HB7':=I (zc Z (.cells ⟨ci⟩ 27))
   have HU7:Hid (Below wr.heap.size wr (Z.alloc (.cells ⟨ci⟩ 27))):=I (HXZ.o.below.trans (HB7'.o.mono HXZ.o.below.size))
   have HMAc:Hid (V.heap.size<=(Z.alloc (.cells ⟨ci⟩ 27)).heap.size):=I (Nat.le_trans HIA.o.bel.size HU7.o.size)
   have HOW:Hid (OwnSl 27 6 enc6 (Z.alloc (.cells ⟨ci⟩ 27)) V.heap.size (.slice UA KA.length uc) KA):=I (HIA.o.own.below HU7.o)
   have HMAa:Hid (KA.length+1<=maxLen):=I (by have:=HE40.o;have h2:=HKLA.o;unfold maxLen;omega)
   have HMAb:Hid ((KA.length+1) *88<=140737488355328):=I (by have:=HE40.o;have h2:=HKLA.o;omega)
   have HYW:Hid (wrap64 ((j:Int)+1)=((j+1:Nat):Int)):=I (by have:=HE40.o;unfold wrap64;omega)
   go_wp2_with (first|((with_reducible refine z7 27 _ rfl ?_ (wr.heap.size) (5) (ci) _ rfl HRI.o Tryz.underlying27 rfl ?_ ?_);(exact wA rfl);rw[HCI.o];kernel_rfl)|((with_reducible refine z1f 25 _ rfl ?_ 27 j0 _ ci ?_ Tryz.underlying25 HJ0.o HY0.o ?_ ?_ ?_ ?_);(exact wA rfl);rfl;rw[HCI.o];exact HY1.o;rw[HCI.o];decide;rw[HCI.o];decide)|(at_builtin;(refine z5h rfl _ _ 25 rfl V.heap.size 27 j0 _ 6 88 enc6 Tryz.underlying25 HJ0.o HY0.o HY1.o HY2.o rfl (by decide) zX (.slice UA KA.length uc) KA rfl HOW.o Z.heap.size 1 ⟨ci,HCI.o⟩ HOI.o rfl HC7.o HMAa.o HMAb.o HMAc.o ?_;intro xa u8 hown hg hblk;have HNA:=I (SetInv.snoc (k:=⟨ci,HCI.o⟩) HIA.o HU7.o HYV.o HVI.o (.inl rfl) hown hg HIA.o.ge);clear hown hg hblk)))
   go_roundg g
   case measure=>omega
   case rel=>exact⟨j+1,_,_,by omega,by first|rw[HYW.o]|rfl,HNA.o⟩
  |zero=>
   obtain rfl:j= E.length:=by omega
   have hge: ¬ ((E.length:Int) <(E.length:Int)):=by omega
   have hfi:=HFI.o
   obtain⟨gb,gc,hxa⟩:∃ gb gc,(Value.slice UA KA.length uc)= .slice (some ⟨gb,0,none⟩) KA.length gc:=by
    have ho:=HIA.o.own
    rcases ho.2 with ⟨_,h0⟩|⟨gb,gc,cur,hv,_⟩
    ·have:=HKLA.o;omega
    ·exact⟨gb,gc,hv⟩
   injection hxa with hua _ huc
   subst hua huc
   have HKR:Hid (Below W.heap.size W wr):=I (HKV.o.trans (HIA.o.bel.mono HKV.o.size))
   have HTH:=I (z9b (i:=fi) HIA.o.own (by rw[HKLA.o];exact hfi))
   have HPT:=I (SetInv.putAt (k':=⟨[e0,e1,e2,e3,e4,e5],rfl⟩) (z:=vv) HIA.o.forget hfi (HEU.o V HKV.o))
   have HF1:=I HIA.o.flen
   have hlf:(fi:Int) <(KA.length:Int):=by rw[HKLA.o];omega
   obtain⟨ln,hln⟩:∃ ln,KA.length= ln:=⟨_,rfl⟩
   rw[hln] at HPT hlf
   rw[hln]
   clear hln hfi HIA
   go_upto_region 17 with (first|((with_reducible refine z7 27 _ rfl ?_ (w.heap.size+1) (0) ([e0,e1,e2,e3,e4,e5]) _ rfl (HWv.o wr HKR.o).range Tryz.underlying27 rfl ?_ ?_);(exact wA rfl);kernel_rfl)|((with_reducible refine z2C 27 _ _ rfl ?_ gb (fi*6) [e0,e1,e2,e3,e4,e5] ?_ ?_ ?_ ?_ ?_ ?_);(exact wA rfl);(first|rfl|(simp only[Nat.zero_add]));rfl;exact HTH.o;kernel_rfl;exact HOV.o))
   have HP9:Hid ((F1.set fi vv)[fi]?= some vv):=I (by rw[List.getElem?_set_self (by rw[HF1.o];exact HFI.o)])
   generalize wr.setCells gb (fi*6) [e0,e1,e2,e3,e4,e5]= V0 at*
   have HL9:Hid ((F1.set fi vv).length= E.length):=I (by rw[List.length_set];exact HF1.o)
   obtain⟨P,hP⟩:∃ P,F1.set fi vv= P:=⟨_,rfl⟩
   rw[hP] at HPT HP9 HL9
   clear hP
   have HLW:Hid (evalT yy E P= evalT x E P):=I (by rw[← HYY.o];exact za2 HFV.o HP9.o HQ1.o HQ2.o)
   have HT:=I (fun z (hz:Below V0.heap.size V0 z)=>HPT.o.row (by have:=HE40.o;omega) hz)
   have HGV:Hid (Below G.heap.size G V0):=I (HG5.o.trans (HPT.o.bel.mono HG5.o.size))
   have HWR:Hid (Below W.heap.size W V0):=I (HWG.o V0 HGV.o)
   have HBR:Hid (Below w.heap.size w V0):=I (HB5'.o.trans (HPT.o.bel.mono HB5'.o.size))
   have HW1:=HWR
   have HD1:=HBR
   have HGW:=HGV
   have HEV1:=I (zd6 x E P cx (.slice EA E.length ec) (.slice (some ⟨gb,0,none⟩) ln uc) V0 (HEX.o V0 HW1.o) (HEV.o V0 HW1.o) (HT.o V0 (Below.refl _ _)) (by have:=HE40.o;omega) (by have:=HE40.o;have:=HL9.o;omega) (HTB.o.next HD1.o))
   go_upto_region 18 with (first|((with_reducible refine z7 30 _ rfl ?_ (w.heap.size) (0) (cx) _ rfl (HWx.o V0 HW1.o).range Tryz.underlying30 rfl ?_ ?_);(exact wA rfl);rw[HLX.o];kernel_rfl)|(go_at_call 13;refine HEV1.o.mono ?_;rintro e y1 ⟨cs1,rfl,hk,hr,hb⟩;have HC1:=I (zk hk.val).1;have HOO1:=I (zk hk.val).2;have HVV1:=I hk.val;have HBY1:=I hb;clear hk hr hb)|((with_reducible refine z0c 27 _ _ rfl ?hwx31 y1 ?zz31 (cs1) ?hwld31 ?hz31 ?hx31 ?hy31 ?hi31 ?h131 ?_);(case hwld31=>rfl);(case hx31=>rfl);(case hy31=>rfl);(case hwx31=>(exact wA rfl));(case hz31=>rw[HC1.o];rfl);(case hi31=>rw[HC1.o];kernel_rfl);(case h131=>exact HOO1.o);intro Z1 hZ;have HXX1:=I hZ;clear hZ))
   have HST1:Hid (Below V0.heap.size V0 Z1):=I (HBY1.o.trans (HXX1.o.below.mono HBY1.o.size))
   have HPL1:Hid (y1.heap.size < Z1.heap.size):=I HXX1.o.size
   have HPC1:=I HXX1.o.range
   have HVZ1:Hid (ValAt Z1 Z1.heap.size cs1 (resV (evalT x E P)).1):=I ((HVV1.o.under HXX1.o.below).more HXX1.o.below.size)
   obtain⟨q1,hq1⟩:∃ q,y1.heap.size= q:=⟨_,rfl⟩
   rw[hq1] at HPL1 HPC1
   rw[hq1]
   clear hq1 HXX1 HEV1
   have HW2:Hid (Below W.heap.size W Z1):=I (HW1.o.trans (HST1.o.mono HW1.o.size))
   have HD2:Hid (Below w.heap.size w Z1):=I (HD1.o.trans (HST1.o.mono HD1.o.size))
   have HG2:Hid (Below G.heap.size G Z1):=I (HGV.o.trans (HST1.o.mono HGV.o.size))
   have HEV2:=I (zd6 yy E P cy (.slice EA E.length ec) (.slice (some ⟨gb,0,none⟩) ln uc) Z1 (HEY.o Z1 HG2.o) (HEV.o Z1 HW2.o) (HT.o Z1 HST1.o) (by have:=HE40.o;omega) (by have:=HE40.o;have:=HL9.o;omega) (HTB.o.next HD2.o))
   go_upto_region 19 with (first|((with_reducible refine z7 30 _ rfl ?_ (py) (0) (cy) _ rfl (HYU.o Z1 HG2.o) Tryz.underlying30 rfl ?_ ?_);(exact wA rfl);rw[HLY.o];kernel_rfl)|(go_at_call 13;refine HEV2.o.mono ?_;rintro e y2 ⟨cs2,rfl,hk,hr,hb⟩;have HC2:=I (zk hk.val).1;have HOO2:=I (zk hk.val).2;have HVV2:=I hk.val;have HBY2:=I hb;clear hk hr hb)|((with_reducible refine z0c 27 _ _ rfl ?hwx33 y2 ?zz33 (cs2) ?hwld33 ?hz33 ?hx33 ?hy33 ?hi33 ?h133 ?_);(case hwld33=>rfl);(case hx33=>rfl);(case hy33=>rfl);(case hwx33=>(exact wA rfl));(case hz33=>rw[HC2.o];rfl);(case hi33=>rw[HC2.o];kernel_rfl);(case h133=>exact HOO2.o);intro Z2 hZ;have HXX2:=I hZ;clear hZ))
   have HST2:Hid (Below Z1.heap.size Z1 Z2):=I (HBY2.o.trans (HXX2.o.below.mono HBY2.o.size))
   have HPL2:Hid (y2.heap.size < Z2.heap.size):=I HXX2.o.size
   have HPC2:=I HXX2.o.range
   have HVZ2:Hid (ValAt Z2 Z2.heap.size cs2 (resV (evalT yy E P)).1):=I ((HVV2.o.under HXX2.o.below).more HXX2.o.below.size)
   obtain⟨q2,hq2⟩:∃ q,y2.heap.size= q:=⟨_,rfl⟩
   rw[hq2] at HPL2 HPC2
   rw[hq2]
   clear hq2 HXX2 HEV2
   have HD3:Hid (Below w.heap.size w Z2):=I (HD2.o.trans (HST2.o.mono HD2.o.size))
   have HR1:Hid (Z2.rangeAt q1 0 cs1):=I (za HPC1.o HST2.o HPL1.o)
   have hv2:ValAt Z2 Z2.heap.size cs2 (resV (evalT x E P)).1:=by have h:=HVZ2.o;rw[HLW.o] at h;exact h
   have HSM:Hid (Calls Tryz.prog 14 #[.agg ⟨cs1⟩,.agg ⟨cs2⟩] Z2 fun e w'=>e= .returned (.bool true)/\Below Z2.heap.size Z2 w'):=I ((zc7 _ _ cs1 cs2 Z2 ((HVZ1.o.under HST2.o).more HST2.o.size) hv2).mono fun e w' ⟨h1,h2⟩=>⟨by rw[h1,z5G];rfl,h2⟩)
   rw[HLW.o]
   obtain⟨n1,hn1⟩:∃ n,(resV (evalT x E P)).2= n:=⟨_,rfl⟩
   rw[hn1]
   have f2:(n1 ==n1)= true:=by simp
   clear hn1 hv2
   go_wp2_with (first|((with_reducible refine z7 27 _ rfl ?_ (q1) (0) (cs1) _ rfl HR1.o Tryz.underlying27 rfl ?_ ?_);(exact wA rfl);rw[HC1.o];kernel_rfl)|((with_reducible refine z7 27 _ rfl ?_ (q2) (0) (cs2) _ rfl HPC2.o Tryz.underlying27 rfl ?_ ?_);(exact wA rfl);rw[HC2.o];kernel_rfl)|(go_at_call 14;refine(HSM.o).mono ?_;rintro e w9 ⟨rfl,hb⟩;have HB9:=I hb;clear hb))
   go_ret
   exact⟨rfl,HD3.o.trans (HB9.o.mono HD3.o.size)⟩
end Go.Proofs.YteolfamhmfidbaaGreatDoor
