/- Parts of a proof: EvMath. -/
import Derived.Test.YtmpbepjjbaeebaaGreatDoorPackM52
set_option maxHeartbeats 8000000
set_option maxRecDepth 100000
set_option linter.unusedVariables false
set_option linter.unusedSimpArgs false
namespace Go.Proofs.YtmpbepjjbaeebaaGreatDoor
open Go Go.RowKit
open Go.Lib (hid)
theorem val_num {w:World} {B:Nat} {cs:List Value} {v:VT} (h:ValAt w B cs v):cs[1]?= some (.int .i64 (vnum v)):=by
 cases v
 obtain⟨vn,vi,rfl,_⟩:=h.inv
 rfl
theorem evalMath_walk (w:World) (htb:TabP w) (a:Int) (ha:wfI a) (b:Int) (hb:wfI b):Calls Tryz.prog 6 #[.int .i64 a,.int .i64 b] w fun e w'=>e= .returned (.bool true)∧Below w.heap.size w w':=by
 have HTB:=hid htb
 have HA:=hid ha
 have HB:=hid hb
 obtain⟨j1,hi,hz0,hz1,hz2⟩:=info_partsV info_varE
 have HI1:=hid hi
 have HZ1:=hid hz0
 have HS1:=hid hz1
 clear hi hz0 hz1 hz2
 obtain⟨j2,hi,hz0,hz1,hz2⟩:=info_partsV info_value
 have HI2:=hid hi
 have HZ2:=hid hz0
 have HS2:=hid hz1
 clear hi hz0 hz1 hz2 htb ha hb
 go_enter Tryz.func6,Tryz.ntmps6
 go_upto_region 2 with (first|((with_reducible refine wl_build2 30 _ _ rfl ?hw1 47 j1 _ (nmVC mA) (nmVC mB) ?hx1 ?hy1 Tryz.underlying30 HI1.out HZ1.out ?hs1 ?ht1 ?h01 ?hm1 ?_);(case hw1=>(first|exact wanted_none rfl|exact wanted_if rfl rfl rfl rfl));(case hx1=>rfl);(case hy1=>rfl);(case hs1=>exact HS1.out);(case ht1=>rfl);(case h01=>decide);(case hm1=>decide)))
 go_upto_region 4 with (first|((with_reducible refine wl_build2 24 _ _ rfl ?hw2 26 j2 _ (intVC a) (intVC b) ?hx2 ?hy2 Tryz.underlying24 HI2.out HZ2.out ?hs2 ?ht2 ?h02 ?hm2 ?_);(case hw2=>(first|exact wanted_none rfl|exact wanted_if rfl rfl rfl rfl));(case hx2=>rfl);(case hy2=>rfl);(case hs2=>exact HS2.out);(case ht2=>rfl);(case h02=>decide);(case hm2=>decide)))
 have HV1:Hid (Whole 47 ((w.alloc (.cells ⟨nmVC mA ++ nmVC mB⟩ 47)).alloc (.cells #[Value.int IntKind.i64 2,Value.int IntKind.i64 a,Value.float FloatKind.f64 0,Value.string { data:= #[] },Value.slice none 0 0,Value.slice none 0 0,Value.int IntKind.i64 2,Value.int IntKind.i64 b,Value.float FloatKind.f64 0,Value.string { data:= #[] },Value.slice none 0 0,Value.slice none 0 0] 26)) w.heap.size (nmVC mA ++ nmVC mB)):=hid ((Whole.new w (nmVC mA ++ nmVC mB) 47).keep ((box_below (w.alloc (.cells ⟨nmVC mA ++ nmVC mB⟩ 47)) _).block _ (by simp)))
 have HV2:Hid (Whole 26 ((w.alloc (.cells ⟨nmVC mA ++ nmVC mB⟩ 47)).alloc (.cells #[Value.int IntKind.i64 2,Value.int IntKind.i64 a,Value.float FloatKind.f64 0,Value.string { data:= #[] },Value.slice none 0 0,Value.slice none 0 0,Value.int IntKind.i64 2,Value.int IntKind.i64 b,Value.float FloatKind.f64 0,Value.string { data:= #[] },Value.slice none 0 0,Value.slice none 0 0] 26)) (w.heap.size+1) (intVC a ++ intVC b)):=hid (by
  have h:=Whole.new (w.alloc (.cells ⟨nmVC mA ++ nmVC mB⟩ 47)) (intVC a ++ intVC b) 26
  rw[show(w.alloc (.cells ⟨nmVC mA ++ nmVC mB⟩ 47)).heap.size= w.heap.size+1 by simp] at h
  exact h)
 have HBW:Hid (Below w.heap.size w ((w.alloc (.cells ⟨nmVC mA ++ nmVC mB⟩ 47)).alloc (.cells #[Value.int IntKind.i64 2,Value.int IntKind.i64 a,Value.float FloatKind.f64 0,Value.string { data:= #[] },Value.slice none 0 0,Value.slice none 0 0,Value.int IntKind.i64 2,Value.int IntKind.i64 b,Value.float FloatKind.f64 0,Value.string { data:= #[] },Value.slice none 0 0,Value.slice none 0 0] 26))):=hid ((box_below w _).trans ((box_below _ _).mono (by simp)))
 have HSW:Hid (((w.alloc (.cells ⟨nmVC mA ++ nmVC mB⟩ 47)).alloc (.cells #[Value.int IntKind.i64 2,Value.int IntKind.i64 a,Value.float FloatKind.f64 0,Value.string { data:= #[] },Value.slice none 0 0,Value.slice none 0 0,Value.int IntKind.i64 2,Value.int IntKind.i64 b,Value.float FloatKind.f64 0,Value.string { data:= #[] },Value.slice none 0 0,Value.slice none 0 0] 26)).heap.size= w.heap.size+2):=hid (by simp)
 generalize (w.alloc (.cells ⟨nmVC mA ++ nmVC mB⟩ 47)).alloc (.cells #[Value.int IntKind.i64 2,Value.int IntKind.i64 a,Value.float FloatKind.f64 0,Value.string { data:= #[] },Value.slice none 0 0,Value.slice none 0 0,Value.int IntKind.i64 2,Value.int IntKind.i64 b,Value.float FloatKind.f64 0,Value.string { data:= #[] },Value.slice none 0 0,Value.slice none 0 0] 26)= W2 at*
 have HC8:Hid (Whole 29 ((W2.alloc (.cells #[Value.int IntKind.i64 0,Value.string { data:= #[] },Value.int IntKind.i64 0,Value.int IntKind.i64 0,Value.float FloatKind.f64 0,Value.string { data:= #[] },Value.slice none 0 0,Value.slice none 0 0,Value.slice none 0 0,Value.slice none 0 0] 29)).alloc (.cells #[Value.int IntKind.i64 0,Value.string { data:= #[] },Value.int IntKind.i64 0,Value.int IntKind.i64 0,Value.float FloatKind.f64 0,Value.string { data:= #[] },Value.slice none 0 0,Value.slice none 0 0,Value.slice none 0 0,Value.slice none 0 0] 29)) W2.heap.size zEc):=hid ((Whole.new W2 zEc 29).keep ((box_below (W2.alloc (.cells ⟨zEc⟩ 29)) _).block _ (by simp)))
 have HC9:Hid (Whole 29 ((W2.alloc (.cells #[Value.int IntKind.i64 0,Value.string { data:= #[] },Value.int IntKind.i64 0,Value.int IntKind.i64 0,Value.float FloatKind.f64 0,Value.string { data:= #[] },Value.slice none 0 0,Value.slice none 0 0,Value.slice none 0 0,Value.slice none 0 0] 29)).alloc (.cells #[Value.int IntKind.i64 0,Value.string { data:= #[] },Value.int IntKind.i64 0,Value.int IntKind.i64 0,Value.float FloatKind.f64 0,Value.string { data:= #[] },Value.slice none 0 0,Value.slice none 0 0,Value.slice none 0 0,Value.slice none 0 0] 29)) (W2.heap.size+1) zEc):=hid (by
  have h:=Whole.new (W2.alloc (.cells ⟨zEc⟩ 29)) zEc 29
  rw[show(W2.alloc (.cells ⟨zEc⟩ 29)).heap.size= W2.heap.size+1 by simp] at h
  exact h)
 have HB4:Hid (Below W2.heap.size W2 ((W2.alloc (.cells #[Value.int IntKind.i64 0,Value.string { data:= #[] },Value.int IntKind.i64 0,Value.int IntKind.i64 0,Value.float FloatKind.f64 0,Value.string { data:= #[] },Value.slice none 0 0,Value.slice none 0 0,Value.slice none 0 0,Value.slice none 0 0] 29)).alloc (.cells #[Value.int IntKind.i64 0,Value.string { data:= #[] },Value.int IntKind.i64 0,Value.int IntKind.i64 0,Value.float FloatKind.f64 0,Value.string { data:= #[] },Value.slice none 0 0,Value.slice none 0 0,Value.slice none 0 0,Value.slice none 0 0] 29))):=hid ((box_below W2 _).trans ((box_below _ _).mono (by simp)))
 go_upto_region 5 with (first|((with_reducible refine wl_wstore 29 _ _ rfl rfl ?hww8 (W2.heap.size) zEc (varC mA) HC8.out ?hl8 ?hxx8 ?hyy8 ?hii8 ?h18 ?_);(case hww8=>(first|exact wanted_none rfl|exact wanted_if rfl rfl rfl rfl));(case hl8=>rfl);(case hxx8=>rfl);(case hyy8=>rfl);(case hii8=>kernel_rfl);(case h18=>exact var_one _);intro Z8 hz hb;have HX8:=hid hz;have HXB8:=hid hb;have HC9b:=hid (HC9.out.keep (hb.block _ HC9.out.lt (by omega) (by omega)));clear hz hb)|((with_reducible refine wl_wstore 29 _ _ rfl rfl ?hww9 (W2.heap.size+1) zEc (varC mB) HC9b.out ?hl9 ?hxx9 ?hyy9 ?hii9 ?h19 ?_);(case hww9=>(first|exact wanted_none rfl|exact wanted_if rfl rfl rfl rfl));(case hl9=>rfl);(case hxx9=>rfl);(case hyy9=>rfl);(case hii9=>kernel_rfl);(case h19=>exact var_one _);intro Z9 hz hb;have HX9:=hid hz;have HXB9:=hid hb;clear hz hb))
 have HB9:Hid (Below W2.heap.size W2 Z9):=hid ((HB4.out.trans (HXB8.out.below HB4.out.size (Nat.le_refl _) (Nat.le_refl _))).trans (HXB9.out.below (Nat.le_trans HB4.out.size HXB8.out.size) (by omega) (by omega)))
 have HXA:Hid (Whole 29 Z9 W2.heap.size (varC mA)):=hid (HX8.out.keep (HXB9.out.block _ HX8.out.lt (by omega) (by omega)))
 have HXB:=HX9
 clear HX8 HX9 HXB8 HXB9 HC8 HC9 HC9b HB4
 obtain⟨pA,hpA⟩:∃ p,W2.heap.size= p:=⟨_,rfl⟩
 rw[hpA] at HXA HXB
 rw[hpA]
 have HPA:=hid hpA
 clear hpA
 have HZW:Hid (Below w.heap.size w Z9):=hid (HBW.out.trans (HB9.out.mono HBW.out.size))
 obtain⟨i0,hi0,hz0,hz1,hz2⟩:=info_parts info_exp
 have hs:Below Z9.heap.size Z9 Z9.drew:=(Below.refl _ _).drew
 have hxa:∀ z,Below Z9.heap.size Z9 z→Whole 29 z pA (varC mA):=fun z hz=>HXA.out.keep (hz.block _ HXA.out.lt)
 have hxb:∀ z,Below Z9.heap.size Z9 z→Whole 29 z (pA+1) (varC mB):=fun z hz=>HXB.out.keep (hz.block _ HXB.out.lt)
 have hea:∀ z:World,ExpAt z z.heap.size (varC mA) (varE mA):=fun z=>(var_kept (fun _=>True) z mA (by decide +kernel)).exp
 have heb:∀ z:World,ExpAt z z.heap.size (varC mB) (varE mB):=fun z=>(var_kept (fun _=>True) z mB (by decide +kernel)).exp
 go_cut [10] (fun v z=>∃ p c,v= .pointer (some ⟨p,0,none⟩)∧Whole 29 z p c∧c.length= 10∧(∀ v∈c,v.oneCell'= true)∧ExpAt z z.heap.size c backE∧Below Z9.heap.size Z9 z)
 case first=>
  refine wp_region_tree (.take 0 (.take 1 (.take 2 (.take 3 (.take 4 (.take 6 (.take 8 (.take 9 (.take 10 (.two 5 13 (.two 7 13 (.two 11 13 (.two 12 13 (.act 13 (.act 14 .done)) (.act 12 (.act 14 .done))) (.act 11 (.act 12 (.act 14 .done)))) (.act 7 (.act 11 (.act 12 (.act 14 .done))))) (.act 5 (.act 7 (.act 11 (.act 12 (.act 14 .done))))))))))))))) (fun z=>Below Z9.heap.size Z9 z) (by kernel_rfl) (by kernel_rfl) (by kernel_rfl) rfl (by intro c a d v w h;cases d<;>exact h) ?_
  refine tree_move (some 27) (.func (.func 23) #[] #[]) _ _ rfl rfl rfl (by first|exact wanted_none rfl|exact wanted_if rfl rfl rfl rfl) hs rfl ?_
  go_frame
  refine tree_move (some 28) (.func (.func 23) #[] #[]) _ _ rfl rfl rfl (by first|exact wanted_none rfl|exact wanted_if rfl rfl rfl rfl) hs rfl ?_
  go_frame
  refine tree_move (some 29) (.func (.func 23) #[] #[]) _ _ rfl rfl rfl (by first|exact wanted_none rfl|exact wanted_if rfl rfl rfl rfl) hs rfl ?_
  go_frame
  refine tree_load (some 30) (.agg ⟨varC mA⟩) _ rfl rfl (by first|exact wanted_none rfl|exact wanted_if rfl rfl rfl rfl) hs (fun z hz=>exec_sload 29 rfl (pA) 0 (varC mA) _ rfl (hxa z hz).range Tryz.underlying29 rfl (by kernel_rfl)) ?_
  go_frame
  refine tree_load (some 31) (.agg ⟨varC mB⟩) _ rfl rfl (by first|exact wanted_none rfl|exact wanted_if rfl rfl rfl rfl) hs (fun z hz=>exec_sload 29 rfl (pA+1) 0 (varC mB) _ rfl (hxb z hz).range Tryz.underlying29 rfl (by kernel_rfl)) ?_
  go_frame
  refine tree_load (some 33) (.agg ⟨varC mB⟩) _ rfl rfl (by first|exact wanted_none rfl|exact wanted_if rfl rfl rfl rfl) hs (fun z hz=>exec_sload 29 rfl (pA+1) 0 (varC mB) _ rfl (hxb z hz).range Tryz.underlying29 rfl (by kernel_rfl)) ?_
  go_frame
  refine tree_move (some 35) (.func (.func 23) #[] #[]) _ _ rfl rfl rfl (by first|exact wanted_none rfl|exact wanted_if rfl rfl rfl rfl) hs rfl ?_
  go_frame
  refine tree_load (some 36) (.agg ⟨varC mA⟩) _ rfl rfl (by first|exact wanted_none rfl|exact wanted_if rfl rfl rfl rfl) hs (fun z hz=>exec_sload 29 rfl (pA) 0 (varC mA) _ rfl (hxa z hz).range Tryz.underlying29 rfl (by kernel_rfl)) ?_
  go_frame
  refine tree_load (some 37) (.agg ⟨varC mB⟩) _ rfl rfl (by first|exact wanted_none rfl|exact wanted_if rfl rfl rfl rfl) hs (fun z hz=>exec_sload 29 rfl (pA+1) 0 (varC mB) _ rfl (hxb z hz).range Tryz.underlying29 rfl (by kernel_rfl)) ?_
  go_frame
  refine tree_two10 ?_ ?_
  ·refine tree_toV10 (some 32) 23 Tryz.func23 (by kernel_rfl) (by kernel_rfl) [.int .i64 8,.agg ⟨varC mA⟩,.agg ⟨varC mB⟩] _ _ _ _ rfl rfl rfl (by first|exact wanted_none rfl|exact wanted_if rfl rfl rfl rfl) rfl rfl ?_
   refine(mtwo_k (fun _=>True) 8 (wf_int 8 (by decide +kernel)) (varC mA) (varC mB) (varE mA) (varE mB) Z9.drew (var_kept (fun _=>True) Z9.drew mA (by decide +kernel)) (var_kept (fun _=>True) Z9.drew mB (by decide +kernel)) (fun _ _=>trivial)).mono ?_
   rintro e w1 ⟨c2,rfl,hkc2,hbc2⟩
   have hs:Below Z9.heap.size Z9 w1:=hs.trans (hbc2.mono hs.size)
   refine⟨_,rfl,hs,?_⟩
   go_frame
   refine tree_two10 ?_ ?_
   ·refine tree_toV10 (some 34) 23 Tryz.func23 (by kernel_rfl) (by kernel_rfl) [.int .i64 7,.agg ⟨c2⟩,.agg ⟨varC mB⟩] _ _ _ _ rfl rfl rfl (by first|exact wanted_none rfl|exact wanted_if rfl rfl rfl rfl) rfl rfl ?_
    refine(mtwo_k (fun _=>True) 7 (wf_int 7 (by decide +kernel)) (c2) (varC mB) (twoE 8 (varE mA) (varE mB)) (varE mB) w1 hkc2 (var_kept (fun _=>True) w1 mB (by decide +kernel)) (fun _ _=>trivial)).mono ?_
    rintro e w3 ⟨c4,rfl,hkc4,hbc4⟩
    have hs:Below Z9.heap.size Z9 w3:=hs.trans (hbc4.mono hs.size)
    refine⟨_,rfl,hs,?_⟩
    go_frame
    have hm5:=hkc2.to (q:=(fun _=>True)) (fun b h1 h2=>⟨h1,hbc4.block b h2⟩) hbc4.size
    refine tree_two10 ?_ ?_
    ·refine tree_toV10 (some 38) 23 Tryz.func23 (by kernel_rfl) (by kernel_rfl) [.int .i64 9,.agg ⟨varC mA⟩,.agg ⟨varC mB⟩] _ _ _ _ rfl rfl rfl (by first|exact wanted_none rfl|exact wanted_if rfl rfl rfl rfl) rfl rfl ?_
     refine(mtwo_k (fun _=>True) 9 (wf_int 9 (by decide +kernel)) (varC mA) (varC mB) (varE mA) (varE mB) w3 (var_kept (fun _=>True) w3 mA (by decide +kernel)) (var_kept (fun _=>True) w3 mB (by decide +kernel)) (fun _ _=>trivial)).mono ?_
     rintro e w6 ⟨c7,rfl,hkc7,hbc7⟩
     have hs:Below Z9.heap.size Z9 w6:=hs.trans (hbc7.mono hs.size)
     refine⟨_,rfl,hs,?_⟩
     go_frame
     have hm8:=hm5.to (q:=(fun _=>True)) (fun b h1 h2=>⟨h1,hbc7.block b h2⟩) hbc7.size
     have hm9:=hkc4.to (q:=(fun _=>True)) (fun b h1 h2=>⟨h1,hbc7.block b h2⟩) hbc7.size
     refine tree_two10 ?_ ?_
     ·refine tree_toV10 (some 39) 23 Tryz.func23 (by kernel_rfl) (by kernel_rfl) [.int .i64 5,.agg ⟨c4⟩,.agg ⟨c7⟩] _ _ _ _ rfl rfl rfl (by first|exact wanted_none rfl|exact wanted_if rfl rfl rfl rfl) rfl rfl ?_
      refine(mtwo_k (fun _=>True) 5 (wf_int 5 (by decide +kernel)) (c4) (c7) (twoE 7 (twoE 8 (varE mA) (varE mB)) (varE mB)) (twoE 9 (varE mA) (varE mB)) w6 hm9 hkc7 (fun _ _=>trivial)).mono ?_
      rintro e w10 ⟨c11,rfl,hkc11,hbc11⟩
      have hs:Below Z9.heap.size Z9 w10:=hs.trans (hbc11.mono hs.size)
      refine⟨_,rfl,hs,?_⟩
      go_frame
      have hm12:=hm8.to (q:=(fun _=>True)) (fun b h1 h2=>⟨h1,hbc11.block b h2⟩) hbc11.size
      have hm13:=hm9.to (q:=(fun _=>True)) (fun b h1 h2=>⟨h1,hbc11.block b h2⟩) hbc11.size
      have hm14:=hkc7.to (q:=(fun _=>True)) (fun b h1 h2=>⟨h1,hbc11.block b h2⟩) hbc11.size
      refine tree_run10 (some 10) (.pointer (some ⟨w10.heap.size,0,none⟩)) (w10.alloc (.cells zEc.toArray 29)) _ rfl rfl (by first|exact wanted_none rfl|exact wanted_if rfl rfl rfl rfl) (exec_alloc 29 rfl _ _ hi0 hz0) (hs.trans ((box_below w10 _).mono hs.size)) ?_
      go_frame
      have hbw15:=box_below w10 (.cells zEc.toArray 29)
      have hww15:Whole 29 (w10.alloc (.cells zEc.toArray 29)) w10.heap.size zEc:=Whole.new w10 zEc 29
      have hgw15:Z9.heap.size≤w10.heap.size:=hs.size
      have hs:Below Z9.heap.size Z9 (w10.alloc (.cells zEc.toArray 29)):=hs.trans (hbw15.mono hs.size)
      generalize w10.alloc (.cells zEc.toArray 29)= w15 at*
      have hm16:=kept_cut hm12 hbw15
      have hm17:=kept_cut hm13 hbw15
      have hm18:=kept_cut hm14 hbw15
      have hm19:=kept_cut hkc11 hbw15
      refine tree_wstore10 none 29 _ _ _ rfl rfl rfl (by first|exact wanted_none rfl|exact wanted_if rfl rfl rfl rfl) w10.heap.size zEc c11 hww15 (by rw[hm19.len];rfl) rfl rfl (by rw[hm19.len];kernel_rfl) hm19.one ?_
      intro w20 hwf hbf
      have hkf:=hm19.to (q:=fun _=>True) (fun b h1 h2=>⟨trivial,hbf.block b h2 h1 h1⟩) hbf.size
      have hsf:Below Z9.heap.size Z9 w20:=hs.trans (hbf.below hs.size hgw15 hgw15)
      refine⟨hsf,?_⟩
      go_frame
      refine tree_end ?_
      go_wp2
      go_meet
      case rel=>exact⟨_,c11,rfl,hwf,hm19.len,hkf.one,hkf.exp,hsf⟩
     ·refine tree_run10 (some 10) (.pointer (some ⟨w6.heap.size,0,none⟩)) (w6.alloc (.cells zEc.toArray 29)) _ rfl rfl (by first|exact wanted_none rfl|exact wanted_if rfl rfl rfl rfl) (exec_alloc 29 rfl _ _ hi0 hz0) (hs.trans ((box_below w6 _).mono hs.size)) ?_
      go_frame
      have hbw21:=box_below w6 (.cells zEc.toArray 29)
      have hww21:Whole 29 (w6.alloc (.cells zEc.toArray 29)) w6.heap.size zEc:=Whole.new w6 zEc 29
      have hgw21:Z9.heap.size≤w6.heap.size:=hs.size
      have hs:Below Z9.heap.size Z9 (w6.alloc (.cells zEc.toArray 29)):=hs.trans (hbw21.mono hs.size)
      generalize w6.alloc (.cells zEc.toArray 29)= w21 at*
      have hm22:=kept_cut hm8 hbw21
      have hm23:=kept_cut hm9 hbw21
      have hm24:=kept_cut hkc7 hbw21
      refine tree_toV10 (some 39) 23 Tryz.func23 (by kernel_rfl) (by kernel_rfl) [.int .i64 5,.agg ⟨c4⟩,.agg ⟨c7⟩] _ _ _ _ rfl rfl rfl (by first|exact wanted_none rfl|exact wanted_if rfl rfl rfl rfl) rfl rfl ?_
      refine(mtwo_k (fun b=>b≠w6.heap.size) 5 (wf_int 5 (by decide +kernel)) (c4) (c7) (twoE 7 (twoE 8 (varE mA) (varE mB)) (varE mB)) (twoE 9 (varE mA) (varE mB)) w21 hm23 hm24 (fun b h=>Nat.ne_of_gt (Nat.lt_of_lt_of_le hww21.lt h))).mono ?_
      rintro e w25 ⟨c26,rfl,hkc26,hbc26⟩
      have hs:Below Z9.heap.size Z9 w25:=hs.trans (hbc26.mono hs.size)
      refine⟨_,rfl,hs,?_⟩
      go_frame
      have hm27:=hm22.to (q:=(fun b=>b≠w6.heap.size)) (fun b h1 h2=>⟨h1,hbc26.block b h2⟩) hbc26.size
      have hm28:=hm23.to (q:=(fun b=>b≠w6.heap.size)) (fun b h1 h2=>⟨h1,hbc26.block b h2⟩) hbc26.size
      have hm29:=hm24.to (q:=(fun b=>b≠w6.heap.size)) (fun b h1 h2=>⟨h1,hbc26.block b h2⟩) hbc26.size
      have hw30:=hww21.keep (hbc26.block _ hww21.lt)
      refine tree_wstore10 none 29 _ _ _ rfl rfl rfl (by first|exact wanted_none rfl|exact wanted_if rfl rfl rfl rfl) w6.heap.size zEc c26 hw30 (by rw[hkc26.len];rfl) rfl rfl (by rw[hkc26.len];kernel_rfl) hkc26.one ?_
      intro w31 hwf hbf
      have hkf:=hkc26.to (q:=fun _=>True) (fun b h1 h2=>⟨trivial,hbf.block b h2 h1 h1⟩) hbf.size
      have hsf:Below Z9.heap.size Z9 w31:=hs.trans (hbf.below hs.size hgw21 hgw21)
      refine⟨hsf,?_⟩
      go_frame
      refine tree_end ?_
      go_wp2
      go_meet
      case rel=>exact⟨_,c26,rfl,hwf,hkc26.len,hkf.one,hkf.exp,hsf⟩
    ·refine tree_run10 (some 10) (.pointer (some ⟨w3.heap.size,0,none⟩)) (w3.alloc (.cells zEc.toArray 29)) _ rfl rfl (by first|exact wanted_none rfl|exact wanted_if rfl rfl rfl rfl) (exec_alloc 29 rfl _ _ hi0 hz0) (hs.trans ((box_below w3 _).mono hs.size)) ?_
     go_frame
     have hbw32:=box_below w3 (.cells zEc.toArray 29)
     have hww32:Whole 29 (w3.alloc (.cells zEc.toArray 29)) w3.heap.size zEc:=Whole.new w3 zEc 29
     have hgw32:Z9.heap.size≤w3.heap.size:=hs.size
     have hs:Below Z9.heap.size Z9 (w3.alloc (.cells zEc.toArray 29)):=hs.trans (hbw32.mono hs.size)
     generalize w3.alloc (.cells zEc.toArray 29)= w32 at*
     have hm33:=kept_cut hm5 hbw32
     have hm34:=kept_cut hkc4 hbw32
     refine tree_toV10 (some 38) 23 Tryz.func23 (by kernel_rfl) (by kernel_rfl) [.int .i64 9,.agg ⟨varC mA⟩,.agg ⟨varC mB⟩] _ _ _ _ rfl rfl rfl (by first|exact wanted_none rfl|exact wanted_if rfl rfl rfl rfl) rfl rfl ?_
     refine(mtwo_k (fun b=>b≠w3.heap.size) 9 (wf_int 9 (by decide +kernel)) (varC mA) (varC mB) (varE mA) (varE mB) w32 (var_kept (fun b=>b≠w3.heap.size) w32 mA (by decide +kernel)) (var_kept (fun b=>b≠w3.heap.size) w32 mB (by decide +kernel)) (fun b h=>Nat.ne_of_gt (Nat.lt_of_lt_of_le hww32.lt h))).mono ?_
     rintro e w35 ⟨c36,rfl,hkc36,hbc36⟩
     have hs:Below Z9.heap.size Z9 w35:=hs.trans (hbc36.mono hs.size)
     refine⟨_,rfl,hs,?_⟩
     go_frame
     have hm37:=hm33.to (q:=(fun b=>b≠w3.heap.size)) (fun b h1 h2=>⟨h1,hbc36.block b h2⟩) hbc36.size
     have hm38:=hm34.to (q:=(fun b=>b≠w3.heap.size)) (fun b h1 h2=>⟨h1,hbc36.block b h2⟩) hbc36.size
     have hw39:=hww32.keep (hbc36.block _ hww32.lt)
     refine tree_toV10 (some 39) 23 Tryz.func23 (by kernel_rfl) (by kernel_rfl) [.int .i64 5,.agg ⟨c4⟩,.agg ⟨c36⟩] _ _ _ _ rfl rfl rfl (by first|exact wanted_none rfl|exact wanted_if rfl rfl rfl rfl) rfl rfl ?_
     refine(mtwo_k (fun b=>b≠w3.heap.size) 5 (wf_int 5 (by decide +kernel)) (c4) (c36) (twoE 7 (twoE 8 (varE mA) (varE mB)) (varE mB)) (twoE 9 (varE mA) (varE mB)) w35 hm38 hkc36 (fun b h=>Nat.ne_of_gt (Nat.lt_of_lt_of_le hw39.lt h))).mono ?_
     rintro e w40 ⟨c41,rfl,hkc41,hbc41⟩
     have hs:Below Z9.heap.size Z9 w40:=hs.trans (hbc41.mono hs.size)
     refine⟨_,rfl,hs,?_⟩
     go_frame
     have hm42:=hm37.to (q:=(fun b=>b≠w3.heap.size)) (fun b h1 h2=>⟨h1,hbc41.block b h2⟩) hbc41.size
     have hm43:=hm38.to (q:=(fun b=>b≠w3.heap.size)) (fun b h1 h2=>⟨h1,hbc41.block b h2⟩) hbc41.size
     have hm44:=hkc36.to (q:=(fun b=>b≠w3.heap.size)) (fun b h1 h2=>⟨h1,hbc41.block b h2⟩) hbc41.size
     have hw45:=hw39.keep (hbc41.block _ hw39.lt)
     refine tree_wstore10 none 29 _ _ _ rfl rfl rfl (by first|exact wanted_none rfl|exact wanted_if rfl rfl rfl rfl) w3.heap.size zEc c41 hw45 (by rw[hkc41.len];rfl) rfl rfl (by rw[hkc41.len];kernel_rfl) hkc41.one ?_
     intro w46 hwf hbf
     have hkf:=hkc41.to (q:=fun _=>True) (fun b h1 h2=>⟨trivial,hbf.block b h2 h1 h1⟩) hbf.size
     have hsf:Below Z9.heap.size Z9 w46:=hs.trans (hbf.below hs.size hgw32 hgw32)
     refine⟨hsf,?_⟩
     go_frame
     refine tree_end ?_
     go_wp2
     go_meet
     case rel=>exact⟨_,c41,rfl,hwf,hkc41.len,hkf.one,hkf.exp,hsf⟩
   ·refine tree_run10 (some 10) (.pointer (some ⟨w1.heap.size,0,none⟩)) (w1.alloc (.cells zEc.toArray 29)) _ rfl rfl (by first|exact wanted_none rfl|exact wanted_if rfl rfl rfl rfl) (exec_alloc 29 rfl _ _ hi0 hz0) (hs.trans ((box_below w1 _).mono hs.size)) ?_
    go_frame
    have hbw47:=box_below w1 (.cells zEc.toArray 29)
    have hww47:Whole 29 (w1.alloc (.cells zEc.toArray 29)) w1.heap.size zEc:=Whole.new w1 zEc 29
    have hgw47:Z9.heap.size≤w1.heap.size:=hs.size
    have hs:Below Z9.heap.size Z9 (w1.alloc (.cells zEc.toArray 29)):=hs.trans (hbw47.mono hs.size)
    generalize w1.alloc (.cells zEc.toArray 29)= w47 at*
    have hm48:=kept_cut hkc2 hbw47
    refine tree_toV10 (some 34) 23 Tryz.func23 (by kernel_rfl) (by kernel_rfl) [.int .i64 7,.agg ⟨c2⟩,.agg ⟨varC mB⟩] _ _ _ _ rfl rfl rfl (by first|exact wanted_none rfl|exact wanted_if rfl rfl rfl rfl) rfl rfl ?_
    refine(mtwo_k (fun b=>b≠w1.heap.size) 7 (wf_int 7 (by decide +kernel)) (c2) (varC mB) (twoE 8 (varE mA) (varE mB)) (varE mB) w47 hm48 (var_kept (fun b=>b≠w1.heap.size) w47 mB (by decide +kernel)) (fun b h=>Nat.ne_of_gt (Nat.lt_of_lt_of_le hww47.lt h))).mono ?_
    rintro e w49 ⟨c50,rfl,hkc50,hbc50⟩
    have hs:Below Z9.heap.size Z9 w49:=hs.trans (hbc50.mono hs.size)
    refine⟨_,rfl,hs,?_⟩
    go_frame
    have hm51:=hm48.to (q:=(fun b=>b≠w1.heap.size)) (fun b h1 h2=>⟨h1,hbc50.block b h2⟩) hbc50.size
    have hw52:=hww47.keep (hbc50.block _ hww47.lt)
    refine tree_toV10 (some 38) 23 Tryz.func23 (by kernel_rfl) (by kernel_rfl) [.int .i64 9,.agg ⟨varC mA⟩,.agg ⟨varC mB⟩] _ _ _ _ rfl rfl rfl (by first|exact wanted_none rfl|exact wanted_if rfl rfl rfl rfl) rfl rfl ?_
    refine(mtwo_k (fun b=>b≠w1.heap.size) 9 (wf_int 9 (by decide +kernel)) (varC mA) (varC mB) (varE mA) (varE mB) w49 (var_kept (fun b=>b≠w1.heap.size) w49 mA (by decide +kernel)) (var_kept (fun b=>b≠w1.heap.size) w49 mB (by decide +kernel)) (fun b h=>Nat.ne_of_gt (Nat.lt_of_lt_of_le hw52.lt h))).mono ?_
    rintro e w53 ⟨c54,rfl,hkc54,hbc54⟩
    have hs:Below Z9.heap.size Z9 w53:=hs.trans (hbc54.mono hs.size)
    refine⟨_,rfl,hs,?_⟩
    go_frame
    have hm55:=hm51.to (q:=(fun b=>b≠w1.heap.size)) (fun b h1 h2=>⟨h1,hbc54.block b h2⟩) hbc54.size
    have hm56:=hkc50.to (q:=(fun b=>b≠w1.heap.size)) (fun b h1 h2=>⟨h1,hbc54.block b h2⟩) hbc54.size
    have hw57:=hw52.keep (hbc54.block _ hw52.lt)
    refine tree_toV10 (some 39) 23 Tryz.func23 (by kernel_rfl) (by kernel_rfl) [.int .i64 5,.agg ⟨c50⟩,.agg ⟨c54⟩] _ _ _ _ rfl rfl rfl (by first|exact wanted_none rfl|exact wanted_if rfl rfl rfl rfl) rfl rfl ?_
    refine(mtwo_k (fun b=>b≠w1.heap.size) 5 (wf_int 5 (by decide +kernel)) (c50) (c54) (twoE 7 (twoE 8 (varE mA) (varE mB)) (varE mB)) (twoE 9 (varE mA) (varE mB)) w53 hm56 hkc54 (fun b h=>Nat.ne_of_gt (Nat.lt_of_lt_of_le hw57.lt h))).mono ?_
    rintro e w58 ⟨c59,rfl,hkc59,hbc59⟩
    have hs:Below Z9.heap.size Z9 w58:=hs.trans (hbc59.mono hs.size)
    refine⟨_,rfl,hs,?_⟩
    go_frame
    have hm60:=hm55.to (q:=(fun b=>b≠w1.heap.size)) (fun b h1 h2=>⟨h1,hbc59.block b h2⟩) hbc59.size
    have hm61:=hm56.to (q:=(fun b=>b≠w1.heap.size)) (fun b h1 h2=>⟨h1,hbc59.block b h2⟩) hbc59.size
    have hm62:=hkc54.to (q:=(fun b=>b≠w1.heap.size)) (fun b h1 h2=>⟨h1,hbc59.block b h2⟩) hbc59.size
    have hw63:=hw57.keep (hbc59.block _ hw57.lt)
    refine tree_wstore10 none 29 _ _ _ rfl rfl rfl (by first|exact wanted_none rfl|exact wanted_if rfl rfl rfl rfl) w1.heap.size zEc c59 hw63 (by rw[hkc59.len];rfl) rfl rfl (by rw[hkc59.len];kernel_rfl) hkc59.one ?_
    intro w64 hwf hbf
    have hkf:=hkc59.to (q:=fun _=>True) (fun b h1 h2=>⟨trivial,hbf.block b h2 h1 h1⟩) hbf.size
    have hsf:Below Z9.heap.size Z9 w64:=hs.trans (hbf.below hs.size hgw47 hgw47)
    refine⟨hsf,?_⟩
    go_frame
    refine tree_end ?_
    go_wp2
    go_meet
    case rel=>exact⟨_,c59,rfl,hwf,hkc59.len,hkf.one,hkf.exp,hsf⟩
  ·refine tree_run10 (some 10) (.pointer (some ⟨Z9.drew.heap.size,0,none⟩)) (Z9.drew.alloc (.cells zEc.toArray 29)) _ rfl rfl (by first|exact wanted_none rfl|exact wanted_if rfl rfl rfl rfl) (exec_alloc 29 rfl _ _ hi0 hz0) (hs.trans ((box_below Z9.drew _).mono hs.size)) ?_
   go_frame
   have hbw65:=box_below Z9.drew (.cells zEc.toArray 29)
   have hww65:Whole 29 (Z9.drew.alloc (.cells zEc.toArray 29)) Z9.drew.heap.size zEc:=Whole.new Z9.drew zEc 29
   have hgw65:Z9.heap.size≤Z9.drew.heap.size:=hs.size
   have hs:Below Z9.heap.size Z9 (Z9.drew.alloc (.cells zEc.toArray 29)):=hs.trans (hbw65.mono hs.size)
   generalize Z9.drew.alloc (.cells zEc.toArray 29)= w65 at*
   refine tree_toV10 (some 32) 23 Tryz.func23 (by kernel_rfl) (by kernel_rfl) [.int .i64 8,.agg ⟨varC mA⟩,.agg ⟨varC mB⟩] _ _ _ _ rfl rfl rfl (by first|exact wanted_none rfl|exact wanted_if rfl rfl rfl rfl) rfl rfl ?_
   refine(mtwo_k (fun b=>b≠Z9.drew.heap.size) 8 (wf_int 8 (by decide +kernel)) (varC mA) (varC mB) (varE mA) (varE mB) w65 (var_kept (fun b=>b≠Z9.drew.heap.size) w65 mA (by decide +kernel)) (var_kept (fun b=>b≠Z9.drew.heap.size) w65 mB (by decide +kernel)) (fun b h=>Nat.ne_of_gt (Nat.lt_of_lt_of_le hww65.lt h))).mono ?_
   rintro e w66 ⟨c67,rfl,hkc67,hbc67⟩
   have hs:Below Z9.heap.size Z9 w66:=hs.trans (hbc67.mono hs.size)
   refine⟨_,rfl,hs,?_⟩
   go_frame
   have hw68:=hww65.keep (hbc67.block _ hww65.lt)
   refine tree_toV10 (some 34) 23 Tryz.func23 (by kernel_rfl) (by kernel_rfl) [.int .i64 7,.agg ⟨c67⟩,.agg ⟨varC mB⟩] _ _ _ _ rfl rfl rfl (by first|exact wanted_none rfl|exact wanted_if rfl rfl rfl rfl) rfl rfl ?_
   refine(mtwo_k (fun b=>b≠Z9.drew.heap.size) 7 (wf_int 7 (by decide +kernel)) (c67) (varC mB) (twoE 8 (varE mA) (varE mB)) (varE mB) w66 hkc67 (var_kept (fun b=>b≠Z9.drew.heap.size) w66 mB (by decide +kernel)) (fun b h=>Nat.ne_of_gt (Nat.lt_of_lt_of_le hw68.lt h))).mono ?_
   rintro e w69 ⟨c70,rfl,hkc70,hbc70⟩
   have hs:Below Z9.heap.size Z9 w69:=hs.trans (hbc70.mono hs.size)
   refine⟨_,rfl,hs,?_⟩
   go_frame
   have hm71:=hkc67.to (q:=(fun b=>b≠Z9.drew.heap.size)) (fun b h1 h2=>⟨h1,hbc70.block b h2⟩) hbc70.size
   have hw72:=hw68.keep (hbc70.block _ hw68.lt)
   refine tree_toV10 (some 38) 23 Tryz.func23 (by kernel_rfl) (by kernel_rfl) [.int .i64 9,.agg ⟨varC mA⟩,.agg ⟨varC mB⟩] _ _ _ _ rfl rfl rfl (by first|exact wanted_none rfl|exact wanted_if rfl rfl rfl rfl) rfl rfl ?_
   refine(mtwo_k (fun b=>b≠Z9.drew.heap.size) 9 (wf_int 9 (by decide +kernel)) (varC mA) (varC mB) (varE mA) (varE mB) w69 (var_kept (fun b=>b≠Z9.drew.heap.size) w69 mA (by decide +kernel)) (var_kept (fun b=>b≠Z9.drew.heap.size) w69 mB (by decide +kernel)) (fun b h=>Nat.ne_of_gt (Nat.lt_of_lt_of_le hw72.lt h))).mono ?_
   rintro e w73 ⟨c74,rfl,hkc74,hbc74⟩
   have hs:Below Z9.heap.size Z9 w73:=hs.trans (hbc74.mono hs.size)
   refine⟨_,rfl,hs,?_⟩
   go_frame
   have hm75:=hm71.to (q:=(fun b=>b≠Z9.drew.heap.size)) (fun b h1 h2=>⟨h1,hbc74.block b h2⟩) hbc74.size
   have hm76:=hkc70.to (q:=(fun b=>b≠Z9.drew.heap.size)) (fun b h1 h2=>⟨h1,hbc74.block b h2⟩) hbc74.size
   have hw77:=hw72.keep (hbc74.block _ hw72.lt)
   refine tree_toV10 (some 39) 23 Tryz.func23 (by kernel_rfl) (by kernel_rfl) [.int .i64 5,.agg ⟨c70⟩,.agg ⟨c74⟩] _ _ _ _ rfl rfl rfl (by first|exact wanted_none rfl|exact wanted_if rfl rfl rfl rfl) rfl rfl ?_
   refine(mtwo_k (fun b=>b≠Z9.drew.heap.size) 5 (wf_int 5 (by decide +kernel)) (c70) (c74) (twoE 7 (twoE 8 (varE mA) (varE mB)) (varE mB)) (twoE 9 (varE mA) (varE mB)) w73 hm76 hkc74 (fun b h=>Nat.ne_of_gt (Nat.lt_of_lt_of_le hw77.lt h))).mono ?_
   rintro e w78 ⟨c79,rfl,hkc79,hbc79⟩
   have hs:Below Z9.heap.size Z9 w78:=hs.trans (hbc79.mono hs.size)
   refine⟨_,rfl,hs,?_⟩
   go_frame
   have hm80:=hm75.to (q:=(fun b=>b≠Z9.drew.heap.size)) (fun b h1 h2=>⟨h1,hbc79.block b h2⟩) hbc79.size
   have hm81:=hm76.to (q:=(fun b=>b≠Z9.drew.heap.size)) (fun b h1 h2=>⟨h1,hbc79.block b h2⟩) hbc79.size
   have hm82:=hkc74.to (q:=(fun b=>b≠Z9.drew.heap.size)) (fun b h1 h2=>⟨h1,hbc79.block b h2⟩) hbc79.size
   have hw83:=hw77.keep (hbc79.block _ hw77.lt)
   refine tree_wstore10 none 29 _ _ _ rfl rfl rfl (by first|exact wanted_none rfl|exact wanted_if rfl rfl rfl rfl) Z9.drew.heap.size zEc c79 hw83 (by rw[hkc79.len];rfl) rfl rfl (by rw[hkc79.len];kernel_rfl) hkc79.one ?_
   intro w84 hwf hbf
   have hkf:=hkc79.to (q:=fun _=>True) (fun b h1 h2=>⟨trivial,hbf.block b h2 h1 h1⟩) hbf.size
   have hsf:Below Z9.heap.size Z9 w84:=hs.trans (hbf.below hs.size hgw65 hgw65)
   refine⟨hsf,?_⟩
   go_frame
   refine tree_end ?_
   go_wp2
   go_meet
   case rel=>exact⟨_,c79,rfl,hwf,hkc79.len,hkf.one,hkf.exp,hsf⟩
 case rest=>
 obtain⟨p10,c4,rfl,hw5,hlc4,hoc4,hxc4,hs5⟩:=hcut
 obtain⟨w5,hw5e⟩:∃ z,z= wc:=⟨_,rfl⟩
 subst hw5e
 have HW5:Hid (Below w.heap.size w w5):=hid (HZW.out.trans (hs5.mono HZW.out.size))
 have HE4:Hid (ExpAt w5 w5.heap.size c4 backE):=hid hxc4
 have HL4:=hid hlc4
 have HX10:=hid hw5
 have HZ95:=hid hs5
 have HP10:Hid (p10 < w5.heap.size):=hid hw5.lt
 have HI0:=hid hi0
 have HZ0:=hid hz0
 have HXAZ:=hid hxa
 have HXBZ:=hid hxb
 have HEA:=hid hea
 have HEB:=hid heb
 have HV1W:Hid (∀ z,Below w.heap.size w z→Below W2.heap.size W2 z→SlAt z z.heap.size 11 (VarAt z z.heap.size) (.slice (some ⟨w.heap.size,0,none⟩) 2 2) [mnV,mnW]):=hid fun z _ hb=>sl_boxed2 rfl rfl (HV1.out.keep (hb.block _ HV1.out.lt)).range (nmV_at mA (by decide +kernel) _ _) (nmV_at mB (by decide +kernel) _ _) (Nat.lt_of_lt_of_le HV1.out.lt hb.size)
 have HV2W:Hid (∀ z,Below w.heap.size w z→Below W2.heap.size W2 z→SlAt z z.heap.size 6 (ValAt z z.heap.size) (.slice (some ⟨w.heap.size+1,0,none⟩) 2 2) [vI a,vI b]):=hid fun z _ hb=>sl_boxed2 rfl rfl (HV2.out.keep (hb.block _ HV2.out.lt)).range (intV_at a HA.out _ _) (intV_at b HB.out _ _) (Nat.lt_of_lt_of_le HV2.out.lt hb.size)
 have HB25:Hid (Below W2.heap.size W2 w5):=hid (HB9.out.trans (hs5.mono HB9.out.size))
 have HEV:=hid (eval_c backE [mnV,mnW] [vI a,vI b] c4 _ _ w5 HE4.out (HV1W.out w5 HW5.out HB25.out) (HV2W.out w5 HW5.out HB25.out) (by show 2≤10000;decide) (by show 2≤10000;decide) (HTB.out.next HW5.out))
 clear hs hs5 hw5 hi0 hz0 hz1 hz2 hxa hxb hea heb hlc4 hoc4 hxc4
 have HXR:=hid HX10.out.range
 go_upto_region 7 with (first|((with_reducible refine wl_sload 29 _ rfl ?hwa p10 0 c4 _ rfl HXR.out Tryz.underlying29 rfl ?hia ?_);(case hwa=>(first|exact wanted_none rfl|exact wanted_if rfl rfl rfl rfl));(case hia=>rw[HL4.out];kernel_rfl))|(go_at_call 14;refine HEV.out.mono ?_;rintro e y1 ⟨cs1,rfl,hk,hr,hb⟩;have HC1:=hid (val_one hk.val).1;have HO1:=hid (val_one hk.val).2;have HK1:=hid hk.val;have HBY1:=hid hb;clear hk hr hb)|((with_reducible refine wl_sbox 26 _ _ rfl ?hwx y1 ?zz cs1 ?hwld ?hz ?hx ?hy ?hi ?h1 ?_);(case hwld=>rfl);(case hx=>rfl);(case hy=>rfl);(case hwx=>(first|exact wanted_none rfl|exact wanted_if rfl rfl rfl rfl));(case hz=>rw[HC1.out];rfl);(case hi=>rw[HC1.out];kernel_rfl);(case h1=>exact HO1.out);intro Z6 hZ;have HXB1:=hid hZ;clear hZ))
 have HB56:Hid (Below w5.heap.size w5 Z6):=hid (HBY1.out.trans (HXB1.out.below.mono HBY1.out.size))
 have HZ96:Hid (Below Z9.heap.size Z9 Z6):=hid (HZ95.out.trans (HB56.out.mono HZ95.out.size))
 have HW6:Hid (Below w.heap.size w Z6):=hid (HW5.out.trans (HB56.out.mono HW5.out.size))
 have HR11:=hid HXB1.out.range
 have HL11:Hid (y1.heap.size < Z6.heap.size):=hid HXB1.out.size
 obtain⟨p11,hp11⟩:∃ p,y1.heap.size= p:=⟨_,rfl⟩
 rw[hp11] at HR11 HL11
 rw[hp11]
 clear hp11 HXB1
 have HB26:Hid (Below W2.heap.size W2 Z6):=hid (HB9.out.trans (HZ96.out.mono HB9.out.size))
 have hi0:=HI0.out
 have hz0:=HZ0.out
 have hxa:∀ z,Below Z6.heap.size Z6 z→Whole 29 z pA (varC mA):=fun z hz=>HXAZ.out z (HZ96.out.trans (hz.mono HZ96.out.size))
 have hxb:∀ z,Below Z6.heap.size Z6 z→Whole 29 z (pA+1) (varC mB):=fun z hz=>HXBZ.out z (HZ96.out.trans (hz.mono HZ96.out.size))
 have hea:=HEA.out
 have heb:=HEB.out
 have hs:Below Z6.heap.size Z6 Z6.drew:=(Below.refl _ Z6).drew
 go_cut [13,14] (fun v n z=>∃ p c,v= .pointer (some ⟨p,0,none⟩)∧n= .int .i64 (resV (evalT diffE [mnV,mnW] [vI a,vI b])).2∧Whole 26 z p c∧c[1]?= some (.int .i64 (vnum (resV (evalT diffE [mnV,mnW] [vI a,vI b])).1))∧Below Z6.heap.size Z6 z)
 case first=>
  refine wp_region_tree (.take 0 (.take 1 (.take 2 (.take 3 (.take 5 (.take 7 (.take 8 (.two 4 13 (.two 6 13 (.two 9 13 (.take 10 (.take 11 (.take 12 (.act 13 (.act 14 (.take 15 .done)))))) (.act 9 (.take 10 (.take 11 (.take 12 (.act 14 (.take 15 .done))))))) (.act 6 (.act 9 (.take 10 (.take 11 (.take 12 (.act 14 (.take 15 .done)))))))) (.act 4 (.act 6 (.act 9 (.take 10 (.take 11 (.take 12 (.act 14 (.take 15 .done)))))))))))))))) (fun z=>Below Z6.heap.size Z6 z) (by kernel_rfl) (by kernel_rfl) (by kernel_rfl) rfl (by intro c a d v w h;cases d<;>exact h) ?_
  refine tree_move (some 48) (.func (.func 23) #[] #[]) _ _ rfl rfl rfl (by first|exact wanted_none rfl|exact wanted_if rfl rfl rfl rfl) hs rfl ?_
  go_frame
  refine tree_move (some 49) (.func (.func 23) #[] #[]) _ _ rfl rfl rfl (by first|exact wanted_none rfl|exact wanted_if rfl rfl rfl rfl) hs rfl ?_
  go_frame
  refine tree_load (some 50) (.agg ⟨varC mA⟩) _ rfl rfl (by first|exact wanted_none rfl|exact wanted_if rfl rfl rfl rfl) hs (fun z hz=>exec_sload 29 rfl (pA) 0 (varC mA) _ rfl (hxa z hz).range Tryz.underlying29 rfl (by kernel_rfl)) ?_
  go_frame
  refine tree_load (some 51) (.agg ⟨varC mB⟩) _ rfl rfl (by first|exact wanted_none rfl|exact wanted_if rfl rfl rfl rfl) hs (fun z hz=>exec_sload 29 rfl (pA+1) 0 (varC mB) _ rfl (hxb z hz).range Tryz.underlying29 rfl (by kernel_rfl)) ?_
  go_frame
  refine tree_load (some 53) (.agg ⟨varC mB⟩) _ rfl rfl (by first|exact wanted_none rfl|exact wanted_if rfl rfl rfl rfl) hs (fun z hz=>exec_sload 29 rfl (pA+1) 0 (varC mB) _ rfl (hxb z hz).range Tryz.underlying29 rfl (by kernel_rfl)) ?_
  go_frame
  refine tree_move (some 55) (.slice (some ⟨w.heap.size,0,none⟩) 2 2) _ _ rfl rfl rfl (by first|exact wanted_none rfl|exact wanted_if rfl rfl rfl rfl) hs rfl ?_
  go_frame
  refine tree_move (some 56) (.slice (some ⟨w.heap.size+1,0,none⟩) 2 2) _ _ rfl rfl rfl (by first|exact wanted_none rfl|exact wanted_if rfl rfl rfl rfl) hs rfl ?_
  go_frame
  refine tree_two10 ?_ ?_
  ·refine tree_toV10 (some 52) 23 Tryz.func23 (by kernel_rfl) (by kernel_rfl) [.int .i64 5,.agg ⟨varC mA⟩,.agg ⟨varC mB⟩] _ _ _ _ rfl rfl rfl (by first|exact wanted_none rfl|exact wanted_if rfl rfl rfl rfl) rfl rfl ?_
   refine(mtwo_k (fun _=>True) 5 (wf_int 5 (by decide +kernel)) (varC mA) (varC mB) (varE mA) (varE mB) Z6.drew (var_kept (fun _=>True) Z6.drew mA (by decide +kernel)) (var_kept (fun _=>True) Z6.drew mB (by decide +kernel)) (fun _ _=>trivial)).mono ?_
   rintro e w1 ⟨c2,rfl,hkc2,hbc2⟩
   have hs:Below Z6.heap.size Z6 w1:=hs.trans (hbc2.mono hs.size)
   refine⟨_,rfl,hs,?_⟩
   go_frame
   refine tree_two10 ?_ ?_
   ·refine tree_toV10 (some 54) 23 Tryz.func23 (by kernel_rfl) (by kernel_rfl) [.int .i64 6,.agg ⟨c2⟩,.agg ⟨varC mB⟩] _ _ _ _ rfl rfl rfl (by first|exact wanted_none rfl|exact wanted_if rfl rfl rfl rfl) rfl rfl ?_
    refine(mtwo_k (fun _=>True) 6 (wf_int 6 (by decide +kernel)) (c2) (varC mB) (twoE 5 (varE mA) (varE mB)) (varE mB) w1 hkc2 (var_kept (fun _=>True) w1 mB (by decide +kernel)) (fun _ _=>trivial)).mono ?_
    rintro e w3 ⟨c4,rfl,hkc4,hbc4⟩
    have hs:Below Z6.heap.size Z6 w3:=hs.trans (hbc4.mono hs.size)
    refine⟨_,rfl,hs,?_⟩
    go_frame
    have hm5:=hkc2.to (q:=(fun _=>True)) (fun b h1 h2=>⟨h1,hbc4.block b h2⟩) hbc4.size
    refine tree_two10 ?_ ?_
    ·have hwy6:Below w.heap.size w w3:=HW6.out.trans (hs.mono HW6.out.size)
     have hvy6:Below W2.heap.size W2 w3:=HB26.out.trans (hs.mono HB26.out.size)
     refine tree_to (some 57) 14 Tryz.func14 (by kernel_rfl) (by kernel_rfl) [.agg ⟨c4⟩,.slice (some ⟨w.heap.size,0,none⟩) 2 2,.slice (some ⟨w.heap.size+1,0,none⟩) 2 2] _ _ _ rfl rfl rfl (by first|exact wanted_none rfl|exact wanted_if rfl rfl rfl rfl) rfl ?_
     refine(eval_c diffE [mnV,mnW] [vI a,vI b] c4 _ _ w3 hkc4.exp (HV1W.out w3 hwy6 hvy6) (HV2W.out w3 hwy6 hvy6) (by show 2≤10000;decide) (by show 2≤10000;decide) (HTB.out.next hwy6)).mono ?_
     rintro e y6 ⟨v7,rfl,hkv7,hrv7,hbv7⟩
     have hlv7:=(val_one hkv7.val).1
     have hov7:=(val_one hkv7.val).2
     have hnv7:=val_num hkv7.val
     have hs:Below Z6.heap.size Z6 y6:=hs.trans (hbv7.mono hs.size)
     refine⟨_,rfl,hs,?_⟩
     go_frame
     refine tree_move (some 47) (.tuple #[.agg ⟨v7⟩,.int .i64 (resV (evalT diffE [mnV,mnW] [vI a,vI b])).2]) _ _ rfl rfl rfl (by first|exact wanted_none rfl|exact wanted_if rfl rfl rfl rfl) hs rfl ?_
     go_frame
     refine tree_load (some 58) (.agg ⟨v7⟩) _ rfl rfl (by first|exact wanted_none rfl|exact wanted_if rfl rfl rfl rfl) hs (fun z hz=>by go_simp) ?_
     go_frame
     refine tree_load (some 59) (.int .i64 (resV (evalT diffE [mnV,mnW] [vI a,vI b])).2) _ rfl rfl (by first|exact wanted_none rfl|exact wanted_if rfl rfl rfl rfl) hs (fun z hz=>by go_simp) ?_
     go_frame
     refine tree_run10 (some 13) (.pointer (some ⟨y6.heap.size,0,none⟩)) (y6.alloc (.cells zV6.toArray 26)) _ rfl rfl (by first|exact wanted_none rfl|exact wanted_if rfl rfl rfl rfl) (exec_alloc 26 rfl _ _ HI2.out HZ2.out) (hs.trans ((box_below y6 _).mono hs.size)) ?_
     go_frame
     have hbw9:=box_below y6 (.cells zV6.toArray 26)
     have hww9:Whole 26 (y6.alloc (.cells zV6.toArray 26)) y6.heap.size zV6:=Whole.new y6 zV6 26
     have hgw9:Z6.heap.size≤y6.heap.size:=hs.size
     have hs:Below Z6.heap.size Z6 (y6.alloc (.cells zV6.toArray 26)):=hs.trans (hbw9.mono hs.size)
     generalize y6.alloc (.cells zV6.toArray 26)= w9 at*
     refine tree_wstore10 none 26 _ _ _ rfl rfl rfl (by first|exact wanted_none rfl|exact wanted_if rfl rfl rfl rfl) y6.heap.size zV6 v7 hww9 (by rw[hlv7];rfl) rfl rfl (by rw[hlv7];kernel_rfl) hov7 ?_
     intro w10 hwf hbf
     have hsf:Below Z6.heap.size Z6 w10:=hs.trans (hbf.below hs.size hgw9 hgw9)
     refine⟨hsf,?_⟩
     go_frame
     refine tree_assign (some 14) (.int .i64 (resV (evalT diffE [mnV,mnW] [vI a,vI b])).2) _ _ rfl rfl rfl (by first|exact wanted_none rfl|exact wanted_if rfl rfl rfl rfl) hsf rfl ?_
     go_frame
     refine tree_end ?_
     go_wp2
     go_meet
     case rel=>exact⟨_,v7,rfl,rfl,hwf,hnv7,hsf⟩
    ·refine tree_run10 (some 13) (.pointer (some ⟨w3.heap.size,0,none⟩)) (w3.alloc (.cells zV6.toArray 26)) _ rfl rfl (by first|exact wanted_none rfl|exact wanted_if rfl rfl rfl rfl) (exec_alloc 26 rfl _ _ HI2.out HZ2.out) (hs.trans ((box_below w3 _).mono hs.size)) ?_
     go_frame
     have hbw11:=box_below w3 (.cells zV6.toArray 26)
     have hww11:Whole 26 (w3.alloc (.cells zV6.toArray 26)) w3.heap.size zV6:=Whole.new w3 zV6 26
     have hgw11:Z6.heap.size≤w3.heap.size:=hs.size
     have hs:Below Z6.heap.size Z6 (w3.alloc (.cells zV6.toArray 26)):=hs.trans (hbw11.mono hs.size)
     generalize w3.alloc (.cells zV6.toArray 26)= w11 at*
     have hm12:=kept_cut hm5 hbw11
     have hm13:=kept_cut hkc4 hbw11
     have hwy14:Below w.heap.size w w11:=HW6.out.trans (hs.mono HW6.out.size)
     have hvy14:Below W2.heap.size W2 w11:=HB26.out.trans (hs.mono HB26.out.size)
     refine tree_to (some 57) 14 Tryz.func14 (by kernel_rfl) (by kernel_rfl) [.agg ⟨c4⟩,.slice (some ⟨w.heap.size,0,none⟩) 2 2,.slice (some ⟨w.heap.size+1,0,none⟩) 2 2] _ _ _ rfl rfl rfl (by first|exact wanted_none rfl|exact wanted_if rfl rfl rfl rfl) rfl ?_
     refine(eval_c diffE [mnV,mnW] [vI a,vI b] c4 _ _ w11 hm13.exp (HV1W.out w11 hwy14 hvy14) (HV2W.out w11 hwy14 hvy14) (by show 2≤10000;decide) (by show 2≤10000;decide) (HTB.out.next hwy14)).mono ?_
     rintro e y14 ⟨v15,rfl,hkv15,hrv15,hbv15⟩
     have hlv15:=(val_one hkv15.val).1
     have hov15:=(val_one hkv15.val).2
     have hnv15:=val_num hkv15.val
     have hs:Below Z6.heap.size Z6 y14:=hs.trans (hbv15.mono hs.size)
     refine⟨_,rfl,hs,?_⟩
     go_frame
     have hw16:=hww11.keep (hbv15.block _ hww11.lt)
     refine tree_move (some 47) (.tuple #[.agg ⟨v15⟩,.int .i64 (resV (evalT diffE [mnV,mnW] [vI a,vI b])).2]) _ _ rfl rfl rfl (by first|exact wanted_none rfl|exact wanted_if rfl rfl rfl rfl) hs rfl ?_
     go_frame
     refine tree_load (some 58) (.agg ⟨v15⟩) _ rfl rfl (by first|exact wanted_none rfl|exact wanted_if rfl rfl rfl rfl) hs (fun z hz=>by go_simp) ?_
     go_frame
     refine tree_load (some 59) (.int .i64 (resV (evalT diffE [mnV,mnW] [vI a,vI b])).2) _ rfl rfl (by first|exact wanted_none rfl|exact wanted_if rfl rfl rfl rfl) hs (fun z hz=>by go_simp) ?_
     go_frame
     refine tree_wstore10 none 26 _ _ _ rfl rfl rfl (by first|exact wanted_none rfl|exact wanted_if rfl rfl rfl rfl) w3.heap.size zV6 v15 hw16 (by rw[hlv15];rfl) rfl rfl (by rw[hlv15];kernel_rfl) hov15 ?_
     intro w17 hwf hbf
     have hsf:Below Z6.heap.size Z6 w17:=hs.trans (hbf.below hs.size hgw11 hgw11)
     refine⟨hsf,?_⟩
     go_frame
     refine tree_assign (some 14) (.int .i64 (resV (evalT diffE [mnV,mnW] [vI a,vI b])).2) _ _ rfl rfl rfl (by first|exact wanted_none rfl|exact wanted_if rfl rfl rfl rfl) hsf rfl ?_
     go_frame
     refine tree_end ?_
     go_wp2
     go_meet
     case rel=>exact⟨_,v15,rfl,rfl,hwf,hnv15,hsf⟩
   ·refine tree_run10 (some 13) (.pointer (some ⟨w1.heap.size,0,none⟩)) (w1.alloc (.cells zV6.toArray 26)) _ rfl rfl (by first|exact wanted_none rfl|exact wanted_if rfl rfl rfl rfl) (exec_alloc 26 rfl _ _ HI2.out HZ2.out) (hs.trans ((box_below w1 _).mono hs.size)) ?_
    go_frame
    have hbw18:=box_below w1 (.cells zV6.toArray 26)
    have hww18:Whole 26 (w1.alloc (.cells zV6.toArray 26)) w1.heap.size zV6:=Whole.new w1 zV6 26
    have hgw18:Z6.heap.size≤w1.heap.size:=hs.size
    have hs:Below Z6.heap.size Z6 (w1.alloc (.cells zV6.toArray 26)):=hs.trans (hbw18.mono hs.size)
    generalize w1.alloc (.cells zV6.toArray 26)= w18 at*
    have hm19:=kept_cut hkc2 hbw18
    refine tree_toV10 (some 54) 23 Tryz.func23 (by kernel_rfl) (by kernel_rfl) [.int .i64 6,.agg ⟨c2⟩,.agg ⟨varC mB⟩] _ _ _ _ rfl rfl rfl (by first|exact wanted_none rfl|exact wanted_if rfl rfl rfl rfl) rfl rfl ?_
    refine(mtwo_k (fun b=>b≠w1.heap.size) 6 (wf_int 6 (by decide +kernel)) (c2) (varC mB) (twoE 5 (varE mA) (varE mB)) (varE mB) w18 hm19 (var_kept (fun b=>b≠w1.heap.size) w18 mB (by decide +kernel)) (fun b h=>Nat.ne_of_gt (Nat.lt_of_lt_of_le hww18.lt h))).mono ?_
    rintro e w20 ⟨c21,rfl,hkc21,hbc21⟩
    have hs:Below Z6.heap.size Z6 w20:=hs.trans (hbc21.mono hs.size)
    refine⟨_,rfl,hs,?_⟩
    go_frame
    have hm22:=hm19.to (q:=(fun b=>b≠w1.heap.size)) (fun b h1 h2=>⟨h1,hbc21.block b h2⟩) hbc21.size
    have hw23:=hww18.keep (hbc21.block _ hww18.lt)
    have hwy24:Below w.heap.size w w20:=HW6.out.trans (hs.mono HW6.out.size)
    have hvy24:Below W2.heap.size W2 w20:=HB26.out.trans (hs.mono HB26.out.size)
    refine tree_to (some 57) 14 Tryz.func14 (by kernel_rfl) (by kernel_rfl) [.agg ⟨c21⟩,.slice (some ⟨w.heap.size,0,none⟩) 2 2,.slice (some ⟨w.heap.size+1,0,none⟩) 2 2] _ _ _ rfl rfl rfl (by first|exact wanted_none rfl|exact wanted_if rfl rfl rfl rfl) rfl ?_
    refine(eval_c diffE [mnV,mnW] [vI a,vI b] c21 _ _ w20 hkc21.exp (HV1W.out w20 hwy24 hvy24) (HV2W.out w20 hwy24 hvy24) (by show 2≤10000;decide) (by show 2≤10000;decide) (HTB.out.next hwy24)).mono ?_
    rintro e y24 ⟨v25,rfl,hkv25,hrv25,hbv25⟩
    have hlv25:=(val_one hkv25.val).1
    have hov25:=(val_one hkv25.val).2
    have hnv25:=val_num hkv25.val
    have hs:Below Z6.heap.size Z6 y24:=hs.trans (hbv25.mono hs.size)
    refine⟨_,rfl,hs,?_⟩
    go_frame
    have hw26:=hw23.keep (hbv25.block _ hw23.lt)
    refine tree_move (some 47) (.tuple #[.agg ⟨v25⟩,.int .i64 (resV (evalT diffE [mnV,mnW] [vI a,vI b])).2]) _ _ rfl rfl rfl (by first|exact wanted_none rfl|exact wanted_if rfl rfl rfl rfl) hs rfl ?_
    go_frame
    refine tree_load (some 58) (.agg ⟨v25⟩) _ rfl rfl (by first|exact wanted_none rfl|exact wanted_if rfl rfl rfl rfl) hs (fun z hz=>by go_simp) ?_
    go_frame
    refine tree_load (some 59) (.int .i64 (resV (evalT diffE [mnV,mnW] [vI a,vI b])).2) _ rfl rfl (by first|exact wanted_none rfl|exact wanted_if rfl rfl rfl rfl) hs (fun z hz=>by go_simp) ?_
    go_frame
    refine tree_wstore10 none 26 _ _ _ rfl rfl rfl (by first|exact wanted_none rfl|exact wanted_if rfl rfl rfl rfl) w1.heap.size zV6 v25 hw26 (by rw[hlv25];rfl) rfl rfl (by rw[hlv25];kernel_rfl) hov25 ?_
    intro w27 hwf hbf
    have hsf:Below Z6.heap.size Z6 w27:=hs.trans (hbf.below hs.size hgw18 hgw18)
    refine⟨hsf,?_⟩
    go_frame
    refine tree_assign (some 14) (.int .i64 (resV (evalT diffE [mnV,mnW] [vI a,vI b])).2) _ _ rfl rfl rfl (by first|exact wanted_none rfl|exact wanted_if rfl rfl rfl rfl) hsf rfl ?_
    go_frame
    refine tree_end ?_
    go_wp2
    go_meet
    case rel=>exact⟨_,v25,rfl,rfl,hwf,hnv25,hsf⟩
  ·refine tree_run10 (some 13) (.pointer (some ⟨Z6.drew.heap.size,0,none⟩)) (Z6.drew.alloc (.cells zV6.toArray 26)) _ rfl rfl (by first|exact wanted_none rfl|exact wanted_if rfl rfl rfl rfl) (exec_alloc 26 rfl _ _ HI2.out HZ2.out) (hs.trans ((box_below Z6.drew _).mono hs.size)) ?_
   go_frame
   have hbw28:=box_below Z6.drew (.cells zV6.toArray 26)
   have hww28:Whole 26 (Z6.drew.alloc (.cells zV6.toArray 26)) Z6.drew.heap.size zV6:=Whole.new Z6.drew zV6 26
   have hgw28:Z6.heap.size≤Z6.drew.heap.size:=hs.size
   have hs:Below Z6.heap.size Z6 (Z6.drew.alloc (.cells zV6.toArray 26)):=hs.trans (hbw28.mono hs.size)
   generalize Z6.drew.alloc (.cells zV6.toArray 26)= w28 at*
   refine tree_toV10 (some 52) 23 Tryz.func23 (by kernel_rfl) (by kernel_rfl) [.int .i64 5,.agg ⟨varC mA⟩,.agg ⟨varC mB⟩] _ _ _ _ rfl rfl rfl (by first|exact wanted_none rfl|exact wanted_if rfl rfl rfl rfl) rfl rfl ?_
   refine(mtwo_k (fun b=>b≠Z6.drew.heap.size) 5 (wf_int 5 (by decide +kernel)) (varC mA) (varC mB) (varE mA) (varE mB) w28 (var_kept (fun b=>b≠Z6.drew.heap.size) w28 mA (by decide +kernel)) (var_kept (fun b=>b≠Z6.drew.heap.size) w28 mB (by decide +kernel)) (fun b h=>Nat.ne_of_gt (Nat.lt_of_lt_of_le hww28.lt h))).mono ?_
   rintro e w29 ⟨c30,rfl,hkc30,hbc30⟩
   have hs:Below Z6.heap.size Z6 w29:=hs.trans (hbc30.mono hs.size)
   refine⟨_,rfl,hs,?_⟩
   go_frame
   have hw31:=hww28.keep (hbc30.block _ hww28.lt)
   refine tree_toV10 (some 54) 23 Tryz.func23 (by kernel_rfl) (by kernel_rfl) [.int .i64 6,.agg ⟨c30⟩,.agg ⟨varC mB⟩] _ _ _ _ rfl rfl rfl (by first|exact wanted_none rfl|exact wanted_if rfl rfl rfl rfl) rfl rfl ?_
   refine(mtwo_k (fun b=>b≠Z6.drew.heap.size) 6 (wf_int 6 (by decide +kernel)) (c30) (varC mB) (twoE 5 (varE mA) (varE mB)) (varE mB) w29 hkc30 (var_kept (fun b=>b≠Z6.drew.heap.size) w29 mB (by decide +kernel)) (fun b h=>Nat.ne_of_gt (Nat.lt_of_lt_of_le hw31.lt h))).mono ?_
   rintro e w32 ⟨c33,rfl,hkc33,hbc33⟩
   have hs:Below Z6.heap.size Z6 w32:=hs.trans (hbc33.mono hs.size)
   refine⟨_,rfl,hs,?_⟩
   go_frame
   have hm34:=hkc30.to (q:=(fun b=>b≠Z6.drew.heap.size)) (fun b h1 h2=>⟨h1,hbc33.block b h2⟩) hbc33.size
   have hw35:=hw31.keep (hbc33.block _ hw31.lt)
   have hwy36:Below w.heap.size w w32:=HW6.out.trans (hs.mono HW6.out.size)
   have hvy36:Below W2.heap.size W2 w32:=HB26.out.trans (hs.mono HB26.out.size)
   refine tree_to (some 57) 14 Tryz.func14 (by kernel_rfl) (by kernel_rfl) [.agg ⟨c33⟩,.slice (some ⟨w.heap.size,0,none⟩) 2 2,.slice (some ⟨w.heap.size+1,0,none⟩) 2 2] _ _ _ rfl rfl rfl (by first|exact wanted_none rfl|exact wanted_if rfl rfl rfl rfl) rfl ?_
   refine(eval_c diffE [mnV,mnW] [vI a,vI b] c33 _ _ w32 hkc33.exp (HV1W.out w32 hwy36 hvy36) (HV2W.out w32 hwy36 hvy36) (by show 2≤10000;decide) (by show 2≤10000;decide) (HTB.out.next hwy36)).mono ?_
   rintro e y36 ⟨v37,rfl,hkv37,hrv37,hbv37⟩
   have hlv37:=(val_one hkv37.val).1
   have hov37:=(val_one hkv37.val).2
   have hnv37:=val_num hkv37.val
   have hs:Below Z6.heap.size Z6 y36:=hs.trans (hbv37.mono hs.size)
   refine⟨_,rfl,hs,?_⟩
   go_frame
   have hw38:=hw35.keep (hbv37.block _ hw35.lt)
   refine tree_move (some 47) (.tuple #[.agg ⟨v37⟩,.int .i64 (resV (evalT diffE [mnV,mnW] [vI a,vI b])).2]) _ _ rfl rfl rfl (by first|exact wanted_none rfl|exact wanted_if rfl rfl rfl rfl) hs rfl ?_
   go_frame
   refine tree_load (some 58) (.agg ⟨v37⟩) _ rfl rfl (by first|exact wanted_none rfl|exact wanted_if rfl rfl rfl rfl) hs (fun z hz=>by go_simp) ?_
   go_frame
   refine tree_load (some 59) (.int .i64 (resV (evalT diffE [mnV,mnW] [vI a,vI b])).2) _ rfl rfl (by first|exact wanted_none rfl|exact wanted_if rfl rfl rfl rfl) hs (fun z hz=>by go_simp) ?_
   go_frame
   refine tree_wstore10 none 26 _ _ _ rfl rfl rfl (by first|exact wanted_none rfl|exact wanted_if rfl rfl rfl rfl) Z6.drew.heap.size zV6 v37 hw38 (by rw[hlv37];rfl) rfl rfl (by rw[hlv37];kernel_rfl) hov37 ?_
   intro w39 hwf hbf
   have hsf:Below Z6.heap.size Z6 w39:=hs.trans (hbf.below hs.size hgw28 hgw28)
   refine⟨hsf,?_⟩
   go_frame
   refine tree_assign (some 14) (.int .i64 (resV (evalT diffE [mnV,mnW] [vI a,vI b])).2) _ _ rfl rfl rfl (by first|exact wanted_none rfl|exact wanted_if rfl rfl rfl rfl) hsf rfl ?_
   go_frame
   refine tree_end ?_
   go_wp2
   go_meet
   case rel=>exact⟨_,v37,rfl,rfl,hwf,hnv37,hsf⟩
 case rest=>
 obtain⟨p13,c13,rfl,rfl,hw7,hn7,hs7⟩:=hcut
 obtain⟨w7,hw7e⟩:∃ z,z= wc:=⟨_,rfl⟩
 subst hw7e
 have HW7:Hid (Below w.heap.size w w7):=hid (HW6.out.trans (hs7.mono HW6.out.size))
 have HR11b:Hid (w7.rangeAt p11 0 cs1):=hid (rangeAt_below HR11.out hs7 HL11.out)
 have HL13:Hid (p13 < w7.heap.size∧p11 < w7.heap.size):=hid ⟨hw7.lt,Nat.lt_of_lt_of_le HL11.out hs7.size⟩
 have HAW:=hid (awake10 w7 (HTB.out.next HW7.out))
 have HC11:Hid (w7.cell? ⟨p11,1,none⟩= some (.int .i64 (vnum (resV (evalT backE [mnV,mnW] [vI a,vI b])).1))):=hid (by have:=HR11b.out 1 _ (val_num HK1.out);rwa [Nat.zero_add] at this)
 have HC13:Hid (w7.cell? ⟨p13,1,none⟩= some (.int .i64 (vnum (resV (evalT diffE [mnV,mnW] [vI a,vI b])).1))):=hid (by have:=hw7.range 1 _ hn7;rwa [Nat.zero_add] at this)
 obtain⟨m1,hv1⟩:∃ n,vnum (resV (evalT backE [mnV,mnW] [vI a,vI b])).1= n:=⟨_,rfl⟩
 obtain⟨m2,hv2⟩:∃ n,vnum (resV (evalT diffE [mnV,mnW] [vI a,vI b])).1= n:=⟨_,rfl⟩
 rw[hv1] at HC11
 rw[hv2] at HC13
 obtain⟨n1,hn1⟩:∃ n,(resV (evalT backE [mnV,mnW] [vI a,vI b])).2= n:=⟨_,rfl⟩
 obtain⟨n2,hn2⟩:∃ n,(resV (evalT diffE [mnV,mnW] [vI a,vI b])).2= n:=⟨_,rfl⟩
 rw[hn1,hn2]
 have hwa:=HA.out
 have hwb:=HB.out
 have ha64:i64R a:=wf_i64 hwa
 have hb64:i64R b:=wf_i64 hwb
 rw[math_back ha64 hb64] at hv1 hn1
 rw[math_diff ha64 hb64] at hv2 hn2
 clear hwa hwb HR11b hs7 hw7 hn7 hs hi0 hz0 hxa hxb hea heb HEV HK1 HR11 HC1 HO1
 have res_eq:∀ (r:Res) (m n:Int),vnum (resV r).1= m→(resV r).2= n→(∀ x,r= .ok (vI x)→x= m∧0= n)∧(∀ e,r= .error e→0= m∧e= n):=by
  intro r m n h1 h2
  refine⟨fun x hx=> ?_,fun e he=> ?_⟩
  ·subst hx;exact⟨h1,h2⟩
  ·subst he;exact⟨h1,h2⟩
 have R1:=res_eq _ _ _ hv1 hn1
 have R2:=res_eq _ _ _ hv2 hn2
 clear hv1 hn1 hv2 hn2 res_eq
 have HR1:=hid R1
 have HR2:=hid R2
 have HA6:=hid ha64
 have HB6:=hid hb64
 clear R1 R2 ha64 hb64
 obtain⟨s,hws⟩:∃ s,IntKind.i64.wrap (a+b)= s:=⟨_,rfl⟩
 have HWS:=hid hws
 by_cases hb0:b= 0
 ·subst hb0
  obtain⟨rfl,rfl⟩:=HR1.out.2 8 (if_pos rfl)
  obtain⟨rfl,rfl⟩:=HR2.out.1 a (if_pos (by have:=HA6.out;unfold i64R at*;omega))
  have e0:s= a:=by have h:=HWS.out;have:=HA6.out;unfold i64R at this;rw[IntKind.wrap_i64] at h;omega
  rw[Int.add_zero] at hws
  subst e0
  have q1:decide (s < s)= false:=by simp
  clear HWS
  go_wp2_with (go_at_call 10;refine HAW.out.mono ?_;rintro e y ⟨rfl,hb⟩;have HBY:=hid hb;have d11:=(hb.cell (p:=⟨p11,1,none⟩) HL13.out.2).trans HC11.out;have d13:=(hb.cell (p:=⟨p13,1,none⟩) HL13.out.1).trans HC13.out;clear hb)
  go_ret
  exact⟨rfl,HW7.out.trans (HBY.out.mono HW7.out.size)⟩
 ·by_cases hb1:b= -1
  ·subst hb1
   by_cases ha1:a= -9223372036854775808
   ·subst ha1
    obtain⟨rfl,rfl⟩:=HR1.out.2 7 (by rw[if_neg (by decide),if_pos (by decide)])
    obtain⟨rfl,rfl⟩:=HR2.out.2 7 (if_neg (by unfold i64R;decide))
    clear HWS hws hb0
    have hws:IntKind.i64.wrap (-9223372036854775808+ -1)= 9223372036854775807:=by decide
    have hws2:IntKind.i64.wrap (-9223372036854775809)= 9223372036854775807:=by decide
    go_wp2_with (go_at_call 10;refine HAW.out.mono ?_;rintro e y ⟨rfl,hb⟩;have HBY:=hid hb;have d11:=(hb.cell (p:=⟨p11,1,none⟩) HL13.out.2).trans HC11.out;have d13:=(hb.cell (p:=⟨p13,1,none⟩) HL13.out.1).trans HC13.out;clear hb)
    go_ret
    exact⟨rfl,HW7.out.trans (HBY.out.mono HW7.out.size)⟩
   ·obtain⟨rfl,rfl⟩:=HR1.out.1 a (by rw[if_neg (by decide),if_neg (fun h=>ha1 h.2)])
    obtain⟨rfl,rfl⟩:=HR2.out.1 a (if_pos (by have:=HA6.out;unfold i64R at*;omega))
    have q0:(a == -9223372036854775808)= false:=by simpa using ha1
    have q1:decide (s < a)= true:=by have h:=HWS.out;have:=HA6.out;unfold i64R at this;rw[IntKind.wrap_i64] at h;rw[decide_eq_true_eq];omega
    have hws2:IntKind.i64.wrap (a - 1)= s:=hws
    clear HWS hb0 ha1
    go_wp2_with (go_at_call 10;refine HAW.out.mono ?_;rintro e y ⟨rfl,hb⟩;have HBY:=hid hb;have d11:=(hb.cell (p:=⟨p11,1,none⟩) HL13.out.2).trans HC11.out;have d13:=(hb.cell (p:=⟨p13,1,none⟩) HL13.out.1).trans HC13.out;clear hb)
    go_ret
    exact⟨rfl,HW7.out.trans (HBY.out.mono HW7.out.size)⟩
  ·obtain⟨rfl,rfl⟩:=HR1.out.1 a (by rw[if_neg hb0,if_neg (fun h=>hb1 h.1)])
   have q0:(b ==0)= false:=by simpa using hb0
   have q1:(b == -1)= false:=by simpa using hb1
   by_cases hr:i64R (a+b)
   ·obtain⟨rfl,rfl⟩:=HR2.out.1 a (if_pos hr)
    by_cases hneg:b < 0
    ·have q2:decide (b < 0)= true:=decide_eq_true hneg
     have q3:decide (s < a)= true:=by have h:=HWS.out;unfold i64R at hr;rw[IntKind.wrap_i64] at h;rw[decide_eq_true_eq];omega
     clear HWS hb0 hb1 hr hneg
     go_wp2_with (go_at_call 10;refine HAW.out.mono ?_;rintro e y ⟨rfl,hb⟩;have HBY:=hid hb;have d11:=(hb.cell (p:=⟨p11,1,none⟩) HL13.out.2).trans HC11.out;have d13:=(hb.cell (p:=⟨p13,1,none⟩) HL13.out.1).trans HC13.out;clear hb)
     go_ret
     exact⟨rfl,HW7.out.trans (HBY.out.mono HW7.out.size)⟩
    ·have q2:decide (b < 0)= false:=decide_eq_false hneg
     have q3:decide (s < a)= false:=by have h:=HWS.out;unfold i64R at hr;rw[IntKind.wrap_i64] at h;rw[decide_eq_false_iff_not];omega
     clear HWS hb0 hb1 hr hneg
     go_wp2_with (go_at_call 10;refine HAW.out.mono ?_;rintro e y ⟨rfl,hb⟩;have HBY:=hid hb;have d11:=(hb.cell (p:=⟨p11,1,none⟩) HL13.out.2).trans HC11.out;have d13:=(hb.cell (p:=⟨p13,1,none⟩) HL13.out.1).trans HC13.out;clear hb)
     go_ret
     exact⟨rfl,HW7.out.trans (HBY.out.mono HW7.out.size)⟩
   ·obtain⟨rfl,rfl⟩:=HR2.out.2 7 (if_neg hr)
    by_cases hneg:b < 0
    ·have q2:decide (b < 0)= true:=decide_eq_true hneg
     have q3:decide (s < a)= false:=by have h:=HWS.out;have h1:=HA6.out;have h2:=HB6.out;unfold i64R at hr h1 h2;rw[IntKind.wrap_i64] at h;rw[decide_eq_false_iff_not];omega
     clear HWS hb0 hb1 hr hneg
     go_wp2_with (go_at_call 10;refine HAW.out.mono ?_;rintro e y ⟨rfl,hb⟩;have HBY:=hid hb;have d11:=(hb.cell (p:=⟨p11,1,none⟩) HL13.out.2).trans HC11.out;have d13:=(hb.cell (p:=⟨p13,1,none⟩) HL13.out.1).trans HC13.out;clear hb)
     go_ret
     exact⟨rfl,HW7.out.trans (HBY.out.mono HW7.out.size)⟩
    ·have q2:decide (b < 0)= false:=decide_eq_false hneg
     have q3:decide (s < a)= true:=by have h:=HWS.out;have h1:=HA6.out;have h2:=HB6.out;unfold i64R at hr h1 h2;rw[IntKind.wrap_i64] at h;rw[decide_eq_true_eq];omega
     clear HWS hb0 hb1 hr hneg
     go_wp2_with (go_at_call 10;refine HAW.out.mono ?_;rintro e y ⟨rfl,hb⟩;have HBY:=hid hb;have d11:=(hb.cell (p:=⟨p11,1,none⟩) HL13.out.2).trans HC11.out;have d13:=(hb.cell (p:=⟨p13,1,none⟩) HL13.out.1).trans HC13.out;clear hb)
     go_ret
     exact⟨rfl,HW7.out.trans (HBY.out.mono HW7.out.size)⟩
end Go.Proofs.YtmpbepjjbaeebaaGreatDoor
