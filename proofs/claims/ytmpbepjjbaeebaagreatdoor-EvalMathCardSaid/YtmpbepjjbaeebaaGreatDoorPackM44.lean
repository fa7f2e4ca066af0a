/- Parts of a proof: Levels. -/
import Derived.Test.YtmpbepjjbaeebaaGreatDoorPackM26
set_option maxHeartbeats 8000000
set_option maxRecDepth 100000
set_option linter.unusedVariables false
set_option linter.unusedSimpArgs false
namespace Go.Proofs.YtmpbepjjbaeebaaGreatDoor
open Go Go.RowKit
open Go.Lib (hid)
section
variable {P:Program} {ops:Array Oper} {rest:List Oper} {o:Oper} {a:Act} {w:World} {Q:Exit→Act→World→Prop}
theorem wl_wbox (T:TypeId) (x y:Operand) (ho:o.op= .store T x y) (hn:o.dst= none) (hw:Region.wanted o (yielded ops a.tmps)= true) (w0:World) (z:Array Value) (cs:List Value) (hwld:w= w0.alloc (.cells z T)) (hz:z.size= cs.length)
  (hx:a.eval x= .pointer (some ⟨w0.heap.size,0,none⟩)) (hy:a.eval y= .agg cs.toArray) (hi:(P.info? T).map (·.size)= some cs.length) (h1:∀ v∈cs,v.oneCell'= true)
  (h:∀ Z,Whole T Z w0.heap.size cs→Below w0.heap.size w0 Z→w0.heap.size < Z.heap.size→wpList P ops Q rest a Z):wpList P ops Q (o::rest) a w:=by
 subst hwld
 refine wl_wstore T x y ho hn hw w0.heap.size z.toList cs (by simpa using Whole.new w0 z.toList T) (by simpa using hz) hx hy hi h1 fun Z hZ hb=>h Z hZ ((box_below w0 _).trans (hb.below (by simp) (Nat.le_refl _) (Nat.le_refl _))) hZ.lt
end
section
variable {pb tb c:Nat} {E:Int} {toks:List Tok}
theorem pc_sum {i j k h:Nat} {x z:ET} (hsub:PCon pb tb c E toks 236 i j h x) (hl:PL 236 [(⟨#[43]⟩,5),(⟨#[45]⟩,6)] h pb tb c E toks x j z k):PCon pb tb c E toks 222 i k h z:=by
 intro w d h h0 hd
 have HSUB:=hid hsub
 have HPL:=hid hl
 clear hsub hl
 go_enter Tryz.func222,Tryz.ntmps222
 go_upto_region 1 with (fail)
 have HR0:=hid (Whole.new w zEc 29)
 have HB0:=hid (box_below w (.cells zEc.toArray 29))
 have hz:(#[Value.int IntKind.i64 0,Value.string { data:= #[] },Value.int IntKind.i64 0,Value.int IntKind.i64 0,Value.float FloatKind.f64 0,Value.string { data:= #[] },Value.slice none 0 0,Value.slice none 0 0,Value.slice none 0 0,Value.slice none 0 0]:Array Value)= zEc.toArray:=rfl
 rw[hz]
 clear hz
 have HRW:Hid (w.heap.size <(w.alloc (.cells zEc.toArray 29)).heap.size):=hid (by simp)
 generalize w.alloc (.cells zEc.toArray 29)= W at*
 obtain⟨p,hp⟩:∃ p,w.heap.size= p:=⟨_,rfl⟩
 rw[hp] at HR0 HRW
 rw[hp]
 have HP:=hid hp
 have HS0:=hid (h.keep HB0.out)
 have HPN:Hid (p≠pb∧p≠tb):=hid ⟨by have:=h.lt;omega,by have:=h.lt;omega⟩
 have H:=hid h
 have HD:=hid (And.intro h0 hd)
 clear hp h h0 hd
 go_upto_region 2 with (first
  |(go_at_call 236;refine(HSUB.out W d HS0.out HD.out.1 HD.out.2).mono ?_;rintro e w1 ⟨cs0,rfl,hk,h1,h2⟩;have hl:=hk.len;have HL0:=hid hl;have HK0:=hid hk;have HS1:=hid h1;have HB1:=hid h2;clear hl hk h1 h2)
  |((with_reducible refine wl_wbox 29 _ _ rfl rfl ?hwe w1 ?zne cs0 ?hz1 ?hz2 ?hz3 ?hz4 ?hz5 ?hz6 ?_);(case hwe=>first|exact wanted_none rfl|exact wanted_if rfl rfl rfl rfl);(case hz1=>rfl);(case hz2=>rw[HL0.out];rfl);(case hz3=>rfl);(case hz4=>rfl);(case hz5=>rw[HL0.out];kernel_rfl);(case hz6=>exact HK0.out.one);intro W2 hz hb hlt;have HX2:=hid hz;have HB2:=hid hb;have HLT2:=hid hlt;clear hz hb hlt))
 obtain⟨X,hX⟩:∃ X,w1.heap.size= X:=⟨_,rfl⟩
 rw[hX] at HX2 HB2 HLT2
 rw[hX]
 have hXX:=hX
 have HXG:Hid (p < X∧X≠pb∧X≠tb):=hid ⟨by have:=HRW.out;have:=HB1.out.size;omega,by have:=HS1.out.lt;omega,by have:=HS1.out.lt;omega⟩
 have hB12:Below w1.heap.size w1 W2:=by rw[hX];exact HB2.out
 have HR2:=hid ((HR0.out.keep (HB1.out.block p HRW.out HPN.out.1 HPN.out.1)).keep (hB12.block p (by rw[hX];exact HXG.out.1)))
 have HS2:=hid (HS1.out.keep hB12)
 have HK2:Hid (KeptP (fun b=>p < b∧b≠X) W2 cs0 x):=hid (HK0.out.to (fun b h1 h2=>⟨⟨by have:=HRW.out;omega,by omega⟩,hB12.block b h2⟩) hB12.size)
 have HBW2:Hid (But w W2 pb pb):=hid ((But.of_below HB0.out pb pb).trans (HB1.out.trans (But.of_below hB12 pb pb)))
 clear hX hXX hB12 HB1 HB2 HLT2 HK0 HS1 HS0 HR0
 go_wp2
 go_loopg [] (toks.length - j) (fun q u=>∃ (x:ET) (i:Nat) (cs:List Value),PL 236 [(⟨#[43]⟩,5),(⟨#[45]⟩,6)] h pb tb c E toks x i z k∧q= toks.length - i∧Whole 29 u X cs∧Whole 29 u p zEc∧KeptP (fun b=>p < b∧b≠X) u cs x∧PSt pb tb c E toks u i d∧But w u pb pb)
 case atStart=>exact⟨x,j,cs0,HPL.out,rfl,HX2.out,HR2.out,HK2.out,HS2.out,HBW2.out⟩
 case round=>
  clear HX2 HR2 HK2 HS2 HBW2 HL0 HPL
  obtain⟨x,i,cs,hpl,hq,hx,hr,hk,hs,hb⟩:=hrel
  have HX:=hid hx
  have HR:=hid hr
  have HK:=hid hk
  have HS:=hid hs
  have HB:=hid hb
  have HGQ:=hid hq
  clear hx hr hk hs hb hq
  cases hpl with
  |done _ _ hno=>
   have HNO:=hid hno
   clear hno
   go_upto_region 4 with (go_at_call 143;refine(take_no HS.out (HNO.out (⟨#[43]⟩,5) (by simp))).mono ?_;rintro e v0 ⟨rfl,h1,h2⟩;have HT0:=hid h1;have HTB0:=hid h2;clear h1 h2)
   go_upto_region 6 with (go_at_call 143;refine(take_no HT0.out (HNO.out (⟨#[45]⟩,6) (by simp))).mono ?_;rintro e v1 ⟨rfl,h1,h2⟩;have HT1:=hid h1;have HTB1:=hid h2;clear h1 h2)
   have HTB:=hid (HTB0.out.trans HTB1.out)
   have HXv:=hid (HX.out.keep (HTB.out.block X HX.out.lt HXG.out.2.1 HXG.out.2.1))
   have HRv:=hid (HR.out.keep (HTB.out.block p HR.out.lt HPN.out.1 HPN.out.1))
   have HKv:Hid (KeptP (fun b=>p < b∧b≠X) v1 cs z):=hid (HK.out.to (fun b h1 h2=>⟨h1,HTB.out.block b h2 (by have:=h1.1;have:=HPN.out;have:=HP.out;have:=H.out.lt;omega) (by have:=h1.1;have:=HPN.out;have:=HP.out;have:=H.out.lt;omega)⟩) HTB.out.size)
   have HBv:=hid (HB.out.trans HTB.out)
   clear HX HR HK
   have HX:=HXv
   have HK:=HKv
   have HXR:=hid (HX.out.range)
   have HLX:=hid (HK.out.len)
   go_wp2_with (first
    |((with_reducible refine wl_sload 29 _ rfl ?hwld X 0 cs _ rfl HXR.out Tryz.underlying29 rfl ?hild ?_);(case hwld=>first|exact wanted_none rfl|exact wanted_if rfl rfl rfl rfl);(case hild=>rw[HLX.out];kernel_rfl))
    |((with_reducible refine wl_wstore 29 _ _ rfl rfl ?hwfd p zEc cs HRv.out ?hs1d ?hs2d ?hs3d ?hs4d ?hs5d ?_);(case hwfd=>first|exact wanted_none rfl|exact wanted_if rfl rfl rfl rfl);(case hs1d=>rw[HLX.out];rfl);(case hs2d=>rfl);(case hs3d=>rfl);(case hs4d=>rw[HLX.out];kernel_rfl);(case hs5d=>exact HK.out.one);intro Z hz hb;have HZ:=hid hz;have HZB:=hid hb;clear hz hb))
   (try simp only[Exit.inBlock,Exit.then])
   refine bodyPost_ret (results_exp rfl _ _ p cs HLX.out rfl HZ.out) rfl ?_
   have hp:=HP.out
   refine⟨cs,rfl,?_,HT1.out.under p HPN.out.1 HPN.out.2 HZB.out,but_last HBv.out HZB.out (by omega)⟩
   exact KeptP.to (q:=fun b=>w.heap.size≤b) HK.out (fun b h1 h2=>⟨by have:=h1.1;show w.heap.size≤b;omega,HZB.out.block b h2 (by have:=h1.1;omega) (by have:=h1.1;omega)⟩) HZB.out.size
  |step _ _ y j z _ sg hmem his hsub hlt hrest=>
   have HSUB2:=hid hsub
   have HREST:=hid hrest
   have HLT:=hid hlt
   have HIS:=hid his
   clear hsub hrest hlt his
   simp only[List.mem_cons,List.not_mem_nil,or_false] at hmem
   rcases hmem with rfl|rfl
   ·go_upto_region 3 with (go_at_call 143;refine(take_yes HS.out HIS.out).mono ?_;rintro e v0 ⟨rfl,h1,h2⟩;have HT0:=hid h1;have HTB0:=hid h2;clear h1 h2)
    have HTB:=hid HTB0.out
    have HXv:=hid (HX.out.keep (HTB.out.block X HX.out.lt HXG.out.2.1 HXG.out.2.1))
    have HRv:=hid (HR.out.keep (HTB.out.block p HR.out.lt HPN.out.1 HPN.out.1))
    have HKv:Hid (KeptP (fun b=>p < b∧b≠X) v0 cs x):=hid (HK.out.to (fun b h1 h2=>⟨h1,HTB.out.block b h2 (by have:=h1.1;have:=HPN.out;have:=HP.out;have:=H.out.lt;omega) (by have:=h1.1;have:=HPN.out;have:=HP.out;have:=H.out.lt;omega)⟩) HTB.out.size)
    have HBv:=hid (HB.out.trans HTB.out)
    have hs:Whole 29 v0.drew X cs:=HXv.out
    refine wp_region_ord_tail 4 [(0,true),(1,true),(2,false),(3,false)]
     (fun z=>Whole 29 z X cs) (by kernel_rfl) (by kernel_rfl) rfl (by intro c a d v w h;cases d<;>exact h) ?_
    refine ord_load (some 8) (.agg ⟨cs⟩) _ rfl rfl (by first|exact wanted_none rfl|exact wanted_if rfl rfl rfl rfl) hs (fun z hz=>exec_sload 29 rfl X 0 cs _ rfl hz.range Tryz.underlying29 rfl (by rw[HK.out.len];kernel_rfl)) ?_
    go_frame
    refine ord_move (some 9) (.pointer (some ⟨pb,0,none⟩)) _ _ rfl rfl rfl (by first|exact wanted_none rfl|exact wanted_if rfl rfl rfl rfl) hs rfl ?_
    go_frame
    refine ord_to (some 10) 236 Tryz.func236 (by kernel_rfl) (by kernel_rfl) [.pointer (some ⟨pb,0,none⟩)] _ _ _ rfl rfl rfl (by first|exact wanted_none rfl|exact wanted_if rfl rfl rfl rfl) rfl ?_
    refine(HSUB2.out v0.drew d (HT0.out.keep (Below.refl _ v0).drew) HD.out.1 HD.out.2).mono ?_
    rintro e w5 ⟨cb,rfl,hkb,h1,h2⟩
    have hlb:=hkb.len
    have hb5:But v0 w5 pb pb:=(But.of_below (Below.refl _ v0).drew pb pb).trans h2
    have hs5:Whole 29 w5 X cs:=HXv.out.keep (hb5.block X HXv.out.lt HXG.out.2.1 HXG.out.2.1)
    refine⟨_,rfl,hs5,?_⟩
    go_frame
    have hka:KeptP (fun b=>p < b∧b≠X) w5 cs x:=HKv.out.to (fun b h1 h2=>⟨h1,hb5.block b h2 (by have:=h1.1;have:=HPN.out;have:=HP.out;have:=H.out.lt;omega) (by have:=h1.1;have:=HPN.out;have:=HP.out;have:=H.out.lt;omega)⟩) hb5.size
    have hkb2:KeptP (fun b=>p < b∧b≠X) w5 cb y:=hkb.to (fun b h1 h2=>⟨⟨by have h3:v0.heap.size≤b:=h1;have:=HRv.out.lt;omega,by have h3:v0.heap.size≤b:=h1;have:=HXv.out.lt;omega⟩,rfl⟩) (Nat.le_refl _)
    refine ord_to (some 11) 182 Tryz.func182 (by kernel_rfl) (by kernel_rfl) [.int .i64 5,.agg ⟨cs⟩,.agg ⟨cb⟩] _ _ _ rfl rfl rfl (by first|exact wanted_none rfl|exact wanted_if rfl rfl rfl rfl) rfl ?_
    refine(two_raw 5 cs cb hka.len hlb hka.one hkb2.one w5).mono ?_
    rintro e w6 ⟨g,rfl,hg,hwg,hb6⟩
    have hs6:Whole 29 w6 X cs:=hs5.keep (hb6.block X hs5.lt)
    refine⟨_,rfl,hs6,?_⟩
    go_frame
    refine ord_tail ?_
    simp only[List.drop_succ_cons,List.drop_zero]
    have hpg:p < g∧g≠X:=⟨by have:=HRv.out.lt;have:=hb5.size;omega,by have:=hs5.lt;omega⟩
    have hkt:KeptP (fun b=>p < b∧b≠X) w6 (twoC 5 g) (twoE 5 x y):=two_kept (wf_int 5 (by decide +kernel)) hwg hpg (hka.to (fun b h1 h2=>⟨h1,hb6.block b h2⟩) hb6.size) (hkb2.to (fun b h1 h2=>⟨h1,hb6.block b h2⟩) hb6.size)
    have HKT:=hid hkt
    have HX6:=hid hs6
    have HR6:=hid ((HRv.out.keep (hb5.block p HRv.out.lt HPN.out.1 HPN.out.1)).keep (hb6.block p (by have:=HRv.out.lt;have:=hb5.size;omega)))
    have HS6:=hid (h1.keep hb6)
    have HB6:=hid (HBv.out.trans (hb5.trans (But.of_below hb6 pb pb)))
    have HLX:=hid hka.len
    clear hs hs5 hs6 hb5 hka hkb hkb2 hlb hwg hb6 hkt hg hpg h1 h2
    go_wp2_with ((with_reducible refine wl_wstore 29 _ _ rfl rfl ?hwf0s X cs (twoC 5 g) HX6.out ?hs10s ?hs20s ?hs30s ?hs40s ?hs50s ?_);(case hwf0s=>first|exact wanted_none rfl|exact wanted_if rfl rfl rfl rfl);(case hs10s=>rw[HLX.out];rfl);(case hs20s=>rfl);(case hs30s=>rfl);(case hs40s=>rw[HKT.out.len];kernel_rfl);(case hs50s=>exact HKT.out.one);intro Z hz hb;have HZ:=hid hz;have HZB:=hid hb;clear hz hb)
    go_roundg (toks.length - j)
    case measure=>have:=HLT.out;have h2:=isB_lt HIS.out;have:=HGQ.out;omega
    case rel=>
     refine⟨_,j,_,HREST.out,rfl,HZ.out,HR6.out.keep (HZB.out.block p HR6.out.lt (by have:=HXG.out.1;omega) (by have:=HXG.out.1;omega)),HKT.out.to (fun b h1 h2=>⟨h1,HZB.out.block b h2 h1.2 h1.2⟩) HZB.out.size,HS6.out.under X HXG.out.2.1 HXG.out.2.2 HZB.out,but_last HB6.out HZB.out (by have:=HXG.out.1;have:=HP.out;omega)⟩
   ·have hno0:isB toks i ⟨#[43]⟩= false:=isB_other HIS.out (by decide +kernel)
    have HNO0:=hid hno0
    clear hno0
    go_upto_region 4 with (go_at_call 143;refine(take_no HS.out HNO0.out).mono ?_;rintro e v0 ⟨rfl,h1,h2⟩;have HT0:=hid h1;have HTB0:=hid h2;clear h1 h2)
    go_upto_region 5 with (go_at_call 143;refine(take_yes HT0.out HIS.out).mono ?_;rintro e v1 ⟨rfl,h1,h2⟩;have HT1:=hid h1;have HTB1:=hid h2;clear h1 h2)
    have HTB:=hid (HTB0.out.trans HTB1.out)
    have HXv:=hid (HX.out.keep (HTB.out.block X HX.out.lt HXG.out.2.1 HXG.out.2.1))
    have HRv:=hid (HR.out.keep (HTB.out.block p HR.out.lt HPN.out.1 HPN.out.1))
    have HKv:Hid (KeptP (fun b=>p < b∧b≠X) v1 cs x):=hid (HK.out.to (fun b h1 h2=>⟨h1,HTB.out.block b h2 (by have:=h1.1;have:=HPN.out;have:=HP.out;have:=H.out.lt;omega) (by have:=h1.1;have:=HPN.out;have:=HP.out;have:=H.out.lt;omega)⟩) HTB.out.size)
    have HBv:=hid (HB.out.trans HTB.out)
    have hs:Whole 29 v1.drew X cs:=HXv.out
    refine wp_region_ord_tail 4 [(0,true),(1,true),(2,false),(3,false)]
     (fun z=>Whole 29 z X cs) (by kernel_rfl) (by kernel_rfl) rfl (by intro c a d v w h;cases d<;>exact h) ?_
    refine ord_load (some 14) (.agg ⟨cs⟩) _ rfl rfl (by first|exact wanted_none rfl|exact wanted_if rfl rfl rfl rfl) hs (fun z hz=>exec_sload 29 rfl X 0 cs _ rfl hz.range Tryz.underlying29 rfl (by rw[HK.out.len];kernel_rfl)) ?_
    go_frame
    refine ord_move (some 15) (.pointer (some ⟨pb,0,none⟩)) _ _ rfl rfl rfl (by first|exact wanted_none rfl|exact wanted_if rfl rfl rfl rfl) hs rfl ?_
    go_frame
    refine ord_to (some 16) 236 Tryz.func236 (by kernel_rfl) (by kernel_rfl) [.pointer (some ⟨pb,0,none⟩)] _ _ _ rfl rfl rfl (by first|exact wanted_none rfl|exact wanted_if rfl rfl rfl rfl) rfl ?_
    refine(HSUB2.out v1.drew d (HT1.out.keep (Below.refl _ v1).drew) HD.out.1 HD.out.2).mono ?_
    rintro e w5 ⟨cb,rfl,hkb,h1,h2⟩
    have hlb:=hkb.len
    have hb5:But v1 w5 pb pb:=(But.of_below (Below.refl _ v1).drew pb pb).trans h2
    have hs5:Whole 29 w5 X cs:=HXv.out.keep (hb5.block X HXv.out.lt HXG.out.2.1 HXG.out.2.1)
    refine⟨_,rfl,hs5,?_⟩
    go_frame
    have hka:KeptP (fun b=>p < b∧b≠X) w5 cs x:=HKv.out.to (fun b h1 h2=>⟨h1,hb5.block b h2 (by have:=h1.1;have:=HPN.out;have:=HP.out;have:=H.out.lt;omega) (by have:=h1.1;have:=HPN.out;have:=HP.out;have:=H.out.lt;omega)⟩) hb5.size
    have hkb2:KeptP (fun b=>p < b∧b≠X) w5 cb y:=hkb.to (fun b h1 h2=>⟨⟨by have h3:v1.heap.size≤b:=h1;have:=HRv.out.lt;omega,by have h3:v1.heap.size≤b:=h1;have:=HXv.out.lt;omega⟩,rfl⟩) (Nat.le_refl _)
    refine ord_to (some 17) 182 Tryz.func182 (by kernel_rfl) (by kernel_rfl) [.int .i64 6,.agg ⟨cs⟩,.agg ⟨cb⟩] _ _ _ rfl rfl rfl (by first|exact wanted_none rfl|exact wanted_if rfl rfl rfl rfl) rfl ?_
    refine(two_raw 6 cs cb hka.len hlb hka.one hkb2.one w5).mono ?_
    rintro e w6 ⟨g,rfl,hg,hwg,hb6⟩
    have hs6:Whole 29 w6 X cs:=hs5.keep (hb6.block X hs5.lt)
    refine⟨_,rfl,hs6,?_⟩
    go_frame
    refine ord_tail ?_
    simp only[List.drop_succ_cons,List.drop_zero]
    have hpg:p < g∧g≠X:=⟨by have:=HRv.out.lt;have:=hb5.size;omega,by have:=hs5.lt;omega⟩
    have hkt:KeptP (fun b=>p < b∧b≠X) w6 (twoC 6 g) (twoE 6 x y):=two_kept (wf_int 6 (by decide +kernel)) hwg hpg (hka.to (fun b h1 h2=>⟨h1,hb6.block b h2⟩) hb6.size) (hkb2.to (fun b h1 h2=>⟨h1,hb6.block b h2⟩) hb6.size)
    have HKT:=hid hkt
    have HX6:=hid hs6
    have HR6:=hid ((HRv.out.keep (hb5.block p HRv.out.lt HPN.out.1 HPN.out.1)).keep (hb6.block p (by have:=HRv.out.lt;have:=hb5.size;omega)))
    have HS6:=hid (h1.keep hb6)
    have HB6:=hid (HBv.out.trans (hb5.trans (But.of_below hb6 pb pb)))
    have HLX:=hid hka.len
    clear hs hs5 hs6 hb5 hka hkb hkb2 hlb hwg hb6 hkt hg hpg h1 h2
    go_wp2_with ((with_reducible refine wl_wstore 29 _ _ rfl rfl ?hwf1s X cs (twoC 6 g) HX6.out ?hs11s ?hs21s ?hs31s ?hs41s ?hs51s ?_);(case hwf1s=>first|exact wanted_none rfl|exact wanted_if rfl rfl rfl rfl);(case hs11s=>rw[HLX.out];rfl);(case hs21s=>rfl);(case hs31s=>rfl);(case hs41s=>rw[HKT.out.len];kernel_rfl);(case hs51s=>exact HKT.out.one);intro Z hz hb;have HZ:=hid hz;have HZB:=hid hb;clear hz hb)
    go_roundg (toks.length - j)
    case measure=>have:=HLT.out;have h2:=isB_lt HIS.out;have:=HGQ.out;omega
    case rel=>
     refine⟨_,j,_,HREST.out,rfl,HZ.out,HR6.out.keep (HZB.out.block p HR6.out.lt (by have:=HXG.out.1;omega) (by have:=HXG.out.1;omega)),HKT.out.to (fun b h1 h2=>⟨h1,HZB.out.block b h2 h1.2 h1.2⟩) HZB.out.size,HS6.out.under X HXG.out.2.1 HXG.out.2.2 HZB.out,but_last HB6.out HZB.out (by have:=HXG.out.1;have:=HP.out;omega)⟩
theorem pc_prod {i j k h:Nat} {x z:ET} (hsub:PCon pb tb c E toks 245 i j h x) (hl:PL 245 [(⟨#[42]⟩,7),(⟨#[47]⟩,8),(⟨#[37]⟩,9)] h pb tb c E toks x j z k):PCon pb tb c E toks 236 i k h z:=by
 intro w d h h0 hd
 have HSUB:=hid hsub
 have HPL:=hid hl
 clear hsub hl
 go_enter Tryz.func236,Tryz.ntmps236
 go_upto_region 1 with (fail)
 have HR0:=hid (Whole.new w zEc 29)
 have HB0:=hid (box_below w (.cells zEc.toArray 29))
 have hz:(#[Value.int IntKind.i64 0,Value.string { data:= #[] },Value.int IntKind.i64 0,Value.int IntKind.i64 0,Value.float FloatKind.f64 0,Value.string { data:= #[] },Value.slice none 0 0,Value.slice none 0 0,Value.slice none 0 0,Value.slice none 0 0]:Array Value)= zEc.toArray:=rfl
 rw[hz]
 clear hz
 have HRW:Hid (w.heap.size <(w.alloc (.cells zEc.toArray 29)).heap.size):=hid (by simp)
 generalize w.alloc (.cells zEc.toArray 29)= W at*
 obtain⟨p,hp⟩:∃ p,w.heap.size= p:=⟨_,rfl⟩
 rw[hp] at HR0 HRW
 rw[hp]
 have HP:=hid hp
 have HS0:=hid (h.keep HB0.out)
 have HPN:Hid (p≠pb∧p≠tb):=hid ⟨by have:=h.lt;omega,by have:=h.lt;omega⟩
 have H:=hid h
 have HD:=hid (And.intro h0 hd)
 clear hp h h0 hd
 go_upto_region 2 with (first
  |(go_at_call 245;refine(HSUB.out W d HS0.out HD.out.1 HD.out.2).mono ?_;rintro e w1 ⟨cs0,rfl,hk,h1,h2⟩;have hl:=hk.len;have HL0:=hid hl;have HK0:=hid hk;have HS1:=hid h1;have HB1:=hid h2;clear hl hk h1 h2)
  |((with_reducible refine wl_wbox 29 _ _ rfl rfl ?hwe w1 ?zne cs0 ?hz1 ?hz2 ?hz3 ?hz4 ?hz5 ?hz6 ?_);(case hwe=>first|exact wanted_none rfl|exact wanted_if rfl rfl rfl rfl);(case hz1=>rfl);(case hz2=>rw[HL0.out];rfl);(case hz3=>rfl);(case hz4=>rfl);(case hz5=>rw[HL0.out];kernel_rfl);(case hz6=>exact HK0.out.one);intro W2 hz hb hlt;have HX2:=hid hz;have HB2:=hid hb;have HLT2:=hid hlt;clear hz hb hlt))
 obtain⟨X,hX⟩:∃ X,w1.heap.size= X:=⟨_,rfl⟩
 rw[hX] at HX2 HB2 HLT2
 rw[hX]
 have hXX:=hX
 have HXG:Hid (p < X∧X≠pb∧X≠tb):=hid ⟨by have:=HRW.out;have:=HB1.out.size;omega,by have:=HS1.out.lt;omega,by have:=HS1.out.lt;omega⟩
 have hB12:Below w1.heap.size w1 W2:=by rw[hX];exact HB2.out
 have HR2:=hid ((HR0.out.keep (HB1.out.block p HRW.out HPN.out.1 HPN.out.1)).keep (hB12.block p (by rw[hX];exact HXG.out.1)))
 have HS2:=hid (HS1.out.keep hB12)
 have HK2:Hid (KeptP (fun b=>p < b∧b≠X) W2 cs0 x):=hid (HK0.out.to (fun b h1 h2=>⟨⟨by have:=HRW.out;omega,by omega⟩,hB12.block b h2⟩) hB12.size)
 have HBW2:Hid (But w W2 pb pb):=hid ((But.of_below HB0.out pb pb).trans (HB1.out.trans (But.of_below hB12 pb pb)))
 clear hX hXX hB12 HB1 HB2 HLT2 HK0 HS1 HS0 HR0
 go_wp2
 go_loopg [] (toks.length - j) (fun q u=>∃ (x:ET) (i:Nat) (cs:List Value),PL 245 [(⟨#[42]⟩,7),(⟨#[47]⟩,8),(⟨#[37]⟩,9)] h pb tb c E toks x i z k∧q= toks.length - i∧Whole 29 u X cs∧Whole 29 u p zEc∧KeptP (fun b=>p < b∧b≠X) u cs x∧PSt pb tb c E toks u i d∧But w u pb pb)
 case atStart=>exact⟨x,j,cs0,HPL.out,rfl,HX2.out,HR2.out,HK2.out,HS2.out,HBW2.out⟩
 case round=>
  clear HX2 HR2 HK2 HS2 HBW2 HL0 HPL
  obtain⟨x,i,cs,hpl,hq,hx,hr,hk,hs,hb⟩:=hrel
  have HX:=hid hx
  have HR:=hid hr
  have HK:=hid hk
  have HS:=hid hs
  have HB:=hid hb
  have HGQ:=hid hq
  clear hx hr hk hs hb hq
  cases hpl with
  |done _ _ hno=>
   have HNO:=hid hno
   clear hno
   go_upto_region 4 with (go_at_call 143;refine(take_no HS.out (HNO.out (⟨#[42]⟩,7) (by simp))).mono ?_;rintro e v0 ⟨rfl,h1,h2⟩;have HT0:=hid h1;have HTB0:=hid h2;clear h1 h2)
   go_upto_region 6 with (go_at_call 143;refine(take_no HT0.out (HNO.out (⟨#[47]⟩,8) (by simp))).mono ?_;rintro e v1 ⟨rfl,h1,h2⟩;have HT1:=hid h1;have HTB1:=hid h2;clear h1 h2)
   go_upto_region 8 with (go_at_call 143;refine(take_no HT1.out (HNO.out (⟨#[37]⟩,9) (by simp))).mono ?_;rintro e v2 ⟨rfl,h1,h2⟩;have HT2:=hid h1;have HTB2:=hid h2;clear h1 h2)
   have HTB:=hid (HTB0.out.trans (HTB1.out.trans HTB2.out))
   have HXv:=hid (HX.out.keep (HTB.out.block X HX.out.lt HXG.out.2.1 HXG.out.2.1))
   have HRv:=hid (HR.out.keep (HTB.out.block p HR.out.lt HPN.out.1 HPN.out.1))
   have HKv:Hid (KeptP (fun b=>p < b∧b≠X) v2 cs z):=hid (HK.out.to (fun b h1 h2=>⟨h1,HTB.out.block b h2 (by have:=h1.1;have:=HPN.out;have:=HP.out;have:=H.out.lt;omega) (by have:=h1.1;have:=HPN.out;have:=HP.out;have:=H.out.lt;omega)⟩) HTB.out.size)
   have HBv:=hid (HB.out.trans HTB.out)
   clear HX HR HK
   have HX:=HXv
   have HK:=HKv
   have HXR:=hid (HX.out.range)
   have HLX:=hid (HK.out.len)
   go_wp2_with (first
    |((with_reducible refine wl_sload 29 _ rfl ?hwld X 0 cs _ rfl HXR.out Tryz.underlying29 rfl ?hild ?_);(case hwld=>first|exact wanted_none rfl|exact wanted_if rfl rfl rfl rfl);(case hild=>rw[HLX.out];kernel_rfl))
    |((with_reducible refine wl_wstore 29 _ _ rfl rfl ?hwfd p zEc cs HRv.out ?hs1d ?hs2d ?hs3d ?hs4d ?hs5d ?_);(case hwfd=>first|exact wanted_none rfl|exact wanted_if rfl rfl rfl rfl);(case hs1d=>rw[HLX.out];rfl);(case hs2d=>rfl);(case hs3d=>rfl);(case hs4d=>rw[HLX.out];kernel_rfl);(case hs5d=>exact HK.out.one);intro Z hz hb;have HZ:=hid hz;have HZB:=hid hb;clear hz hb))
   (try simp only[Exit.inBlock,Exit.then])
   refine bodyPost_ret (results_exp rfl _ _ p cs HLX.out rfl HZ.out) rfl ?_
   have hp:=HP.out
   refine⟨cs,rfl,?_,HT2.out.under p HPN.out.1 HPN.out.2 HZB.out,but_last HBv.out HZB.out (by omega)⟩
   exact KeptP.to (q:=fun b=>w.heap.size≤b) HK.out (fun b h1 h2=>⟨by have:=h1.1;show w.heap.size≤b;omega,HZB.out.block b h2 (by have:=h1.1;omega) (by have:=h1.1;omega)⟩) HZB.out.size
  |step _ _ y j z _ sg hmem his hsub hlt hrest=>
   have HSUB2:=hid hsub
   have HREST:=hid hrest
   have HLT:=hid hlt
   have HIS:=hid his
   clear hsub hrest hlt his
   simp only[List.mem_cons,List.not_mem_nil,or_false] at hmem
   rcases hmem with rfl|rfl|rfl
   ·go_upto_region 3 with (go_at_call 143;refine(take_yes HS.out HIS.out).mono ?_;rintro e v0 ⟨rfl,h1,h2⟩;have HT0:=hid h1;have HTB0:=hid h2;clear h1 h2)
    have HTB:=hid HTB0.out
    have HXv:=hid (HX.out.keep (HTB.out.block X HX.out.lt HXG.out.2.1 HXG.out.2.1))
    have HRv:=hid (HR.out.keep (HTB.out.block p HR.out.lt HPN.out.1 HPN.out.1))
    have HKv:Hid (KeptP (fun b=>p < b∧b≠X) v0 cs x):=hid (HK.out.to (fun b h1 h2=>⟨h1,HTB.out.block b h2 (by have:=h1.1;have:=HPN.out;have:=HP.out;have:=H.out.lt;omega) (by have:=h1.1;have:=HPN.out;have:=HP.out;have:=H.out.lt;omega)⟩) HTB.out.size)
    have HBv:=hid (HB.out.trans HTB.out)
    have hs:Whole 29 v0.drew X cs:=HXv.out
    refine wp_region_ord_tail 4 [(0,true),(1,true),(2,false),(3,false)]
     (fun z=>Whole 29 z X cs) (by kernel_rfl) (by kernel_rfl) rfl (by intro c a d v w h;cases d<;>exact h) ?_
    refine ord_load (some 8) (.agg ⟨cs⟩) _ rfl rfl (by first|exact wanted_none rfl|exact wanted_if rfl rfl rfl rfl) hs (fun z hz=>exec_sload 29 rfl X 0 cs _ rfl hz.range Tryz.underlying29 rfl (by rw[HK.out.len];kernel_rfl)) ?_
    go_frame
    refine ord_move (some 9) (.pointer (some ⟨pb,0,none⟩)) _ _ rfl rfl rfl (by first|exact wanted_none rfl|exact wanted_if rfl rfl rfl rfl) hs rfl ?_
    go_frame
    refine ord_to (some 10) 245 Tryz.func245 (by kernel_rfl) (by kernel_rfl) [.pointer (some ⟨pb,0,none⟩)] _ _ _ rfl rfl rfl (by first|exact wanted_none rfl|exact wanted_if rfl rfl rfl rfl) rfl ?_
    refine(HSUB2.out v0.drew d (HT0.out.keep (Below.refl _ v0).drew) HD.out.1 HD.out.2).mono ?_
    rintro e w5 ⟨cb,rfl,hkb,h1,h2⟩
    have hlb:=hkb.len
    have hb5:But v0 w5 pb pb:=(But.of_below (Below.refl _ v0).drew pb pb).trans h2
    have hs5:Whole 29 w5 X cs:=HXv.out.keep (hb5.block X HXv.out.lt HXG.out.2.1 HXG.out.2.1)
    refine⟨_,rfl,hs5,?_⟩
    go_frame
    have hka:KeptP (fun b=>p < b∧b≠X) w5 cs x:=HKv.out.to (fun b h1 h2=>⟨h1,hb5.block b h2 (by have:=h1.1;have:=HPN.out;have:=HP.out;have:=H.out.lt;omega) (by have:=h1.1;have:=HPN.out;have:=HP.out;have:=H.out.lt;omega)⟩) hb5.size
    have hkb2:KeptP (fun b=>p < b∧b≠X) w5 cb y:=hkb.to (fun b h1 h2=>⟨⟨by have h3:v0.heap.size≤b:=h1;have:=HRv.out.lt;omega,by have h3:v0.heap.size≤b:=h1;have:=HXv.out.lt;omega⟩,rfl⟩) (Nat.le_refl _)
    refine ord_to (some 11) 182 Tryz.func182 (by kernel_rfl) (by kernel_rfl) [.int .i64 7,.agg ⟨cs⟩,.agg ⟨cb⟩] _ _ _ rfl rfl rfl (by first|exact wanted_none rfl|exact wanted_if rfl rfl rfl rfl) rfl ?_
    refine(two_raw 7 cs cb hka.len hlb hka.one hkb2.one w5).mono ?_
    rintro e w6 ⟨g,rfl,hg,hwg,hb6⟩
    have hs6:Whole 29 w6 X cs:=hs5.keep (hb6.block X hs5.lt)
    refine⟨_,rfl,hs6,?_⟩
    go_frame
    refine ord_tail ?_
    simp only[List.drop_succ_cons,List.drop_zero]
    have hpg:p < g∧g≠X:=⟨by have:=HRv.out.lt;have:=hb5.size;omega,by have:=hs5.lt;omega⟩
    have hkt:KeptP (fun b=>p < b∧b≠X) w6 (twoC 7 g) (twoE 7 x y):=two_kept (wf_int 7 (by decide +kernel)) hwg hpg (hka.to (fun b h1 h2=>⟨h1,hb6.block b h2⟩) hb6.size) (hkb2.to (fun b h1 h2=>⟨h1,hb6.block b h2⟩) hb6.size)
    have HKT:=hid hkt
    have HX6:=hid hs6
    have HR6:=hid ((HRv.out.keep (hb5.block p HRv.out.lt HPN.out.1 HPN.out.1)).keep (hb6.block p (by have:=HRv.out.lt;have:=hb5.size;omega)))
    have HS6:=hid (h1.keep hb6)
    have HB6:=hid (HBv.out.trans (hb5.trans (But.of_below hb6 pb pb)))
    have HLX:=hid hka.len
    clear hs hs5 hs6 hb5 hka hkb hkb2 hlb hwg hb6 hkt hg hpg h1 h2
    go_wp2_with ((with_reducible refine wl_wstore 29 _ _ rfl rfl ?hwf0s X cs (twoC 7 g) HX6.out ?hs10s ?hs20s ?hs30s ?hs40s ?hs50s ?_);(case hwf0s=>first|exact wanted_none rfl|exact wanted_if rfl rfl rfl rfl);(case hs10s=>rw[HLX.out];rfl);(case hs20s=>rfl);(case hs30s=>rfl);(case hs40s=>rw[HKT.out.len];kernel_rfl);(case hs50s=>exact HKT.out.one);intro Z hz hb;have HZ:=hid hz;have HZB:=hid hb;clear hz hb)
    go_roundg (toks.length - j)
    case measure=>have:=HLT.out;have h2:=isB_lt HIS.out;have:=HGQ.out;omega
    case rel=>
     refine⟨_,j,_,HREST.out,rfl,HZ.out,HR6.out.keep (HZB.out.block p HR6.out.lt (by have:=HXG.out.1;omega) (by have:=HXG.out.1;omega)),HKT.out.to (fun b h1 h2=>⟨h1,HZB.out.block b h2 h1.2 h1.2⟩) HZB.out.size,HS6.out.under X HXG.out.2.1 HXG.out.2.2 HZB.out,but_last HB6.out HZB.out (by have:=HXG.out.1;have:=HP.out;omega)⟩
   ·have hno0:isB toks i ⟨#[42]⟩= false:=isB_other HIS.out (by decide +kernel)
    have HNO0:=hid hno0
    clear hno0
    go_upto_region 4 with (go_at_call 143;refine(take_no HS.out HNO0.out).mono ?_;rintro e v0 ⟨rfl,h1,h2⟩;have HT0:=hid h1;have HTB0:=hid h2;clear h1 h2)
    go_upto_region 5 with (go_at_call 143;refine(take_yes HT0.out HIS.out).mono ?_;rintro e v1 ⟨rfl,h1,h2⟩;have HT1:=hid h1;have HTB1:=hid h2;clear h1 h2)
    have HTB:=hid (HTB0.out.trans HTB1.out)
    have HXv:=hid (HX.out.keep (HTB.out.block X HX.out.lt HXG.out.2.1 HXG.out.2.1))
    have HRv:=hid (HR.out.keep (HTB.out.block p HR.out.lt HPN.out.1 HPN.out.1))
    have HKv:Hid (KeptP (fun b=>p < b∧b≠X) v1 cs x):=hid (HK.out.to (fun b h1 h2=>⟨h1,HTB.out.block b h2 (by have:=h1.1;have:=HPN.out;have:=HP.out;have:=H.out.lt;omega) (by have:=h1.1;have:=HPN.out;have:=HP.out;have:=H.out.lt;omega)⟩) HTB.out.size)
    have HBv:=hid (HB.out.trans HTB.out)
    have hs:Whole 29 v1.drew X cs:=HXv.out
    refine wp_region_ord_tail 4 [(0,true),(1,true),(2,false),(3,false)]
     (fun z=>Whole 29 z X cs) (by kernel_rfl) (by kernel_rfl) rfl (by intro c a d v w h;cases d<;>exact h) ?_
    refine ord_load (some 14) (.agg ⟨cs⟩) _ rfl rfl (by first|exact wanted_none rfl|exact wanted_if rfl rfl rfl rfl) hs (fun z hz=>exec_sload 29 rfl X 0 cs _ rfl hz.range Tryz.underlying29 rfl (by rw[HK.out.len];kernel_rfl)) ?_
    go_frame
    refine ord_move (some 15) (.pointer (some ⟨pb,0,none⟩)) _ _ rfl rfl rfl (by first|exact wanted_none rfl|exact wanted_if rfl rfl rfl rfl) hs rfl ?_
    go_frame
    refine ord_to (some 16) 245 Tryz.func245 (by kernel_rfl) (by kernel_rfl) [.pointer (some ⟨pb,0,none⟩)] _ _ _ rfl rfl rfl (by first|exact wanted_none rfl|exact wanted_if rfl rfl rfl rfl) rfl ?_
    refine(HSUB2.out v1.drew d (HT1.out.keep (Below.refl _ v1).drew) HD.out.1 HD.out.2).mono ?_
    rintro e w5 ⟨cb,rfl,hkb,h1,h2⟩
    have hlb:=hkb.len
    have hb5:But v1 w5 pb pb:=(But.of_below (Below.refl _ v1).drew pb pb).trans h2
    have hs5:Whole 29 w5 X cs:=HXv.out.keep (hb5.block X HXv.out.lt HXG.out.2.1 HXG.out.2.1)
    refine⟨_,rfl,hs5,?_⟩
    go_frame
    have hka:KeptP (fun b=>p < b∧b≠X) w5 cs x:=HKv.out.to (fun b h1 h2=>⟨h1,hb5.block b h2 (by have:=h1.1;have:=HPN.out;have:=HP.out;have:=H.out.lt;omega) (by have:=h1.1;have:=HPN.out;have:=HP.out;have:=H.out.lt;omega)⟩) hb5.size
    have hkb2:KeptP (fun b=>p < b∧b≠X) w5 cb y:=hkb.to (fun b h1 h2=>⟨⟨by have h3:v1.heap.size≤b:=h1;have:=HRv.out.lt;omega,by have h3:v1.heap.size≤b:=h1;have:=HXv.out.lt;omega⟩,rfl⟩) (Nat.le_refl _)
    refine ord_to (some 17) 182 Tryz.func182 (by kernel_rfl) (by kernel_rfl) [.int .i64 8,.agg ⟨cs⟩,.agg ⟨cb⟩] _ _ _ rfl rfl rfl (by first|exact wanted_none rfl|exact wanted_if rfl rfl rfl rfl) rfl ?_
    refine(two_raw 8 cs cb hka.len hlb hka.one hkb2.one w5).mono ?_
    rintro e w6 ⟨g,rfl,hg,hwg,hb6⟩
    have hs6:Whole 29 w6 X cs:=hs5.keep (hb6.block X hs5.lt)
    refine⟨_,rfl,hs6,?_⟩
    go_frame
    refine ord_tail ?_
    simp only[List.drop_succ_cons,List.drop_zero]
    have hpg:p < g∧g≠X:=⟨by have:=HRv.out.lt;have:=hb5.size;omega,by have:=hs5.lt;omega⟩
    have hkt:KeptP (fun b=>p < b∧b≠X) w6 (twoC 8 g) (twoE 8 x y):=two_kept (wf_int 8 (by decide +kernel)) hwg hpg (hka.to (fun b h1 h2=>⟨h1,hb6.block b h2⟩) hb6.size) (hkb2.to (fun b h1 h2=>⟨h1,hb6.block b h2⟩) hb6.size)
    have HKT:=hid hkt
    have HX6:=hid hs6
    have HR6:=hid ((HRv.out.keep (hb5.block p HRv.out.lt HPN.out.1 HPN.out.1)).keep (hb6.block p (by have:=HRv.out.lt;have:=hb5.size;omega)))
    have HS6:=hid (h1.keep hb6)
    have HB6:=hid (HBv.out.trans (hb5.trans (But.of_below hb6 pb pb)))
    have HLX:=hid hka.len
    clear hs hs5 hs6 hb5 hka hkb hkb2 hlb hwg hb6 hkt hg hpg h1 h2
    go_wp2_with ((with_reducible refine wl_wstore 29 _ _ rfl rfl ?hwf1s X cs (twoC 8 g) HX6.out ?hs11s ?hs21s ?hs31s ?hs41s ?hs51s ?_);(case hwf1s=>first|exact wanted_none rfl|exact wanted_if rfl rfl rfl rfl);(case hs11s=>rw[HLX.out];rfl);(case hs21s=>rfl);(case hs31s=>rfl);(case hs41s=>rw[HKT.out.len];kernel_rfl);(case hs51s=>exact HKT.out.one);intro Z hz hb;have HZ:=hid hz;have HZB:=hid hb;clear hz hb)
    go_roundg (toks.length - j)
    case measure=>have:=HLT.out;have h2:=isB_lt HIS.out;have:=HGQ.out;omega
    case rel=>
     refine⟨_,j,_,HREST.out,rfl,HZ.out,HR6.out.keep (HZB.out.block p HR6.out.lt (by have:=HXG.out.1;omega) (by have:=HXG.out.1;omega)),HKT.out.to (fun b h1 h2=>⟨h1,HZB.out.block b h2 h1.2 h1.2⟩) HZB.out.size,HS6.out.under X HXG.out.2.1 HXG.out.2.2 HZB.out,but_last HB6.out HZB.out (by have:=HXG.out.1;have:=HP.out;omega)⟩
   ·have hno0:isB toks i ⟨#[42]⟩= false:=isB_other HIS.out (by decide +kernel)
    have HNO0:=hid hno0
    clear hno0
    go_upto_region 4 with (go_at_call 143;refine(take_no HS.out HNO0.out).mono ?_;rintro e v0 ⟨rfl,h1,h2⟩;have HT0:=hid h1;have HTB0:=hid h2;clear h1 h2)
    have hno1:isB toks i ⟨#[47]⟩= false:=isB_other HIS.out (by decide +kernel)
    have HNO1:=hid hno1
    clear hno1
    go_upto_region 6 with (go_at_call 143;refine(take_no HT0.out HNO1.out).mono ?_;rintro e v1 ⟨rfl,h1,h2⟩;have HT1:=hid h1;have HTB1:=hid h2;clear h1 h2)
    go_upto_region 7 with (go_at_call 143;refine(take_yes HT1.out HIS.out).mono ?_;rintro e v2 ⟨rfl,h1,h2⟩;have HT2:=hid h1;have HTB2:=hid h2;clear h1 h2)
    have HTB:=hid (HTB0.out.trans (HTB1.out.trans HTB2.out))
    have HXv:=hid (HX.out.keep (HTB.out.block X HX.out.lt HXG.out.2.1 HXG.out.2.1))
    have HRv:=hid (HR.out.keep (HTB.out.block p HR.out.lt HPN.out.1 HPN.out.1))
    have HKv:Hid (KeptP (fun b=>p < b∧b≠X) v2 cs x):=hid (HK.out.to (fun b h1 h2=>⟨h1,HTB.out.block b h2 (by have:=h1.1;have:=HPN.out;have:=HP.out;have:=H.out.lt;omega) (by have:=h1.1;have:=HPN.out;have:=HP.out;have:=H.out.lt;omega)⟩) HTB.out.size)
    have HBv:=hid (HB.out.trans HTB.out)
    have hs:Whole 29 v2.drew X cs:=HXv.out
    refine wp_region_ord_tail 4 [(0,true),(1,true),(2,false),(3,false)]
     (fun z=>Whole 29 z X cs) (by kernel_rfl) (by kernel_rfl) rfl (by intro c a d v w h;cases d<;>exact h) ?_
    refine ord_load (some 20) (.agg ⟨cs⟩) _ rfl rfl (by first|exact wanted_none rfl|exact wanted_if rfl rfl rfl rfl) hs (fun z hz=>exec_sload 29 rfl X 0 cs _ rfl hz.range Tryz.underlying29 rfl (by rw[HK.out.len];kernel_rfl)) ?_
    go_frame
    refine ord_move (some 21) (.pointer (some ⟨pb,0,none⟩)) _ _ rfl rfl rfl (by first|exact wanted_none rfl|exact wanted_if rfl rfl rfl rfl) hs rfl ?_
    go_frame
    refine ord_to (some 22) 245 Tryz.func245 (by kernel_rfl) (by kernel_rfl) [.pointer (some ⟨pb,0,none⟩)] _ _ _ rfl rfl rfl (by first|exact wanted_none rfl|exact wanted_if rfl rfl rfl rfl) rfl ?_
    refine(HSUB2.out v2.drew d (HT2.out.keep (Below.refl _ v2).drew) HD.out.1 HD.out.2).mono ?_
    rintro e w5 ⟨cb,rfl,hkb,h1,h2⟩
    have hlb:=hkb.len
    have hb5:But v2 w5 pb pb:=(But.of_below (Below.refl _ v2).drew pb pb).trans h2
    have hs5:Whole 29 w5 X cs:=HXv.out.keep (hb5.block X HXv.out.lt HXG.out.2.1 HXG.out.2.1)
    refine⟨_,rfl,hs5,?_⟩
    go_frame
    have hka:KeptP (fun b=>p < b∧b≠X) w5 cs x:=HKv.out.to (fun b h1 h2=>⟨h1,hb5.block b h2 (by have:=h1.1;have:=HPN.out;have:=HP.out;have:=H.out.lt;omega) (by have:=h1.1;have:=HPN.out;have:=HP.out;have:=H.out.lt;omega)⟩) hb5.size
    have hkb2:KeptP (fun b=>p < b∧b≠X) w5 cb y:=hkb.to (fun b h1 h2=>⟨⟨by have h3:v2.heap.size≤b:=h1;have:=HRv.out.lt;omega,by have h3:v2.heap.size≤b:=h1;have:=HXv.out.lt;omega⟩,rfl⟩) (Nat.le_refl _)
    refine ord_to (some 23) 182 Tryz.func182 (by kernel_rfl) (by kernel_rfl) [.int .i64 9,.agg ⟨cs⟩,.agg ⟨cb⟩] _ _ _ rfl rfl rfl (by first|exact wanted_none rfl|exact wanted_if rfl rfl rfl rfl) rfl ?_
    refine(two_raw 9 cs cb hka.len hlb hka.one hkb2.one w5).mono ?_
    rintro e w6 ⟨g,rfl,hg,hwg,hb6⟩
    have hs6:Whole 29 w6 X cs:=hs5.keep (hb6.block X hs5.lt)
    refine⟨_,rfl,hs6,?_⟩
    go_frame
    refine ord_tail ?_
    simp only[List.drop_succ_cons,List.drop_zero]
    have hpg:p < g∧g≠X:=⟨by have:=HRv.out.lt;have:=hb5.size;omega,by have:=hs5.lt;omega⟩
    have hkt:KeptP (fun b=>p < b∧b≠X) w6 (twoC 9 g) (twoE 9 x y):=two_kept (wf_int 9 (by decide +kernel)) hwg hpg (hka.to (fun b h1 h2=>⟨h1,hb6.block b h2⟩) hb6.size) (hkb2.to (fun b h1 h2=>⟨h1,hb6.block b h2⟩) hb6.size)
    have HKT:=hid hkt
    have HX6:=hid hs6
    have HR6:=hid ((HRv.out.keep (hb5.block p HRv.out.lt HPN.out.1 HPN.out.1)).keep (hb6.block p (by have:=HRv.out.lt;have:=hb5.size;omega)))
    have HS6:=hid (h1.keep hb6)
    have HB6:=hid (HBv.out.trans (hb5.trans (But.of_below hb6 pb pb)))
    have HLX:=hid hka.len
    clear hs hs5 hs6 hb5 hka hkb hkb2 hlb hwg hb6 hkt hg hpg h1 h2
    go_wp2_with ((with_reducible refine wl_wstore 29 _ _ rfl rfl ?hwf2s X cs (twoC 9 g) HX6.out ?hs12s ?hs22s ?hs32s ?hs42s ?hs52s ?_);(case hwf2s=>first|exact wanted_none rfl|exact wanted_if rfl rfl rfl rfl);(case hs12s=>rw[HLX.out];rfl);(case hs22s=>rfl);(case hs32s=>rfl);(case hs42s=>rw[HKT.out.len];kernel_rfl);(case hs52s=>exact HKT.out.one);intro Z hz hb;have HZ:=hid hz;have HZB:=hid hb;clear hz hb)
    go_roundg (toks.length - j)
    case measure=>have:=HLT.out;have h2:=isB_lt HIS.out;have:=HGQ.out;omega
    case rel=>
     refine⟨_,j,_,HREST.out,rfl,HZ.out,HR6.out.keep (HZB.out.block p HR6.out.lt (by have:=HXG.out.1;omega) (by have:=HXG.out.1;omega)),HKT.out.to (fun b h1 h2=>⟨h1,HZB.out.block b h2 h1.2 h1.2⟩) HZB.out.size,HS6.out.under X HXG.out.2.1 HXG.out.2.2 HZB.out,but_last HB6.out HZB.out (by have:=HXG.out.1;have:=HP.out;omega)⟩
theorem pc_and {i j k h:Nat} {x z:ET} (hsub:PCon pb tb c E toks 204 i j h x) (hl:PL 204 [(⟨#[38,38]⟩,13)] h pb tb c E toks x j z k):PCon pb tb c E toks 181 i k h z:=by
 intro w d h h0 hd
 have HSUB:=hid hsub
 have HPL:=hid hl
 clear hsub hl
 go_enter Tryz.func181,Tryz.ntmps181
 go_upto_region 1 with (fail)
 have HR0:=hid (Whole.new w zEc 29)
 have HB0:=hid (box_below w (.cells zEc.toArray 29))
 have hz:(#[Value.int IntKind.i64 0,Value.string { data:= #[] },Value.int IntKind.i64 0,Value.int IntKind.i64 0,Value.float FloatKind.f64 0,Value.string { data:= #[] },Value.slice none 0 0,Value.slice none 0 0,Value.slice none 0 0,Value.slice none 0 0]:Array Value)= zEc.toArray:=rfl
 rw[hz]
 clear hz
 have HRW:Hid (w.heap.size <(w.alloc (.cells zEc.toArray 29)).heap.size):=hid (by simp)
 generalize w.alloc (.cells zEc.toArray 29)= W at*
 obtain⟨p,hp⟩:∃ p,w.heap.size= p:=⟨_,rfl⟩
 rw[hp] at HR0 HRW
 rw[hp]
 have HP:=hid hp
 have HS0:=hid (h.keep HB0.out)
 have HPN:Hid (p≠pb∧p≠tb):=hid ⟨by have:=h.lt;omega,by have:=h.lt;omega⟩
 have H:=hid h
 have HD:=hid (And.intro h0 hd)
 clear hp h h0 hd
 go_upto_region 2 with (first
  |(go_at_call 204;refine(HSUB.out W d HS0.out HD.out.1 HD.out.2).mono ?_;rintro e w1 ⟨cs0,rfl,hk,h1,h2⟩;have hl:=hk.len;have HL0:=hid hl;have HK0:=hid hk;have HS1:=hid h1;have HB1:=hid h2;clear hl hk h1 h2)
  |((with_reducible refine wl_wbox 29 _ _ rfl rfl ?hwe w1 ?zne cs0 ?hz1 ?hz2 ?hz3 ?hz4 ?hz5 ?hz6 ?_);(case hwe=>first|exact wanted_none rfl|exact wanted_if rfl rfl rfl rfl);(case hz1=>rfl);(case hz2=>rw[HL0.out];rfl);(case hz3=>rfl);(case hz4=>rfl);(case hz5=>rw[HL0.out];kernel_rfl);(case hz6=>exact HK0.out.one);intro W2 hz hb hlt;have HX2:=hid hz;have HB2:=hid hb;have HLT2:=hid hlt;clear hz hb hlt))
 obtain⟨X,hX⟩:∃ X,w1.heap.size= X:=⟨_,rfl⟩
 rw[hX] at HX2 HB2 HLT2
 rw[hX]
 have hXX:=hX
 have HXG:Hid (p < X∧X≠pb∧X≠tb):=hid ⟨by have:=HRW.out;have:=HB1.out.size;omega,by have:=HS1.out.lt;omega,by have:=HS1.out.lt;omega⟩
 have hB12:Below w1.heap.size w1 W2:=by rw[hX];exact HB2.out
 have HR2:=hid ((HR0.out.keep (HB1.out.block p HRW.out HPN.out.1 HPN.out.1)).keep (hB12.block p (by rw[hX];exact HXG.out.1)))
 have HS2:=hid (HS1.out.keep hB12)
 have HK2:Hid (KeptP (fun b=>p < b∧b≠X) W2 cs0 x):=hid (HK0.out.to (fun b h1 h2=>⟨⟨by have:=HRW.out;omega,by omega⟩,hB12.block b h2⟩) hB12.size)
 have HBW2:Hid (But w W2 pb pb):=hid ((But.of_below HB0.out pb pb).trans (HB1.out.trans (But.of_below hB12 pb pb)))
 clear hX hXX hB12 HB1 HB2 HLT2 HK0 HS1 HS0 HR0
 go_wp2
 go_loopg [] (toks.length - j) (fun q u=>∃ (x:ET) (i:Nat) (cs:List Value),PL 204 [(⟨#[38,38]⟩,13)] h pb tb c E toks x i z k∧q= toks.length - i∧Whole 29 u X cs∧Whole 29 u p zEc∧KeptP (fun b=>p < b∧b≠X) u cs x∧PSt pb tb c E toks u i d∧But w u pb pb)
 case atStart=>exact⟨x,j,cs0,HPL.out,rfl,HX2.out,HR2.out,HK2.out,HS2.out,HBW2.out⟩
 case round=>
  clear HX2 HR2 HK2 HS2 HBW2 HL0 HPL
  obtain⟨x,i,cs,hpl,hq,hx,hr,hk,hs,hb⟩:=hrel
  have HX:=hid hx
  have HR:=hid hr
  have HK:=hid hk
  have HS:=hid hs
  have HB:=hid hb
  have HGQ:=hid hq
  clear hx hr hk hs hb hq
  cases hpl with
  |done _ _ hno=>
   have HNO:=hid hno
   clear hno
   go_upto_region 4 with (go_at_call 143;refine(take_no HS.out (HNO.out (⟨#[38,38]⟩,13) (by simp))).mono ?_;rintro e v0 ⟨rfl,h1,h2⟩;have HT0:=hid h1;have HTB0:=hid h2;clear h1 h2)
   have HTB:=hid HTB0.out
   have HXv:=hid (HX.out.keep (HTB.out.block X HX.out.lt HXG.out.2.1 HXG.out.2.1))
   have HRv:=hid (HR.out.keep (HTB.out.block p HR.out.lt HPN.out.1 HPN.out.1))
   have HKv:Hid (KeptP (fun b=>p < b∧b≠X) v0 cs z):=hid (HK.out.to (fun b h1 h2=>⟨h1,HTB.out.block b h2 (by have:=h1.1;have:=HPN.out;have:=HP.out;have:=H.out.lt;omega) (by have:=h1.1;have:=HPN.out;have:=HP.out;have:=H.out.lt;omega)⟩) HTB.out.size)
   have HBv:=hid (HB.out.trans HTB.out)
   clear HX HR HK
   have HX:=HXv
   have HK:=HKv
   have HXR:=hid (HX.out.range)
   have HLX:=hid (HK.out.len)
   go_wp2_with (first
    |((with_reducible refine wl_sload 29 _ rfl ?hwld X 0 cs _ rfl HXR.out Tryz.underlying29 rfl ?hild ?_);(case hwld=>first|exact wanted_none rfl|exact wanted_if rfl rfl rfl rfl);(case hild=>rw[HLX.out];kernel_rfl))
    |((with_reducible refine wl_wstore 29 _ _ rfl rfl ?hwfd p zEc cs HRv.out ?hs1d ?hs2d ?hs3d ?hs4d ?hs5d ?_);(case hwfd=>first|exact wanted_none rfl|exact wanted_if rfl rfl rfl rfl);(case hs1d=>rw[HLX.out];rfl);(case hs2d=>rfl);(case hs3d=>rfl);(case hs4d=>rw[HLX.out];kernel_rfl);(case hs5d=>exact HK.out.one);intro Z hz hb;have HZ:=hid hz;have HZB:=hid hb;clear hz hb))
   (try simp only[Exit.inBlock,Exit.then])
   refine bodyPost_ret (results_exp rfl _ _ p cs HLX.out rfl HZ.out) rfl ?_
   have hp:=HP.out
   refine⟨cs,rfl,?_,HT0.out.under p HPN.out.1 HPN.out.2 HZB.out,but_last HBv.out HZB.out (by omega)⟩
   exact KeptP.to (q:=fun b=>w.heap.size≤b) HK.out (fun b h1 h2=>⟨by have:=h1.1;show w.heap.size≤b;omega,HZB.out.block b h2 (by have:=h1.1;omega) (by have:=h1.1;omega)⟩) HZB.out.size
  |step _ _ y j z _ sg hmem his hsub hlt hrest=>
   have HSUB2:=hid hsub
   have HREST:=hid hrest
   have HLT:=hid hlt
   have HIS:=hid his
   clear hsub hrest hlt his
   simp only[List.mem_cons,List.not_mem_nil,or_false] at hmem
   rcases hmem with rfl
   ·go_upto_region 3 with (go_at_call 143;refine(take_yes HS.out HIS.out).mono ?_;rintro e v0 ⟨rfl,h1,h2⟩;have HT0:=hid h1;have HTB0:=hid h2;clear h1 h2)
    have HTB:=hid HTB0.out
    have HXv:=hid (HX.out.keep (HTB.out.block X HX.out.lt HXG.out.2.1 HXG.out.2.1))
    have HRv:=hid (HR.out.keep (HTB.out.block p HR.out.lt HPN.out.1 HPN.out.1))
    have HKv:Hid (KeptP (fun b=>p < b∧b≠X) v0 cs x):=hid (HK.out.to (fun b h1 h2=>⟨h1,HTB.out.block b h2 (by have:=h1.1;have:=HPN.out;have:=HP.out;have:=H.out.lt;omega) (by have:=h1.1;have:=HPN.out;have:=HP.out;have:=H.out.lt;omega)⟩) HTB.out.size)
    have HBv:=hid (HB.out.trans HTB.out)
    have hs:Whole 29 v0.drew X cs:=HXv.out
    refine wp_region_ord_tail 4 [(0,true),(1,true),(2,false),(3,false)]
     (fun z=>Whole 29 z X cs) (by kernel_rfl) (by kernel_rfl) rfl (by intro c a d v w h;cases d<;>exact h) ?_
    refine ord_load (some 8) (.agg ⟨cs⟩) _ rfl rfl (by first|exact wanted_none rfl|exact wanted_if rfl rfl rfl rfl) hs (fun z hz=>exec_sload 29 rfl X 0 cs _ rfl hz.range Tryz.underlying29 rfl (by rw[HK.out.len];kernel_rfl)) ?_
    go_frame
    refine ord_move (some 9) (.pointer (some ⟨pb,0,none⟩)) _ _ rfl rfl rfl (by first|exact wanted_none rfl|exact wanted_if rfl rfl rfl rfl) hs rfl ?_
    go_frame
    refine ord_to (some 10) 204 Tryz.func204 (by kernel_rfl) (by kernel_rfl) [.pointer (some ⟨pb,0,none⟩)] _ _ _ rfl rfl rfl (by first|exact wanted_none rfl|exact wanted_if rfl rfl rfl rfl) rfl ?_
    refine(HSUB2.out v0.drew d (HT0.out.keep (Below.refl _ v0).drew) HD.out.1 HD.out.2).mono ?_
    rintro e w5 ⟨cb,rfl,hkb,h1,h2⟩
    have hlb:=hkb.len
    have hb5:But v0 w5 pb pb:=(But.of_below (Below.refl _ v0).drew pb pb).trans h2
    have hs5:Whole 29 w5 X cs:=HXv.out.keep (hb5.block X HXv.out.lt HXG.out.2.1 HXG.out.2.1)
    refine⟨_,rfl,hs5,?_⟩
    go_frame
    have hka:KeptP (fun b=>p < b∧b≠X) w5 cs x:=HKv.out.to (fun b h1 h2=>⟨h1,hb5.block b h2 (by have:=h1.1;have:=HPN.out;have:=HP.out;have:=H.out.lt;omega) (by have:=h1.1;have:=HPN.out;have:=HP.out;have:=H.out.lt;omega)⟩) hb5.size
    have hkb2:KeptP (fun b=>p < b∧b≠X) w5 cb y:=hkb.to (fun b h1 h2=>⟨⟨by have h3:v0.heap.size≤b:=h1;have:=HRv.out.lt;omega,by have h3:v0.heap.size≤b:=h1;have:=HXv.out.lt;omega⟩,rfl⟩) (Nat.le_refl _)
    refine ord_to (some 11) 182 Tryz.func182 (by kernel_rfl) (by kernel_rfl) [.int .i64 13,.agg ⟨cs⟩,.agg ⟨cb⟩] _ _ _ rfl rfl rfl (by first|exact wanted_none rfl|exact wanted_if rfl rfl rfl rfl) rfl ?_
    refine(two_raw 13 cs cb hka.len hlb hka.one hkb2.one w5).mono ?_
    rintro e w6 ⟨g,rfl,hg,hwg,hb6⟩
    have hs6:Whole 29 w6 X cs:=hs5.keep (hb6.block X hs5.lt)
    refine⟨_,rfl,hs6,?_⟩
    go_frame
    refine ord_tail ?_
    simp only[List.drop_succ_cons,List.drop_zero]
    have hpg:p < g∧g≠X:=⟨by have:=HRv.out.lt;have:=hb5.size;omega,by have:=hs5.lt;omega⟩
    have hkt:KeptP (fun b=>p < b∧b≠X) w6 (twoC 13 g) (twoE 13 x y):=two_kept (wf_int 13 (by decide +kernel)) hwg hpg (hka.to (fun b h1 h2=>⟨h1,hb6.block b h2⟩) hb6.size) (hkb2.to (fun b h1 h2=>⟨h1,hb6.block b h2⟩) hb6.size)
    have HKT:=hid hkt
    have HX6:=hid hs6
    have HR6:=hid ((HRv.out.keep (hb5.block p HRv.out.lt HPN.out.1 HPN.out.1)).keep (hb6.block p (by have:=HRv.out.lt;have:=hb5.size;omega)))
    have HS6:=hid (h1.keep hb6)
    have HB6:=hid (HBv.out.trans (hb5.trans (But.of_below hb6 pb pb)))
    have HLX:=hid hka.len
    clear hs hs5 hs6 hb5 hka hkb hkb2 hlb hwg hb6 hkt hg hpg h1 h2
    go_wp2_with ((with_reducible refine wl_wstore 29 _ _ rfl rfl ?hwf0s X cs (twoC 13 g) HX6.out ?hs10s ?hs20s ?hs30s ?hs40s ?hs50s ?_);(case hwf0s=>first|exact wanted_none rfl|exact wanted_if rfl rfl rfl rfl);(case hs10s=>rw[HLX.out];rfl);(case hs20s=>rfl);(case hs30s=>rfl);(case hs40s=>rw[HKT.out.len];kernel_rfl);(case hs50s=>exact HKT.out.one);intro Z hz hb;have HZ:=hid hz;have HZB:=hid hb;clear hz hb)
    go_roundg (toks.length - j)
    case measure=>have:=HLT.out;have h2:=isB_lt HIS.out;have:=HGQ.out;omega
    case rel=>
     refine⟨_,j,_,HREST.out,rfl,HZ.out,HR6.out.keep (HZB.out.block p HR6.out.lt (by have:=HXG.out.1;omega) (by have:=HXG.out.1;omega)),HKT.out.to (fun b h1 h2=>⟨h1,HZB.out.block b h2 h1.2 h1.2⟩) HZB.out.size,HS6.out.under X HXG.out.2.1 HXG.out.2.2 HZB.out,but_last HB6.out HZB.out (by have:=HXG.out.1;have:=HP.out;omega)⟩
theorem pc_or {i j k h:Nat} {x z:ET} (hsub:PCon pb tb c E toks 181 i j h x) (hl:PL 181 [(⟨#[124,124]⟩,14)] h pb tb c E toks x j z k):PCon pb tb c E toks 142 i k h z:=by
 intro w d h h0 hd
 have HSUB:=hid hsub
 have HPL:=hid hl
 clear hsub hl
 go_enter Tryz.func142,Tryz.ntmps142
 go_upto_region 1 with (fail)
 have HR0:=hid (Whole.new w zEc 29)
 have HB0:=hid (box_below w (.cells zEc.toArray 29))
 have hz:(#[Value.int IntKind.i64 0,Value.string { data:= #[] },Value.int IntKind.i64 0,Value.int IntKind.i64 0,Value.float FloatKind.f64 0,Value.string { data:= #[] },Value.slice none 0 0,Value.slice none 0 0,Value.slice none 0 0,Value.slice none 0 0]:Array Value)= zEc.toArray:=rfl
 rw[hz]
 clear hz
 have HRW:Hid (w.heap.size <(w.alloc (.cells zEc.toArray 29)).heap.size):=hid (by simp)
 generalize w.alloc (.cells zEc.toArray 29)= W at*
 obtain⟨p,hp⟩:∃ p,w.heap.size= p:=⟨_,rfl⟩
 rw[hp] at HR0 HRW
 rw[hp]
 have HP:=hid hp
 have HS0:=hid (h.keep HB0.out)
 have HPN:Hid (p≠pb∧p≠tb):=hid ⟨by have:=h.lt;omega,by have:=h.lt;omega⟩
 have H:=hid h
 have HD:=hid (And.intro h0 hd)
 clear hp h h0 hd
 go_upto_region 2 with (first
  |(go_at_call 181;refine(HSUB.out W d HS0.out HD.out.1 HD.out.2).mono ?_;rintro e w1 ⟨cs0,rfl,hk,h1,h2⟩;have hl:=hk.len;have HL0:=hid hl;have HK0:=hid hk;have HS1:=hid h1;have HB1:=hid h2;clear hl hk h1 h2)
  |((with_reducible refine wl_wbox 29 _ _ rfl rfl ?hwe w1 ?zne cs0 ?hz1 ?hz2 ?hz3 ?hz4 ?hz5 ?hz6 ?_);(case hwe=>first|exact wanted_none rfl|exact wanted_if rfl rfl rfl rfl);(case hz1=>rfl);(case hz2=>rw[HL0.out];rfl);(case hz3=>rfl);(case hz4=>rfl);(case hz5=>rw[HL0.out];kernel_rfl);(case hz6=>exact HK0.out.one);intro W2 hz hb hlt;have HX2:=hid hz;have HB2:=hid hb;have HLT2:=hid hlt;clear hz hb hlt))
 obtain⟨X,hX⟩:∃ X,w1.heap.size= X:=⟨_,rfl⟩
 rw[hX] at HX2 HB2 HLT2
 rw[hX]
 have hXX:=hX
 have HXG:Hid (p < X∧X≠pb∧X≠tb):=hid ⟨by have:=HRW.out;have:=HB1.out.size;omega,by have:=HS1.out.lt;omega,by have:=HS1.out.lt;omega⟩
 have hB12:Below w1.heap.size w1 W2:=by rw[hX];exact HB2.out
 have HR2:=hid ((HR0.out.keep (HB1.out.block p HRW.out HPN.out.1 HPN.out.1)).keep (hB12.block p (by rw[hX];exact HXG.out.1)))
 have HS2:=hid (HS1.out.keep hB12)
 have HK2:Hid (KeptP (fun b=>p < b∧b≠X) W2 cs0 x):=hid (HK0.out.to (fun b h1 h2=>⟨⟨by have:=HRW.out;omega,by omega⟩,hB12.block b h2⟩) hB12.size)
 have HBW2:Hid (But w W2 pb pb):=hid ((But.of_below HB0.out pb pb).trans (HB1.out.trans (But.of_below hB12 pb pb)))
 clear hX hXX hB12 HB1 HB2 HLT2 HK0 HS1 HS0 HR0
 go_wp2
 go_loopg [] (toks.length - j) (fun q u=>∃ (x:ET) (i:Nat) (cs:List Value),PL 181 [(⟨#[124,124]⟩,14)] h pb tb c E toks x i z k∧q= toks.length - i∧Whole 29 u X cs∧Whole 29 u p zEc∧KeptP (fun b=>p < b∧b≠X) u cs x∧PSt pb tb c E toks u i d∧But w u pb pb)
 case atStart=>exact⟨x,j,cs0,HPL.out,rfl,HX2.out,HR2.out,HK2.out,HS2.out,HBW2.out⟩
 case round=>
  clear HX2 HR2 HK2 HS2 HBW2 HL0 HPL
  obtain⟨x,i,cs,hpl,hq,hx,hr,hk,hs,hb⟩:=hrel
  have HX:=hid hx
  have HR:=hid hr
  have HK:=hid hk
  have HS:=hid hs
  have HB:=hid hb
  have HGQ:=hid hq
  clear hx hr hk hs hb hq
  cases hpl with
  |done _ _ hno=>
   have HNO:=hid hno
   clear hno
   go_upto_region 4 with (go_at_call 143;refine(take_no HS.out (HNO.out (⟨#[124,124]⟩,14) (by simp))).mono ?_;rintro e v0 ⟨rfl,h1,h2⟩;have HT0:=hid h1;have HTB0:=hid h2;clear h1 h2)
   have HTB:=hid HTB0.out
   have HXv:=hid (HX.out.keep (HTB.out.block X HX.out.lt HXG.out.2.1 HXG.out.2.1))
   have HRv:=hid (HR.out.keep (HTB.out.block p HR.out.lt HPN.out.1 HPN.out.1))
   have HKv:Hid (KeptP (fun b=>p < b∧b≠X) v0 cs z):=hid (HK.out.to (fun b h1 h2=>⟨h1,HTB.out.block b h2 (by have:=h1.1;have:=HPN.out;have:=HP.out;have:=H.out.lt;omega) (by have:=h1.1;have:=HPN.out;have:=HP.out;have:=H.out.lt;omega)⟩) HTB.out.size)
   have HBv:=hid (HB.out.trans HTB.out)
   clear HX HR HK
   have HX:=HXv
   have HK:=HKv
   have HXR:=hid (HX.out.range)
   have HLX:=hid (HK.out.len)
   go_wp2_with (first
    |((with_reducible refine wl_sload 29 _ rfl ?hwld X 0 cs _ rfl HXR.out Tryz.underlying29 rfl ?hild ?_);(case hwld=>first|exact wanted_none rfl|exact wanted_if rfl rfl rfl rfl);(case hild=>rw[HLX.out];kernel_rfl))
    |((with_reducible refine wl_wstore 29 _ _ rfl rfl ?hwfd p zEc cs HRv.out ?hs1d ?hs2d ?hs3d ?hs4d ?hs5d ?_);(case hwfd=>first|exact wanted_none rfl|exact wanted_if rfl rfl rfl rfl);(case hs1d=>rw[HLX.out];rfl);(case hs2d=>rfl);(case hs3d=>rfl);(case hs4d=>rw[HLX.out];kernel_rfl);(case hs5d=>exact HK.out.one);intro Z hz hb;have HZ:=hid hz;have HZB:=hid hb;clear hz hb))
   (try simp only[Exit.inBlock,Exit.then])
   refine bodyPost_ret (results_exp rfl _ _ p cs HLX.out rfl HZ.out) rfl ?_
   have hp:=HP.out
   refine⟨cs,rfl,?_,HT0.out.under p HPN.out.1 HPN.out.2 HZB.out,but_last HBv.out HZB.out (by omega)⟩
   exact KeptP.to (q:=fun b=>w.heap.size≤b) HK.out (fun b h1 h2=>⟨by have:=h1.1;show w.heap.size≤b;omega,HZB.out.block b h2 (by have:=h1.1;omega) (by have:=h1.1;omega)⟩) HZB.out.size
  |step _ _ y j z _ sg hmem his hsub hlt hrest=>
   have HSUB2:=hid hsub
   have HREST:=hid hrest
   have HLT:=hid hlt
   have HIS:=hid his
   clear hsub hrest hlt his
   simp only[List.mem_cons,List.not_mem_nil,or_false] at hmem
   rcases hmem with rfl
   ·go_upto_region 3 with (go_at_call 143;refine(take_yes HS.out HIS.out).mono ?_;rintro e v0 ⟨rfl,h1,h2⟩;have HT0:=hid h1;have HTB0:=hid h2;clear h1 h2)
    have HTB:=hid HTB0.out
    have HXv:=hid (HX.out.keep (HTB.out.block X HX.out.lt HXG.out.2.1 HXG.out.2.1))
    have HRv:=hid (HR.out.keep (HTB.out.block p HR.out.lt HPN.out.1 HPN.out.1))
    have HKv:Hid (KeptP (fun b=>p < b∧b≠X) v0 cs x):=hid (HK.out.to (fun b h1 h2=>⟨h1,HTB.out.block b h2 (by have:=h1.1;have:=HPN.out;have:=HP.out;have:=H.out.lt;omega) (by have:=h1.1;have:=HPN.out;have:=HP.out;have:=H.out.lt;omega)⟩) HTB.out.size)
    have HBv:=hid (HB.out.trans HTB.out)
    have hs:Whole 29 v0.drew X cs:=HXv.out
    refine wp_region_ord_tail 4 [(0,true),(1,true),(2,false),(3,false)]
     (fun z=>Whole 29 z X cs) (by kernel_rfl) (by kernel_rfl) rfl (by intro c a d v w h;cases d<;>exact h) ?_
    refine ord_load (some 8) (.agg ⟨cs⟩) _ rfl rfl (by first|exact wanted_none rfl|exact wanted_if rfl rfl rfl rfl) hs (fun z hz=>exec_sload 29 rfl X 0 cs _ rfl hz.range Tryz.underlying29 rfl (by rw[HK.out.len];kernel_rfl)) ?_
    go_frame
    refine ord_move (some 9) (.pointer (some ⟨pb,0,none⟩)) _ _ rfl rfl rfl (by first|exact wanted_none rfl|exact wanted_if rfl rfl rfl rfl) hs rfl ?_
    go_frame
    refine ord_to (some 10) 181 Tryz.func181 (by kernel_rfl) (by kernel_rfl) [.pointer (some ⟨pb,0,none⟩)] _ _ _ rfl rfl rfl (by first|exact wanted_none rfl|exact wanted_if rfl rfl rfl rfl) rfl ?_
    refine(HSUB2.out v0.drew d (HT0.out.keep (Below.refl _ v0).drew) HD.out.1 HD.out.2).mono ?_
    rintro e w5 ⟨cb,rfl,hkb,h1,h2⟩
    have hlb:=hkb.len
    have hb5:But v0 w5 pb pb:=(But.of_below (Below.refl _ v0).drew pb pb).trans h2
    have hs5:Whole 29 w5 X cs:=HXv.out.keep (hb5.block X HXv.out.lt HXG.out.2.1 HXG.out.2.1)
    refine⟨_,rfl,hs5,?_⟩
    go_frame
    have hka:KeptP (fun b=>p < b∧b≠X) w5 cs x:=HKv.out.to (fun b h1 h2=>⟨h1,hb5.block b h2 (by have:=h1.1;have:=HPN.out;have:=HP.out;have:=H.out.lt;omega) (by have:=h1.1;have:=HPN.out;have:=HP.out;have:=H.out.lt;omega)⟩) hb5.size
    have hkb2:KeptP (fun b=>p < b∧b≠X) w5 cb y:=hkb.to (fun b h1 h2=>⟨⟨by have h3:v0.heap.size≤b:=h1;have:=HRv.out.lt;omega,by have h3:v0.heap.size≤b:=h1;have:=HXv.out.lt;omega⟩,rfl⟩) (Nat.le_refl _)
    refine ord_to (some 11) 182 Tryz.func182 (by kernel_rfl) (by kernel_rfl) [.int .i64 14,.agg ⟨cs⟩,.agg ⟨cb⟩] _ _ _ rfl rfl rfl (by first|exact wanted_none rfl|exact wanted_if rfl rfl rfl rfl) rfl ?_
    refine(two_raw 14 cs cb hka.len hlb hka.one hkb2.one w5).mono ?_
    rintro e w6 ⟨g,rfl,hg,hwg,hb6⟩
    have hs6:Whole 29 w6 X cs:=hs5.keep (hb6.block X hs5.lt)
    refine⟨_,rfl,hs6,?_⟩
    go_frame
    refine ord_tail ?_
    simp only[List.drop_succ_cons,List.drop_zero]
    have hpg:p < g∧g≠X:=⟨by have:=HRv.out.lt;have:=hb5.size;omega,by have:=hs5.lt;omega⟩
    have hkt:KeptP (fun b=>p < b∧b≠X) w6 (twoC 14 g) (twoE 14 x y):=two_kept (wf_int 14 (by decide +kernel)) hwg hpg (hka.to (fun b h1 h2=>⟨h1,hb6.block b h2⟩) hb6.size) (hkb2.to (fun b h1 h2=>⟨h1,hb6.block b h2⟩) hb6.size)
    have HKT:=hid hkt
    have HX6:=hid hs6
    have HR6:=hid ((HRv.out.keep (hb5.block p HRv.out.lt HPN.out.1 HPN.out.1)).keep (hb6.block p (by have:=HRv.out.lt;have:=hb5.size;omega)))
    have HS6:=hid (h1.keep hb6)
    have HB6:=hid (HBv.out.trans (hb5.trans (But.of_below hb6 pb pb)))
    have HLX:=hid hka.len
    clear hs hs5 hs6 hb5 hka hkb hkb2 hlb hwg hb6 hkt hg hpg h1 h2
    go_wp2_with ((with_reducible refine wl_wstore 29 _ _ rfl rfl ?hwf0s X cs (twoC 14 g) HX6.out ?hs10s ?hs20s ?hs30s ?hs40s ?hs50s ?_);(case hwf0s=>first|exact wanted_none rfl|exact wanted_if rfl rfl rfl rfl);(case hs10s=>rw[HLX.out];rfl);(case hs20s=>rfl);(case hs30s=>rfl);(case hs40s=>rw[HKT.out.len];kernel_rfl);(case hs50s=>exact HKT.out.one);intro Z hz hb;have HZ:=hid hz;have HZB:=hid hb;clear hz hb)
    go_roundg (toks.length - j)
    case measure=>have:=HLT.out;have h2:=isB_lt HIS.out;have:=HGQ.out;omega
    case rel=>
     refine⟨_,j,_,HREST.out,rfl,HZ.out,HR6.out.keep (HZB.out.block p HR6.out.lt (by have:=HXG.out.1;omega) (by have:=HXG.out.1;omega)),HKT.out.to (fun b h1 h2=>⟨h1,HZB.out.block b h2 h1.2 h1.2⟩) HZB.out.size,HS6.out.under X HXG.out.2.1 HXG.out.2.2 HZB.out,but_last HB6.out HZB.out (by have:=HXG.out.1;have:=HP.out;omega)⟩
end
end Go.Proofs.YtmpbepjjbaeebaaGreatDoor
