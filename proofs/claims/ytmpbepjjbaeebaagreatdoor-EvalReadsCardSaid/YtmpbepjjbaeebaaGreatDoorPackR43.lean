/- Parts of a proof: Levels2, Lex1, Lex2. -/
import Derived.Test.YtmpbepjjbaeebaaGreatDoorPackR27
set_option maxHeartbeats 8000000
set_option maxRecDepth 100000
set_option linter.unusedVariables false
set_option linter.unusedSimpArgs false
section
namespace Go.Proofs.YtmpbepjjbaeebaaGreatDoor
open Go Go.RowKit
open Go.Lib (hid)
section
variable {pb tb c:Nat} {E:Int} {toks:List Tok}
theorem z1K {i j h:Nat} {x:ET} (hsub:PCon pb tb c E toks 222 i j h x) (n1:isB toks j ⟨#[61,61]⟩= false) (n2:isB toks j ⟨#[60,61]⟩= false) (n3:isB toks j ⟨#[60]⟩= false):PCon pb tb c E toks 204 i j h x:=by
 intro w d h h0 hd
 have HSUB:=hid hsub
 have HN1:=hid n1
 have HN2:=hid n2
 have HN3:=hid n3
 clear hsub n1 n2 n3
 go_enter Tryz.func204,Tryz.ntmps204
 go_upto_region 1 with (fail)
 have HR0:=hid (Whole.new w zEc 29)
 have HB0:=hid (zc w (.cells zEc.toArray 29))
 have hz:(#[Value.int IntKind.i64 0,Value.string { data:= #[] },Value.int IntKind.i64 0,Value.int IntKind.i64 0,Value.float FloatKind.f64 0,Value.string { data:= #[] },Value.slice none 0 0,Value.slice none 0 0,Value.slice none 0 0,Value.slice none 0 0]:Array Value)= zEc.toArray:=rfl
 rw[hz]
 clear hz
 have HRW:Hid (w.heap.size <(w.alloc (.cells zEc.toArray 29)).heap.size):=hid (by simp)
 generalize w.alloc (.cells zEc.toArray 29)= W at*
 obtain⟨p,hp⟩:∃ p,w.heap.size= p:=⟨_,rfl⟩
 rw[hp] at HR0 HRW
 rw[hp]
 have HP:=hid hp
 have HS0:=hid (h.keep HB0.out)
 have HPN:Hid (p≠pb∧p≠tb):=hid ⟨by have:=h.lt;omega,by have:=h.lt;omega⟩
 have H:=hid h
 have HD:=hid (And.intro h0 hd)
 clear hp h h0 hd
 go_upto_region 2 with (first
  |(go_at_call 222;refine(HSUB.out W d HS0.out HD.out.1 HD.out.2).mono ?_;rintro e w1 ⟨cs0,rfl,hk,h1,h2⟩;have hl:=hk.len;have HL0:=hid hl;have HK0:=hid hk;have HS1:=hid h1;have HB1:=hid h2;clear hl hk h1 h2)
  |((with_reducible refine z0t 29 _ _ rfl rfl ?hwe w1 ?zne cs0 ?hz1 ?hz2 ?hz3 ?hz4 ?hz5 ?hz6 ?_);(case hwe=>exact wantA rfl);(case hz1=>rfl);(case hz2=>rw[HL0.out];rfl);(case hz3=>rfl);(case hz4=>rfl);(case hz5=>rw[HL0.out];kernel_rfl);(case hz6=>exact HK0.out.one);intro W2 hz hb hlt;have HX2:=hid hz;have HB2:=hid hb;have HLT2:=hid hlt;clear hz hb hlt))
 obtain⟨X,hX⟩:∃ X,w1.heap.size= X:=⟨_,rfl⟩
 rw[hX] at HX2 HB2 HLT2
 rw[hX]
 have hXX:=hX
 have HXG:Hid (p < X∧X≠pb∧X≠tb):=hid ⟨by have:=HRW.out;have:=HB1.out.size;omega,by have:=HS1.out.lt;omega,by have:=HS1.out.lt;omega⟩
 have hB12:Below w1.heap.size w1 W2:=by rw[hX];exact HB2.out
 have HR2:=hid ((HR0.out.keep (HB1.out.block p HRW.out HPN.out.1 HPN.out.1)).keep (hB12.block p (by rw[hX];exact HXG.out.1)))
 have HS2:=hid (HS1.out.keep hB12)
 have HK2:Hid (KeptP (fun b=>p < b∧b≠X) W2 cs0 x):=hid (HK0.out.to (fun b h1 h2=>⟨⟨by have:=HRW.out;omega,by omega⟩,hB12.block b h2⟩) hB12.size)
 have HBW2:Hid (But w W2 pb pb):=hid ((But.of_below HB0.out pb pb).trans (HB1.out.trans (But.of_below hB12 pb pb)))
 clear hX hXX hB12 HB1 HB2 HLT2 HK0 HS1 HS0 HR0
 have HX:=HX2
 have HR:=HR2
 have HK:=HK2
 have HS:=HS2
 have HB:=HBW2
 clear HX2 HR2 HK2 HS2 HBW2
 obtain⟨cs,hcs⟩:∃ cs,cs= cs0:=⟨_,rfl⟩
 rw[← hcs] at HX HK HL0
 rw[← hcs]
 clear hcs
 go_upto_region 4 with (go_at_call 143;refine(zB HS.out HN1.out).mono ?_;rintro e v0 ⟨rfl,h1,h2⟩;have HT0:=hid h1;have HTB0:=hid h2;clear h1 h2)
 go_upto_region 6 with (go_at_call 143;refine(zB HT0.out HN2.out).mono ?_;rintro e v1 ⟨rfl,h1,h2⟩;have HT1:=hid h1;have HTB1:=hid h2;clear h1 h2)
 go_upto_region 8 with (go_at_call 143;refine(zB HT1.out HN3.out).mono ?_;rintro e v2 ⟨rfl,h1,h2⟩;have HT2:=hid h1;have HTB2:=hid h2;clear h1 h2)
 have HTB:=hid (HTB0.out.trans (HTB1.out.trans HTB2.out))
 have HXv:=hid (HX.out.keep (HTB.out.block X HX.out.lt HXG.out.2.1 HXG.out.2.1))
 have HRv:=hid (HR.out.keep (HTB.out.block p HR.out.lt HPN.out.1 HPN.out.1))
 have HKv:Hid (KeptP (fun b=>p < b∧b≠X) v2 cs x):=hid (HK.out.to (fun b h1 h2=>⟨h1,HTB.out.block b h2 (by have:=h1.1;have:=HPN.out;have:=HP.out;have:=H.out.lt;omega) (by have:=h1.1;have:=HPN.out;have:=HP.out;have:=H.out.lt;omega)⟩) HTB.out.size)
 have HBv:=hid (HB.out.trans HTB.out)
 clear HX HR HK
 have HX:=HXv
 have HK:=HKv
 have HXR:=hid (HX.out.range)
 have HLX:=hid (HK.out.len)
 go_wp2_with (first
  |((with_reducible refine z8 29 _ rfl ?hwld X 0 cs _ rfl HXR.out Tryz.underlying29 rfl ?hild ?_);(case hwld=>exact wantA rfl);(case hild=>rw[HLX.out];kernel_rfl))
  |((with_reducible refine zh 29 _ _ rfl rfl ?hwfd p zEc cs HRv.out ?hs1d ?hs2d ?hs3d ?hs4d ?hs5d ?_);(case hwfd=>exact wantA rfl);(case hs1d=>rw[HLX.out];rfl);(case hs2d=>rfl);(case hs3d=>rfl);(case hs4d=>rw[HLX.out];kernel_rfl);(case hs5d=>exact HK.out.one);intro Z hz hb;have HZ:=hid hz;have HZB:=hid hb;clear hz hb))
 (try simp only[Exit.inBlock,Exit.then])
 refine bodyPost_ret (zJ rfl _ _ p cs HLX.out rfl HZ.out) rfl ?_
 have hp:=HP.out
 refine⟨cs,rfl,?_,HT2.out.under p HPN.out.1 HPN.out.2 HZB.out,zI HBv.out HZB.out (by omega)⟩
 exact KeptP.to (q:=fun b=>w.heap.size≤b) HK.out (fun b h1 h2=>⟨by have:=h1.1;show w.heap.size≤b;omega,HZB.out.block b h2 (by have:=h1.1;omega) (by have:=h1.1;omega)⟩) HZB.out.size
theorem z4u {i j k h:Nat} {x y:ET} (hsub:PCon pb tb c E toks 222 i j h x) (n1:isB toks j ⟨#[61,61]⟩= true) (hsub2:PCon pb tb c E toks 222 (j+1) k h y):PCon pb tb c E toks 204 i k h (twoE 10 x y):=by
 intro w d h h0 hd
 have HSUB:=hid hsub
 have HN1:=hid n1
 have HSUB2:=hid hsub2
 clear hsub n1 hsub2
 go_enter Tryz.func204,Tryz.ntmps204
 go_upto_region 1 with (fail)
 have HR0:=hid (Whole.new w zEc 29)
 have HB0:=hid (zc w (.cells zEc.toArray 29))
 have hz:(#[Value.int IntKind.i64 0,Value.string { data:= #[] },Value.int IntKind.i64 0,Value.int IntKind.i64 0,Value.float FloatKind.f64 0,Value.string { data:= #[] },Value.slice none 0 0,Value.slice none 0 0,Value.slice none 0 0,Value.slice none 0 0]:Array Value)= zEc.toArray:=rfl
 rw[hz]
 clear hz
 have HRW:Hid (w.heap.size <(w.alloc (.cells zEc.toArray 29)).heap.size):=hid (by simp)
 generalize w.alloc (.cells zEc.toArray 29)= W at*
 obtain⟨p,hp⟩:∃ p,w.heap.size= p:=⟨_,rfl⟩
 rw[hp] at HR0 HRW
 rw[hp]
 have HP:=hid hp
 have HS0:=hid (h.keep HB0.out)
 have HPN:Hid (p≠pb∧p≠tb):=hid ⟨by have:=h.lt;omega,by have:=h.lt;omega⟩
 have H:=hid h
 have HD:=hid (And.intro h0 hd)
 clear hp h h0 hd
 go_upto_region 2 with (first
  |(go_at_call 222;refine(HSUB.out W d HS0.out HD.out.1 HD.out.2).mono ?_;rintro e w1 ⟨cs0,rfl,hk,h1,h2⟩;have hl:=hk.len;have HL0:=hid hl;have HK0:=hid hk;have HS1:=hid h1;have HB1:=hid h2;clear hl hk h1 h2)
  |((with_reducible refine z0t 29 _ _ rfl rfl ?hwe w1 ?zne cs0 ?hz1 ?hz2 ?hz3 ?hz4 ?hz5 ?hz6 ?_);(case hwe=>exact wantA rfl);(case hz1=>rfl);(case hz2=>rw[HL0.out];rfl);(case hz3=>rfl);(case hz4=>rfl);(case hz5=>rw[HL0.out];kernel_rfl);(case hz6=>exact HK0.out.one);intro W2 hz hb hlt;have HX2:=hid hz;have HB2:=hid hb;have HLT2:=hid hlt;clear hz hb hlt))
 obtain⟨X,hX⟩:∃ X,w1.heap.size= X:=⟨_,rfl⟩
 rw[hX] at HX2 HB2 HLT2
 rw[hX]
 have hXX:=hX
 have HXG:Hid (p < X∧X≠pb∧X≠tb):=hid ⟨by have:=HRW.out;have:=HB1.out.size;omega,by have:=HS1.out.lt;omega,by have:=HS1.out.lt;omega⟩
 have hB12:Below w1.heap.size w1 W2:=by rw[hX];exact HB2.out
 have HR2:=hid ((HR0.out.keep (HB1.out.block p HRW.out HPN.out.1 HPN.out.1)).keep (hB12.block p (by rw[hX];exact HXG.out.1)))
 have HS2:=hid (HS1.out.keep hB12)
 have HK2:Hid (KeptP (fun b=>p < b∧b≠X) W2 cs0 x):=hid (HK0.out.to (fun b h1 h2=>⟨⟨by have:=HRW.out;omega,by omega⟩,hB12.block b h2⟩) hB12.size)
 have HBW2:Hid (But w W2 pb pb):=hid ((But.of_below HB0.out pb pb).trans (HB1.out.trans (But.of_below hB12 pb pb)))
 clear hX hXX hB12 HB1 HB2 HLT2 HK0 HS1 HS0 HR0
 have HX:=HX2
 have HR:=HR2
 have HK:=HK2
 have HS:=HS2
 have HB:=HBW2
 clear HX2 HR2 HK2 HS2 HBW2
 obtain⟨cs,hcs⟩:∃ cs,cs= cs0:=⟨_,rfl⟩
 rw[← hcs] at HX HK HL0
 rw[← hcs]
 clear hcs
 go_upto_region 3 with (go_at_call 143;refine(z0o HS.out HN1.out).mono ?_;rintro e v0 ⟨rfl,h1,h2⟩;have HT0:=hid h1;have HTB0:=hid h2;clear h1 h2)
 have HTB:=hid HTB0.out
 have HXv:=hid (HX.out.keep (HTB.out.block X HX.out.lt HXG.out.2.1 HXG.out.2.1))
 have HRv:=hid (HR.out.keep (HTB.out.block p HR.out.lt HPN.out.1 HPN.out.1))
 have HKv:Hid (KeptP (fun b=>p < b∧b≠X) v0 cs x):=hid (HK.out.to (fun b h1 h2=>⟨h1,HTB.out.block b h2 (by have:=h1.1;have:=HPN.out;have:=HP.out;have:=H.out.lt;omega) (by have:=h1.1;have:=HPN.out;have:=HP.out;have:=H.out.lt;omega)⟩) HTB.out.size)
 have HBv:=hid (HB.out.trans HTB.out)
 have hs:Whole 29 v0.drew X cs:=HXv.out
 refine zu 4 [(0,true),(1,true),(2,false),(3,false)]
  (fun z=>Whole 29 z X cs) (by kernel_rfl) (by kernel_rfl) rfl (by intro c a d v w h;cases d<;>exact h) ?_
 refine za (some 8) (.agg ⟨cs⟩) _ rfl rfl (by exact wantA rfl) hs (fun z hz=>zG 29 rfl X 0 cs _ rfl hz.range Tryz.underlying29 rfl (by rw[HK.out.len];kernel_rfl)) ?_
 go_frame
 refine zj (some 9) (.pointer (some ⟨pb,0,none⟩)) _ _ rfl rfl rfl (by exact wantA rfl) hs rfl ?_
 go_frame
 refine zv (some 10) 222 Tryz.func222 (by kernel_rfl) (by kernel_rfl) [.pointer (some ⟨pb,0,none⟩)] _ _ _ rfl rfl rfl (by exact wantA rfl) rfl ?_
 refine(HSUB2.out v0.drew d (HT0.out.keep (Below.refl _ v0).drew) HD.out.1 HD.out.2).mono ?_
 rintro e w5 ⟨cb,rfl,hkb,h1,h2⟩
 have hlb:=hkb.len
 have hb5:But v0 w5 pb pb:=(But.of_below (Below.refl _ v0).drew pb pb).trans h2
 have hs5:Whole 29 w5 X cs:=HXv.out.keep (hb5.block X HXv.out.lt HXG.out.2.1 HXG.out.2.1)
 refine⟨_,rfl,hs5,?_⟩
 go_frame
 have hka:KeptP (fun b=>p < b∧b≠X) w5 cs x:=HKv.out.to (fun b h1 h2=>⟨h1,hb5.block b h2 (by have:=h1.1;have:=HPN.out;have:=HP.out;have:=H.out.lt;omega) (by have:=h1.1;have:=HPN.out;have:=HP.out;have:=H.out.lt;omega)⟩) hb5.size
 have hkb2:KeptP (fun b=>p < b∧b≠X) w5 cb y:=hkb.to (fun b h1 h2=>⟨⟨by have h3:v0.heap.size≤b:=h1;have:=HRv.out.lt;omega,by have h3:v0.heap.size≤b:=h1;have:=HXv.out.lt;omega⟩,rfl⟩) (Nat.le_refl _)
 refine zv (some 11) 182 Tryz.func182 (by kernel_rfl) (by kernel_rfl) [.int .i64 10,.agg ⟨cs⟩,.agg ⟨cb⟩] _ _ _ rfl rfl rfl (by exact wantA rfl) rfl ?_
 refine(z10 10 cs cb hka.len hlb hka.one hkb2.one w5).mono ?_
 rintro e w6 ⟨g,rfl,hg,hwg,hb6⟩
 have hs6:Whole 29 w6 X cs:=hs5.keep (hb6.block X hs5.lt)
 refine⟨_,rfl,hs6,?_⟩
 go_frame
 refine z0c ?_
 simp only[List.drop_succ_cons,List.drop_zero]
 have hpg:p < g∧g≠X:=⟨by have:=HRv.out.lt;have:=hb5.size;omega,by have:=hs5.lt;omega⟩
 have hkt:KeptP (fun b=>p < b∧b≠X) w6 (twoC 10 g) (twoE 10 x y):=z0I (zr 10 (by decide +kernel)) hwg hpg (hka.to (fun b h1 h2=>⟨h1,hb6.block b h2⟩) hb6.size) (hkb2.to (fun b h1 h2=>⟨h1,hb6.block b h2⟩) hb6.size)
 have HKT:=hid hkt
 have HX6:=hid hs6
 have HR6:=hid ((HRv.out.keep (hb5.block p HRv.out.lt HPN.out.1 HPN.out.1)).keep (hb6.block p (by have:=HRv.out.lt;have:=hb5.size;omega)))
 have HS6:=hid (h1.keep hb6)
 have HB6:=hid (HBv.out.trans (hb5.trans (But.of_below hb6 pb pb)))
 have HLX:=hid hka.len
 clear hs hs5 hs6 hb5 hka hkb hkb2 hlb hwg hb6 hkt hg hpg h1 h2
 go_wp2_with ((with_reducible refine zh 29 _ _ rfl rfl ?hwfe p zEc (twoC 10 g) HR6.out ?hs1e ?hs2e ?hs3e ?hs4e ?hs5e ?_);(case hwfe=>exact wantA rfl);(case hs1e=>rfl);(case hs2e=>rfl);(case hs3e=>rfl);(case hs4e=>rw[HKT.out.len];kernel_rfl);(case hs5e=>exact HKT.out.one);intro Z hz hb;have HZ:=hid hz;have HZB:=hid hb;clear hz hb)
 (try simp only[Exit.inBlock,Exit.then])
 refine bodyPost_ret (zJ rfl _ _ p (twoC 10 g) HKT.out.len rfl HZ.out) rfl ?_
 have hp:=HP.out
 refine⟨_,rfl,?_,HS6.out.under p HPN.out.1 HPN.out.2 HZB.out,zI HB6.out HZB.out (by omega)⟩
 exact KeptP.to (q:=fun b=>w.heap.size≤b) HKT.out (fun b h1 h2=>⟨by have:=h1.1;show w.heap.size≤b;omega,HZB.out.block b h2 (by have:=h1.1;omega) (by have:=h1.1;omega)⟩) HZB.out.size
theorem z0Y {i j h:Nat} {x:ET} (hsub:PCon pb tb c E toks 142 i j h x) (n1:isB toks j ⟨#[63]⟩= false):PCon pb tb c E toks 98 i j (h+1) x:=by
 intro w d h h0 hd
 have HSUB:=hid hsub
 have HN1:=hid n1
 clear hsub n1
 go_enter Tryz.func98,Tryz.ntmps98
 go_upto_region 1 with (fail)
 have HR0:=hid (Whole.new w zEc 29)
 have HB0:=hid (zc w (.cells zEc.toArray 29))
 have hz:(#[Value.int IntKind.i64 0,Value.string { data:= #[] },Value.int IntKind.i64 0,Value.int IntKind.i64 0,Value.float FloatKind.f64 0,Value.string { data:= #[] },Value.slice none 0 0,Value.slice none 0 0,Value.slice none 0 0,Value.slice none 0 0]:Array Value)= zEc.toArray:=rfl
 rw[hz]
 clear hz
 have HRW:Hid (w.heap.size <(w.alloc (.cells zEc.toArray 29)).heap.size):=hid (by simp)
 generalize w.alloc (.cells zEc.toArray 29)= W at*
 obtain⟨p,hp⟩:∃ p,w.heap.size= p:=⟨_,rfl⟩
 rw[hp] at HR0 HRW
 rw[hp]
 have HP:=hid hp
 have HS0:=hid (h.keep HB0.out)
 have HPN:Hid (p≠pb∧p≠tb):=hid ⟨by have:=h.lt;omega,by have:=h.lt;omega⟩
 have H:=hid h
 have HD:=hid (And.intro h0 hd)
 clear hp h h0 hd
 go_upto_region 2 with (go_at_call 141;refine(z7A HS0.out HD.out.1 (by have:=HD.out.2;omega)).mono ?_;rintro e w0 ⟨rfl,h1,h2⟩;have HS00:=hid h1;have HB00:=hid h2;clear h1 h2)
 have HR00:=hid (HR0.out.keep (HB00.out.block p HRW.out HPN.out.1 HPN.out.1))
 have HRW0:Hid (p < w0.heap.size):=hid HR00.out.lt
 have HBB0:=hid ((But.of_below HB0.out pb pb).trans HB00.out)
 clear HR0 HRW HS0 HB0 HB00
 have HR0:=HR00
 have HRW:=HRW0
 have HS0:=HS00
 clear HR00 HRW0 HS00
 go_upto_region 3 with (first
  |(go_at_call 142;refine(HSUB.out w0 (d+1) HS0.out (by have:=HD.out.1;omega) (by have:=HD.out.2;omega)).mono ?_;rintro e w1 ⟨cs0,rfl,hk,h1,h2⟩;have hl:=hk.len;have HL0:=hid hl;have HK0:=hid hk;have HS1:=hid h1;have HB1:=hid h2;clear hl hk h1 h2)
  |((with_reducible refine z0t 29 _ _ rfl rfl ?hwe w1 ?zne cs0 ?hz1 ?hz2 ?hz3 ?hz4 ?hz5 ?hz6 ?_);(case hwe=>exact wantA rfl);(case hz1=>rfl);(case hz2=>rw[HL0.out];rfl);(case hz3=>rfl);(case hz4=>rfl);(case hz5=>rw[HL0.out];kernel_rfl);(case hz6=>exact HK0.out.one);intro W2 hz hb hlt;have HX2:=hid hz;have HB2:=hid hb;have HLT2:=hid hlt;clear hz hb hlt))
 obtain⟨X,hX⟩:∃ X,w1.heap.size= X:=⟨_,rfl⟩
 rw[hX] at HX2 HB2 HLT2
 rw[hX]
 have hXX:=hX
 have HXG:Hid (p < X∧X≠pb∧X≠tb):=hid ⟨by have:=HRW.out;have:=HB1.out.size;omega,by have:=HS1.out.lt;omega,by have:=HS1.out.lt;omega⟩
 have hB12:Below w1.heap.size w1 W2:=by rw[hX];exact HB2.out
 have HR2:=hid ((HR0.out.keep (HB1.out.block p HRW.out HPN.out.1 HPN.out.1)).keep (hB12.block p (by rw[hX];exact HXG.out.1)))
 have HS2:=hid (HS1.out.keep hB12)
 have HK2:Hid (KeptP (fun b=>p < b∧b≠X) W2 cs0 x):=hid (HK0.out.to (fun b h1 h2=>⟨⟨by have:=HRW.out;omega,by omega⟩,hB12.block b h2⟩) hB12.size)
 have HBW2:Hid (But w W2 pb pb):=hid (HBB0.out.trans (HB1.out.trans (But.of_below hB12 pb pb)))
 clear hX hXX hB12 HB1 HB2 HLT2 HK0 HS1 HS0 HR0
 have HX:=HX2
 have HR:=HR2
 have HK:=HK2
 have HS:=HS2
 have HB:=HBW2
 clear HX2 HR2 HK2 HS2 HBW2
 obtain⟨cs,hcs⟩:∃ cs,cs= cs0:=⟨_,rfl⟩
 rw[← hcs] at HX HK HL0
 rw[← hcs]
 clear hcs
 go_upto_region 8 with (go_at_call 143;refine(zB HS.out HN1.out).mono ?_;rintro e v0 ⟨rfl,h1,h2⟩;have HT0:=hid h1;have HTB0:=hid h2;clear h1 h2)
 have HTB:=hid HTB0.out
 have HXv:=hid (HX.out.keep (HTB.out.block X HX.out.lt HXG.out.2.1 HXG.out.2.1))
 have HRv:=hid (HR.out.keep (HTB.out.block p HR.out.lt HPN.out.1 HPN.out.1))
 have HKv:Hid (KeptP (fun b=>p < b∧b≠X) v0 cs x):=hid (HK.out.to (fun b h1 h2=>⟨h1,HTB.out.block b h2 (by have:=h1.1;have:=HPN.out;have:=HP.out;have:=H.out.lt;omega) (by have:=h1.1;have:=HPN.out;have:=HP.out;have:=H.out.lt;omega)⟩) HTB.out.size)
 have HBv:=hid (HB.out.trans HTB.out)
 have HSu:=HT0
 have d5:=HSu.out.cell 5
 have f5:=HSu.out.thaw 5
 simp only[List.getElem?_toArray,List.getElem?_cons_succ,List.getElem?_cons_zero] at d5
 have HS9:=hid (HSu.out.setD d)
 have HB9:=hid (But.setAt v0 pb 5 (.int .i64 d))
 have hd1:d+1 - 1= d:=by omega
 have hd2:wrap64 d= d:=by have:=HD.out;unfold wrap64;omega
 go_upto_region 9 with (fail)
 generalize v0.setCell ⟨pb,5,none⟩ (.int .i64 d)= v9 at*
 have HX9:=hid (HXv.out.keep (HB9.out.block X HXv.out.lt HXG.out.2.1 HXG.out.2.1))
 have HR9:=hid (HRv.out.keep (HB9.out.block p HRv.out.lt HPN.out.1 HPN.out.1))
 have HK9:Hid (KeptP (fun b=>p < b∧b≠X) v9 cs x):=hid (HKv.out.to (fun b h1 h2=>⟨h1,HB9.out.block b h2 (by have:=h1.1;have:=HPN.out;have:=HP.out;have:=H.out.lt;omega) (by have:=h1.1;have:=HPN.out;have:=HP.out;have:=H.out.lt;omega)⟩) HB9.out.size)
 have HB10:=hid (HBv.out.trans HB9.out)
 clear HX HR HK HXv HRv HKv d5 f5 hd1 hd2
 have HX:=HX9
 have HK:=HK9
 have HXR:=hid (HX.out.range)
 have HLX:=hid (HK.out.len)
 go_wp2_with (first
  |((with_reducible refine z8 29 _ rfl ?hwld X 0 cs _ rfl HXR.out Tryz.underlying29 rfl ?hild ?_);(case hwld=>exact wantA rfl);(case hild=>rw[HLX.out];kernel_rfl))
  |((with_reducible refine zh 29 _ _ rfl rfl ?hwfd p zEc cs HR9.out ?hs1d ?hs2d ?hs3d ?hs4d ?hs5d ?_);(case hwfd=>exact wantA rfl);(case hs1d=>rw[HLX.out];rfl);(case hs2d=>rfl);(case hs3d=>rfl);(case hs4d=>rw[HLX.out];kernel_rfl);(case hs5d=>exact HK.out.one);intro Z hz hb;have HZ:=hid hz;have HZB:=hid hb;clear hz hb))
 (try simp only[Exit.inBlock,Exit.then])
 refine bodyPost_ret (zJ rfl _ _ p cs HLX.out rfl HZ.out) rfl ?_
 have hp:=HP.out
 refine⟨cs,rfl,?_,HS9.out.under p HPN.out.1 HPN.out.2 HZB.out,zI HB10.out HZB.out (by omega)⟩
 exact KeptP.to (q:=fun b=>w.heap.size≤b) HK.out (fun b h1 h2=>⟨by have:=h1.1;show w.heap.size≤b;omega,HZB.out.block b h2 (by have:=h1.1;omega) (by have:=h1.1;omega)⟩) HZB.out.size
theorem zO {i j h:Nat} {x:ET} (hsub:PCon pb tb c E toks 249 i j h x) (n1:isB toks i ⟨#[45]⟩= false) (n2:isB toks i ⟨#[33]⟩= false):PCon pb tb c E toks 245 i j (h+1) x:=by
 intro w d h h0 hd
 have HSUB:=hid hsub
 have HN1:=hid n1
 have HN2:=hid n2
 clear hsub n1 n2
 go_enter Tryz.func245,Tryz.ntmps245
 go_upto_region 1 with (fail)
 have HR0:=hid (Whole.new w zEc 29)
 have HB0:=hid (zc w (.cells zEc.toArray 29))
 have hz:(#[Value.int IntKind.i64 0,Value.string { data:= #[] },Value.int IntKind.i64 0,Value.int IntKind.i64 0,Value.float FloatKind.f64 0,Value.string { data:= #[] },Value.slice none 0 0,Value.slice none 0 0,Value.slice none 0 0,Value.slice none 0 0]:Array Value)= zEc.toArray:=rfl
 rw[hz]
 clear hz
 have HRW:Hid (w.heap.size <(w.alloc (.cells zEc.toArray 29)).heap.size):=hid (by simp)
 generalize w.alloc (.cells zEc.toArray 29)= W at*
 obtain⟨p,hp⟩:∃ p,w.heap.size= p:=⟨_,rfl⟩
 rw[hp] at HR0 HRW
 rw[hp]
 have HP:=hid hp
 have HS0:=hid (h.keep HB0.out)
 have HPN:Hid (p≠pb∧p≠tb):=hid ⟨by have:=h.lt;omega,by have:=h.lt;omega⟩
 have H:=hid h
 have HD:=hid (And.intro h0 hd)
 clear hp h h0 hd
 go_upto_region 2 with (go_at_call 141;refine(z7A HS0.out HD.out.1 (by have:=HD.out.2;omega)).mono ?_;rintro e w0 ⟨rfl,h1,h2⟩;have HS00:=hid h1;have HB00:=hid h2;clear h1 h2)
 have HR00:=hid (HR0.out.keep (HB00.out.block p HRW.out HPN.out.1 HPN.out.1))
 have HRW0:Hid (p < w0.heap.size):=hid HR00.out.lt
 have HBB0:=hid ((But.of_below HB0.out pb pb).trans HB00.out)
 clear HR0 HRW HS0 HB0 HB00
 have HR0:=HR00
 have HRW:=HRW0
 have HS0:=HS00
 clear HR00 HRW0 HS00
 go_upto_region 3 with ((with_reducible refine z0t 29 _ _ rfl rfl ?hwe w0 ?zne zEc ?hz1 ?hz2 ?hz3 ?hz4 ?hz5 ?hz6 ?_);(case hwe=>exact wantA rfl);(case hz1=>rfl);(case hz2=>rfl);(case hz3=>rfl);(case hz4=>rfl);(case hz5=>kernel_rfl);(case hz6=>intro v hv;simp only[zEc,zVc,List.mem_cons,List.mem_append,List.not_mem_nil,or_false] at hv;rcases hv with rfl|rfl|(rfl|rfl|rfl|rfl|rfl|rfl)|rfl|rfl<;>rfl);intro W2 hz hb hlt;have HX2:=hid hz;have HB2:=hid hb;have HLT2:=hid hlt;clear hz hb hlt)
 obtain⟨X,hX⟩:∃ X,w0.heap.size= X:=⟨_,rfl⟩
 rw[hX] at HX2 HB2 HLT2
 rw[hX]
 have HXG:Hid (p < X∧X≠pb∧X≠tb):=hid ⟨by have:=HRW.out;omega,by have:=HS0.out.lt;omega,by have:=HS0.out.lt;omega⟩
 have hB02:Below w0.heap.size w0 W2:=by rw[hX];exact HB2.out
 have HR2:=hid (HR0.out.keep (hB02.block p (by rw[hX];exact HXG.out.1)))
 have HS2:=hid (HS0.out.keep hB02)
 have HBW2:Hid (But w W2 pb pb):=hid (HBB0.out.trans (But.of_below hB02 pb pb))
 clear hX hB02 HB2 HLT2 HS0 HR0 HBB0 HRW
 have HX:=HX2
 have HR:=HR2
 have HS:=HS2
 have HB:=HBW2
 clear HX2 HR2 HS2 HBW2
 go_upto_region 5 with (go_at_call 143;refine(zB HS.out HN1.out).mono ?_;rintro e v0 ⟨rfl,h1,h2⟩;have HT0:=hid h1;have HTB0:=hid h2;clear h1 h2)
 go_upto_region 7 with (go_at_call 143;refine(zB HT0.out HN2.out).mono ?_;rintro e v1 ⟨rfl,h1,h2⟩;have HT1:=hid h1;have HTB1:=hid h2;clear h1 h2)
 have HTB:=hid (HTB0.out.trans HTB1.out)
 have HX1:=hid (HX.out.keep (HTB.out.block X HX.out.lt HXG.out.2.1 HXG.out.2.1))
 have HR1:=hid (HR.out.keep (HTB.out.block p HR.out.lt HPN.out.1 HPN.out.1))
 have HB1:=hid (HB.out.trans HTB.out)
 clear HX HR HB HS HTB0 HTB1 HT0 HTB
 go_upto_region 8 with (first
  |(go_at_call 249;refine(HSUB.out v1 (d+1) HT1.out (by have:=HD.out.1;omega) (by have:=HD.out.2;omega)).mono ?_;rintro e w3 ⟨cs,rfl,hk,h1,h2⟩;have hl:=hk.len;have HLX:=hid hl;have HK3:=hid hk;have HS3:=hid h1;have HB3:=hid h2;have HX3:=hid (HX1.out.keep (h2.block X HX1.out.lt HXG.out.2.1 HXG.out.2.1));clear hl hk h1 h2)
  |((with_reducible refine zh 29 _ _ rfl rfl ?hwu X zEc cs HX3.out ?hu1 ?hu2 ?hu3 ?hu4 ?hu5 ?_);(case hwu=>exact wantA rfl);(case hu1=>rw[HLX.out];rfl);(case hu2=>rfl);(case hu3=>rfl);(case hu4=>rw[HLX.out];kernel_rfl);(case hu5=>exact HK3.out.one);intro v0 hz hb;have HX4:=hid hz;have HB4:=hid hb;clear hz hb))
 have HXv:=HX4
 have HRv:=hid ((HR1.out.keep (HB3.out.block p HR1.out.lt HPN.out.1 HPN.out.1)).keep (HB4.out.block p (by have:=HX3.out.lt;have:=HXG.out.1;omega) (by have:=HXG.out.1;omega) (by have:=HXG.out.1;omega)))
 have HKv:Hid (KeptP (fun b=>p < b∧b≠X) v0 cs x):=hid (KeptP.to (q:=fun b=>p < b∧b≠X) HK3.out (fun b h1 h2=>by
  have h3:v1.heap.size≤b:=h1
  have h4:=HX1.out.lt
  have h5:=HXG.out.1
  exact⟨⟨by omega,by omega⟩,HB4.out.block b h2 (by omega) (by omega)⟩) HB4.out.size)
 have HBv:=hid (zI (HB1.out.trans HB3.out) HB4.out (by have:=HXG.out.1;have:=HP.out;omega))
 have HSu:=hid (HS3.out.under X HXG.out.2.1 HXG.out.2.2 HB4.out)
 have HX:=HX4
 have HR:=HRv
 have HK:=HKv
 clear HX1 HR1 HB1 HX3 HB3 HB4 HX4 HK3 HS3
 have d5:=HSu.out.cell 5
 have f5:=HSu.out.thaw 5
 simp only[List.getElem?_toArray,List.getElem?_cons_succ,List.getElem?_cons_zero] at d5
 have HS9:=hid (HSu.out.setD d)
 have HB9:=hid (But.setAt v0 pb 5 (.int .i64 d))
 have hd1:d+1 - 1= d:=by omega
 have hd2:wrap64 d= d:=by have:=HD.out;unfold wrap64;omega
 go_upto_region 9 with (fail)
 generalize v0.setCell ⟨pb,5,none⟩ (.int .i64 d)= v9 at*
 have HX9:=hid (HXv.out.keep (HB9.out.block X HXv.out.lt HXG.out.2.1 HXG.out.2.1))
 have HR9:=hid (HRv.out.keep (HB9.out.block p HRv.out.lt HPN.out.1 HPN.out.1))
 have HK9:Hid (KeptP (fun b=>p < b∧b≠X) v9 cs x):=hid (HKv.out.to (fun b h1 h2=>⟨h1,HB9.out.block b h2 (by have:=h1.1;have:=HPN.out;have:=HP.out;have:=H.out.lt;omega) (by have:=h1.1;have:=HPN.out;have:=HP.out;have:=H.out.lt;omega)⟩) HB9.out.size)
 have HB10:=hid (HBv.out.trans HB9.out)
 clear HX HR HK HXv HRv HKv d5 f5 hd1 hd2
 have HX:=HX9
 have HK:=HK9
 have HXR:=hid (HX.out.range)
 go_wp2_with (first
  |((with_reducible refine z8 29 _ rfl ?hwld X 0 cs _ rfl HXR.out Tryz.underlying29 rfl ?hild ?_);(case hwld=>exact wantA rfl);(case hild=>rw[HLX.out];kernel_rfl))
  |((with_reducible refine zh 29 _ _ rfl rfl ?hwfd p zEc cs HR9.out ?hs1d ?hs2d ?hs3d ?hs4d ?hs5d ?_);(case hwfd=>exact wantA rfl);(case hs1d=>rw[HLX.out];rfl);(case hs2d=>rfl);(case hs3d=>rfl);(case hs4d=>rw[HLX.out];kernel_rfl);(case hs5d=>exact HK.out.one);intro Z hz hb;have HZ:=hid hz;have HZB:=hid hb;clear hz hb))
 (try simp only[Exit.inBlock,Exit.then])
 refine bodyPost_ret (zJ rfl _ _ p cs HLX.out rfl HZ.out) rfl ?_
 have hp:=HP.out
 refine⟨cs,rfl,?_,HS9.out.under p HPN.out.1 HPN.out.2 HZB.out,zI HB10.out HZB.out (by omega)⟩
 exact KeptP.to (q:=fun b=>w.heap.size≤b) HK.out (fun b h1 h2=>⟨by have:=h1.1;show w.heap.size≤b;omega,HZB.out.block b h2 (by have:=h1.1;omega) (by have:=h1.1;omega)⟩) HZB.out.size
inductive PI (h:Nat) (pb tb c:Nat) (E:Int) (toks:List Tok):ET→Nat→ET→Nat→Prop
 |done (x:ET) (i:Nat):isB toks i ⟨#[46]⟩= false→isB toks i ⟨#[91]⟩= false→PI h pb tb c E toks x i x i
 |step (x:ET) (i:Nat) (y:ET) (j:Nat) (z:ET) (k:Nat):isB toks i ⟨#[91]⟩= true→PCon pb tb c E toks 98 (i+1) j h y→isB toks j ⟨#[93]⟩= true→i < j→PI h pb tb c E toks (twoE 19 x y) (j+1) z k→PI h pb tb c E toks x i z k
theorem zW {i j k h:Nat} {x z:ET} (hsub:PCon pb tb c E toks 250 i j h x) (hl:PI h pb tb c E toks x j z k):PCon pb tb c E toks 249 i k h z:=by
 intro w d h h0 hd
 have HSUB:=hid hsub
 have HPL:=hid hl
 clear hsub hl
 go_enter Tryz.func249,Tryz.ntmps249
 go_upto_region 1 with (fail)
 have HR0:=hid (Whole.new w zEc 29)
 have HB0:=hid (zc w (.cells zEc.toArray 29))
 have hz:(#[Value.int IntKind.i64 0,Value.string { data:= #[] },Value.int IntKind.i64 0,Value.int IntKind.i64 0,Value.float FloatKind.f64 0,Value.string { data:= #[] },Value.slice none 0 0,Value.slice none 0 0,Value.slice none 0 0,Value.slice none 0 0]:Array Value)= zEc.toArray:=rfl
 rw[hz]
 clear hz
 have HRW:Hid (w.heap.size <(w.alloc (.cells zEc.toArray 29)).heap.size):=hid (by simp)
 generalize w.alloc (.cells zEc.toArray 29)= W at*
 obtain⟨p,hp⟩:∃ p,w.heap.size= p:=⟨_,rfl⟩
 rw[hp] at HR0 HRW
 rw[hp]
 have HP:=hid hp
 have HS0:=hid (h.keep HB0.out)
 have HPN:Hid (p≠pb∧p≠tb):=hid ⟨by have:=h.lt;omega,by have:=h.lt;omega⟩
 have H:=hid h
 have HD:=hid (And.intro h0 hd)
 clear hp h h0 hd
 go_upto_region 2 with (first
  |(go_at_call 250;refine(HSUB.out W d HS0.out HD.out.1 HD.out.2).mono ?_;rintro e w1 ⟨cs0,rfl,hk,h1,h2⟩;have hl:=hk.len;have HL0:=hid hl;have HK0:=hid hk;have HS1:=hid h1;have HB1:=hid h2;clear hl hk h1 h2)
  |((with_reducible refine z0t 29 _ _ rfl rfl ?hwe w1 ?zne cs0 ?hz1 ?hz2 ?hz3 ?hz4 ?hz5 ?hz6 ?_);(case hwe=>exact wantA rfl);(case hz1=>rfl);(case hz2=>rw[HL0.out];rfl);(case hz3=>rfl);(case hz4=>rfl);(case hz5=>rw[HL0.out];kernel_rfl);(case hz6=>exact HK0.out.one);intro W2 hz hb hlt;have HX2:=hid hz;have HB2:=hid hb;have HLT2:=hid hlt;clear hz hb hlt))
 obtain⟨X,hX⟩:∃ X,w1.heap.size= X:=⟨_,rfl⟩
 rw[hX] at HX2 HB2 HLT2
 rw[hX]
 have hXX:=hX
 have HXG:Hid (p < X∧X≠pb∧X≠tb):=hid ⟨by have:=HRW.out;have:=HB1.out.size;omega,by have:=HS1.out.lt;omega,by have:=HS1.out.lt;omega⟩
 have hB12:Below w1.heap.size w1 W2:=by rw[hX];exact HB2.out
 have HR2:=hid ((HR0.out.keep (HB1.out.block p HRW.out HPN.out.1 HPN.out.1)).keep (hB12.block p (by rw[hX];exact HXG.out.1)))
 have HS2:=hid (HS1.out.keep hB12)
 have HK2:Hid (KeptP (fun b=>p < b∧b≠X) W2 cs0 x):=hid (HK0.out.to (fun b h1 h2=>⟨⟨by have:=HRW.out;omega,by omega⟩,hB12.block b h2⟩) hB12.size)
 have HBW2:Hid (But w W2 pb pb):=hid ((But.of_below HB0.out pb pb).trans (HB1.out.trans (But.of_below hB12 pb pb)))
 clear hX hXX hB12 HB1 HB2 HLT2 HK0 HS1 HS0 HR0
 go_wp2
 go_loopg [] (toks.length - j) (fun q u=>∃ (x:ET) (i:Nat) (cs:List Value),PI h pb tb c E toks x i z k∧q= toks.length - i∧Whole 29 u X cs∧Whole 29 u p zEc∧KeptP (fun b=>p < b∧b≠X) u cs x∧PSt pb tb c E toks u i d∧But w u pb pb)
 case atStart=>exact⟨x,j,cs0,HPL.out,rfl,HX2.out,HR2.out,HK2.out,HS2.out,HBW2.out⟩
 case round=>
  clear HX2 HR2 HK2 HS2 HBW2 HL0 HPL
  obtain⟨x,i,cs,hpl,hq,hx,hr,hk,hs,hb⟩:=hrel
  have HX:=hid hx
  have HR:=hid hr
  have HK:=hid hk
  have HS:=hid hs
  have HB:=hid hb
  have HGQ:=hid hq
  clear hx hr hk hs hb hq
  cases hpl with
  |done _ _ hno1 hno2=>
   have HN1:=hid hno1
   have HN2:=hid hno2
   clear hno1 hno2
   go_upto_region 5 with (go_at_call 143;refine(zB HS.out HN1.out).mono ?_;rintro e v0 ⟨rfl,h1,h2⟩;have HT0:=hid h1;have HTB0:=hid h2;clear h1 h2)
   go_upto_region 8 with (go_at_call 143;refine(zB HT0.out HN2.out).mono ?_;rintro e v1 ⟨rfl,h1,h2⟩;have HT1:=hid h1;have HTB1:=hid h2;clear h1 h2)
   have HTB:=hid (HTB0.out.trans HTB1.out)
   have HXv:=hid (HX.out.keep (HTB.out.block X HX.out.lt HXG.out.2.1 HXG.out.2.1))
   have HRv:=hid (HR.out.keep (HTB.out.block p HR.out.lt HPN.out.1 HPN.out.1))
   have HKv:Hid (KeptP (fun b=>p < b∧b≠X) v1 cs z):=hid (HK.out.to (fun b h1 h2=>⟨h1,HTB.out.block b h2 (by have:=h1.1;have:=HPN.out;have:=HP.out;have:=H.out.lt;omega) (by have:=h1.1;have:=HPN.out;have:=HP.out;have:=H.out.lt;omega)⟩) HTB.out.size)
   have HBv:=hid (HB.out.trans HTB.out)
   clear HX HR HK
   have HX:=HXv
   have HK:=HKv
   have HXR:=hid (HX.out.range)
   have HLX:=hid (HK.out.len)
   go_wp2_with (first
    |((with_reducible refine z8 29 _ rfl ?hwld X 0 cs _ rfl HXR.out Tryz.underlying29 rfl ?hild ?_);(case hwld=>exact wantA rfl);(case hild=>rw[HLX.out];kernel_rfl))
    |((with_reducible refine zh 29 _ _ rfl rfl ?hwfd p zEc cs HRv.out ?hs1d ?hs2d ?hs3d ?hs4d ?hs5d ?_);(case hwfd=>exact wantA rfl);(case hs1d=>rw[HLX.out];rfl);(case hs2d=>rfl);(case hs3d=>rfl);(case hs4d=>rw[HLX.out];kernel_rfl);(case hs5d=>exact HK.out.one);intro Z hz hb;have HZ:=hid hz;have HZB:=hid hb;clear hz hb))
   (try simp only[Exit.inBlock,Exit.then])
   refine bodyPost_ret (zJ rfl _ _ p cs HLX.out rfl HZ.out) rfl ?_
   have hp:=HP.out
   refine⟨cs,rfl,?_,HT1.out.under p HPN.out.1 HPN.out.2 HZB.out,zI HBv.out HZB.out (by omega)⟩
   exact KeptP.to (q:=fun b=>w.heap.size≤b) HK.out (fun b h1 h2=>⟨by have:=h1.1;show w.heap.size≤b;omega,HZB.out.block b h2 (by have:=h1.1;omega) (by have:=h1.1;omega)⟩) HZB.out.size
  |step _ _ y j z _ his hsub hbr hlt hrest=>
   have HSUB2:=hid hsub
   have HREST:=hid hrest
   have HLT:=hid hlt
   have HIS:=hid his
   have HBR:=hid hbr
   have hno0:isB toks i ⟨#[46]⟩= false:=z0V HIS.out (by decide +kernel)
   have HNO0:=hid hno0
   clear hsub hrest hlt his hno0 hbr
   go_upto_region 5 with (go_at_call 143;refine(zB HS.out HNO0.out).mono ?_;rintro e v0 ⟨rfl,h1,h2⟩;have HT0:=hid h1;have HTB0:=hid h2;clear h1 h2)
   go_upto_region 6 with (go_at_call 143;refine(z0o HT0.out HIS.out).mono ?_;rintro e v1 ⟨rfl,h1,h2⟩;have HT1:=hid h1;have HTB1:=hid h2;clear h1 h2)
   have HTB:=hid (HTB0.out.trans HTB1.out)
   have HXv:=hid (HX.out.keep (HTB.out.block X HX.out.lt HXG.out.2.1 HXG.out.2.1))
   have HRv:=hid (HR.out.keep (HTB.out.block p HR.out.lt HPN.out.1 HPN.out.1))
   have HKv:Hid (KeptP (fun b=>p < b∧b≠X) v1 cs x):=hid (HK.out.to (fun b h1 h2=>⟨h1,HTB.out.block b h2 (by have:=h1.1;have:=HPN.out;have:=HP.out;have:=H.out.lt;omega) (by have:=h1.1;have:=HPN.out;have:=HP.out;have:=H.out.lt;omega)⟩) HTB.out.size)
   have HBv:=hid (HB.out.trans HTB.out)
   have hs:Whole 29 v1.drew X cs:=HXv.out
   refine zu 4 [(0,true),(1,true),(2,false),(3,false)]
    (fun z=>Whole 29 z X cs) (by kernel_rfl) (by kernel_rfl) rfl (by intro c a d v w h;cases d<;>exact h) ?_
   refine za (some 15) (.agg ⟨cs⟩) _ rfl rfl (by exact wantA rfl) hs (fun z hz=>zG 29 rfl X 0 cs _ rfl hz.range Tryz.underlying29 rfl (by rw[HK.out.len];kernel_rfl)) ?_
   go_frame
   refine zj (some 16) (.pointer (some ⟨pb,0,none⟩)) _ _ rfl rfl rfl (by exact wantA rfl) hs rfl ?_
   go_frame
   refine zv (some 17) 98 Tryz.func98 (by kernel_rfl) (by kernel_rfl) [.pointer (some ⟨pb,0,none⟩)] _ _ _ rfl rfl rfl (by exact wantA rfl) rfl ?_
   refine(HSUB2.out v1.drew d (HT1.out.keep (Below.refl _ v1).drew) HD.out.1 HD.out.2).mono ?_
   rintro e w5 ⟨cb,rfl,hkb,h1,h2⟩
   have hlb:=hkb.len
   have hb5:But v1 w5 pb pb:=(But.of_below (Below.refl _ v1).drew pb pb).trans h2
   have hs5:Whole 29 w5 X cs:=HXv.out.keep (hb5.block X HXv.out.lt HXG.out.2.1 HXG.out.2.1)
   refine⟨_,rfl,hs5,?_⟩
   go_frame
   have hka:KeptP (fun b=>p < b∧b≠X) w5 cs x:=HKv.out.to (fun b h1 h2=>⟨h1,hb5.block b h2 (by have:=h1.1;have:=HPN.out;have:=HP.out;have:=H.out.lt;omega) (by have:=h1.1;have:=HPN.out;have:=HP.out;have:=H.out.lt;omega)⟩) hb5.size
   have hkb2:KeptP (fun b=>p < b∧b≠X) w5 cb y:=hkb.to (fun b h1 h2=>⟨⟨by have h3:v1.heap.size≤b:=h1;have:=HRv.out.lt;omega,by have h3:v1.heap.size≤b:=h1;have:=HXv.out.lt;omega⟩,rfl⟩) (Nat.le_refl _)
   refine zv (some 18) 182 Tryz.func182 (by kernel_rfl) (by kernel_rfl) [.int .i64 19,.agg ⟨cs⟩,.agg ⟨cb⟩] _ _ _ rfl rfl rfl (by exact wantA rfl) rfl ?_
   refine(z10 19 cs cb hka.len hlb hka.one hkb2.one w5).mono ?_
   rintro e w6 ⟨g,rfl,hg,hwg,hb6⟩
   have hs6:Whole 29 w6 X cs:=hs5.keep (hb6.block X hs5.lt)
   refine⟨_,rfl,hs6,?_⟩
   go_frame
   refine z0c ?_
   simp only[List.drop_succ_cons,List.drop_zero]
   have hpg:p < g∧g≠X:=⟨by have:=HRv.out.lt;have:=hb5.size;omega,by have:=hs5.lt;omega⟩
   have hkt:KeptP (fun b=>p < b∧b≠X) w6 (twoC 19 g) (twoE 19 x y):=z0I (zr 19 (by decide +kernel)) hwg hpg (hka.to (fun b h1 h2=>⟨h1,hb6.block b h2⟩) hb6.size) (hkb2.to (fun b h1 h2=>⟨h1,hb6.block b h2⟩) hb6.size)
   have HKT:=hid hkt
   have HX6:=hid hs6
   have HR6:=hid ((HRv.out.keep (hb5.block p HRv.out.lt HPN.out.1 HPN.out.1)).keep (hb6.block p (by have:=HRv.out.lt;have:=hb5.size;omega)))
   have HS6:=hid (h1.keep hb6)
   have HB6:=hid (HBv.out.trans (hb5.trans (But.of_below hb6 pb pb)))
   have HLX:=hid hka.len
   clear hs hs5 hs6 hb5 hka hkb hkb2 hlb hwg hb6 hkt hg hpg h1 h2
   go_upto_region 7 with ((with_reducible refine zh 29 _ _ rfl rfl ?hwf1s X cs (twoC 19 g) HX6.out ?hs11s ?hs21s ?hs31s ?hs41s ?hs51s ?_);(case hwf1s=>exact wantA rfl);(case hs11s=>rw[HLX.out];rfl);(case hs21s=>rfl);(case hs31s=>rfl);(case hs41s=>rw[HKT.out.len];kernel_rfl);(case hs51s=>exact HKT.out.one);intro Z hz hb;have HZ:=hid hz;have HZB:=hid hb;clear hz hb)
   have HSZ:=hid (HS6.out.under X HXG.out.2.1 HXG.out.2.2 HZB.out)
   have HBZ:=hid (zI HB6.out HZB.out (by have:=HXG.out.1;have:=HP.out;omega))
   have HRZ:=hid (HR6.out.keep (HZB.out.block p HR6.out.lt (by have:=HXG.out.1;omega) (by have:=HXG.out.1;omega)))
   have HKZ:=hid (HKT.out.to (fun b h1 h2=>⟨h1,HZB.out.block b h2 h1.2 h1.2⟩) HZB.out.size)
   go_wp2_with (go_at_call 144;refine(z70 HSZ.out HBR.out).mono ?_;rintro e v9 ⟨rfl,h1,h2⟩;have HS9:=hid h1;have HB9:=hid h2;clear h1 h2)
   go_roundg (toks.length - (j+1))
   case measure=>have:=HLT.out;have h2:=z1i HIS.out;have:=HGQ.out;omega
   case rel=>
    refine⟨_,j+1,_,HREST.out,rfl,HZ.out.keep (HB9.out.block X HZ.out.lt HXG.out.2.1 HXG.out.2.1),HRZ.out.keep (HB9.out.block p HRZ.out.lt HPN.out.1 HPN.out.1),HKZ.out.to (fun b h1 h2=>⟨h1,HB9.out.block b h2 (by have:=h1.1;have:=HPN.out;have:=HP.out;have:=H.out.lt;omega) (by have:=h1.1;have:=HPN.out;have:=HP.out;have:=H.out.lt;omega)⟩) HB9.out.size,HS9.out,HBZ.out.trans HB9.out⟩
end
end Go.Proofs.YtmpbepjjbaeebaaGreatDoor
end
section
namespace Go.Proofs.YtmpbepjjbaeebaaGreatDoor
open Go Go.RowKit
open Go.Lib (hid)
def zC (c:UInt8):Bool:=decide (48≤(c.toNat:Int)) && decide ((c.toNat:Int)≤57)
def z0R (c:UInt8):Bool:=decide (97≤(c.toNat:Int)) && decide ((c.toNat:Int)≤122)
def zY (c:UInt8):Bool:=((c.toNat:Int) ==32) ||(((c.toNat:Int) ==9) ||(((c.toNat:Int) ==10) ||((c.toNat:Int) ==13)))
theorem z03 {s:ByteArray} {k:Nat} {c:UInt8} (h:s.data.toList[k]?= some c) (hk:k < s.size):s[k]'hk= c:=by
 have h2:s.data[k]?= some c:=by simpa using h
 obtain⟨h3,h4⟩:=Array.getElem?_eq_some_iff.1 h2
 exact h4
theorem z2d (c:UInt8) (w:World):Calls Tryz.prog 175 #[.int .u8 (c.toNat:Int)] w fun e w'=>e= .returned (.bool (zC c))∧w'= w:=by
 have HC:Hid (zC c=(decide (48≤(c.toNat:Int)) && decide ((c.toNat:Int)≤57))):=hid rfl
 by_cases h1:48≤(c.toNat:Int)
 ·have d1:=decide_eq_true h1
  by_cases h2:(c.toNat:Int)≤57
  ·have d2:=decide_eq_true h2
   go_enter Tryz.func175,Tryz.ntmps175
   go_wp2
   go_ret
   exact⟨by rw[HC.out,d1,d2];rfl,rfl⟩
  ·have d2:=decide_eq_false h2
   go_enter Tryz.func175,Tryz.ntmps175
   go_wp2
   go_ret
   exact⟨by rw[HC.out,d1,d2];rfl,rfl⟩
 ·have d1:=decide_eq_false h1
  go_enter Tryz.func175,Tryz.ntmps175
  go_wp2
  go_ret
  exact⟨by rw[HC.out,d1];rfl,rfl⟩
theorem z4C (c:UInt8) (w:World):Calls Tryz.prog 177 #[.int .u8 (c.toNat:Int)] w fun e w'=>e= .returned (.bool (z0R c))∧w'= w:=by
 have HC:Hid (z0R c=(decide (97≤(c.toNat:Int)) && decide ((c.toNat:Int)≤122))):=hid rfl
 by_cases h1:97≤(c.toNat:Int)
 ·have d1:=decide_eq_true h1
  by_cases h2:(c.toNat:Int)≤122
  ·have d2:=decide_eq_true h2
   go_enter Tryz.func177,Tryz.ntmps177
   go_wp2
   go_ret
   exact⟨by rw[HC.out,d1,d2];rfl,rfl⟩
  ·have d2:=decide_eq_false h2
   go_enter Tryz.func177,Tryz.ntmps177
   go_wp2
   go_ret
   exact⟨by rw[HC.out,d1,d2];rfl,rfl⟩
 ·have d1:=decide_eq_false h1
  go_enter Tryz.func177,Tryz.ntmps177
  go_wp2
  go_ret
  exact⟨by rw[HC.out,d1];rfl,rfl⟩
theorem z2K (c:UInt8) (w:World):Calls Tryz.prog 174 #[.int .u8 (c.toNat:Int)] w fun e w'=>e= .returned (.bool (zY c))∧w'= w:=by
 have HC:Hid (zY c=(((c.toNat:Int) ==32) ||(((c.toNat:Int) ==9) ||(((c.toNat:Int) ==10) ||((c.toNat:Int) ==13))))):=hid rfl
 generalize (c.toNat:Int)= x at*
 cases h1:x ==32<;>cases h2:x ==9<;>cases h3:x ==10<;>cases h4:x ==13
 all_goals
  have HX:Hid (zY c= _):=hid (by rw[HC.out,h1,h2,h3,h4])
  clear HC
  go_enter Tryz.func174,Tryz.ntmps174
  go_wp2
  go_ret
  exact⟨by rw[HX.out];rfl,rfl⟩
def z08 (P:UInt8→Bool) (L:List UInt8) (i e:Nat):Prop:=∀ k,i≤k→k < e→∃ c,L[k]?= some c∧P c= true
def z0Q (P:UInt8→Bool) (L:List UInt8) (e:Nat):Prop:=∀ c,L[e]?= some c→P c= false
theorem z3h (s:ByteArray) (i e:Nat) (hie:i≤e) (he:e≤s.size) (hsz:(s.size:Int)≤2000) (hc:z08 zC s.data.toList i e) (hs:z0Q zC s.data.toList e) (w:World):
  Calls Tryz.prog 202 #[.string s,.int .i64 (i:Nat)] w fun r w'=>r= .returned (.int .i64 (e:Nat))∧w'= w:=by
 have HC:=hid hc
 have HS:=hid hs
 have HL:Hid (s.data.toList.length= s.size):=hid (by cases s;rfl)
 have HE:=hid he
 have HD:=hid (fun c w=>z2d c w)
 clear hc hs he
 go_enter Tryz.func202,Tryz.ntmps202
 go_wp2
 go_loopg [1] (e - i) (fun q x u=>∃ k:Nat,k≤e∧k+q= e∧i≤k∧x= .int .i64 (k:Nat)∧u= w)
 case atStart=>exact⟨i,hie,by omega,Nat.le_refl _,rfl,rfl⟩
 case round=>
  obtain⟨k,hke,hkq,hik,rfl,rfl⟩:=hrel
  cases gk with
  |zero=>
   obtain rfl:k= e:=by omega
   by_cases hend:k < s.size
   ·obtain⟨c,hc⟩:∃ c,s.data.toList[k]?= some c:=⟨_,List.getElem?_eq_getElem (by rw[HL.out];exact hend)⟩
    have dk:=fun h=>z03 (k:=k) (c:=c) hc h
    have HB:Hid (zC c= false):=hid (HS.out c hc)
    have hlt:(k:Int) <(s.size:Int):=by omega
    clear hc
    go_wp2_with (go_at_call 175;refine(HD.out c _).mono ?_;rw[HB.out];rintro e z ⟨rfl,rfl⟩)
    go_ret
    exact⟨rfl,rfl⟩
   ·have hlt: ¬ ((k:Int) <(s.size:Int)):=by omega
    go_wp2
    go_ret
    exact⟨rfl,rfl⟩
  |succ q=>
   have he:=HE.out
   obtain⟨c,hc,hd⟩:=HC.out k hik (by omega)
   have dk:=fun h=>z03 (k:=k) (c:=c) hc h
   have HB:=hid hd
   have hlt:(k:Int) <(s.size:Int):=by omega
   clear hc hd
   go_wp2_with (go_at_call 175;refine(HD.out c _).mono ?_;rw[HB.out];rintro e z ⟨rfl,rfl⟩)
   go_roundg q
   case measure=>omega
   case rel=>exact⟨k+1,by omega,by omega,by omega,by go_num,rfl⟩
end Go.Proofs.YtmpbepjjbaeebaaGreatDoor
end
section
namespace Go.Proofs.YtmpbepjjbaeebaaGreatDoor
open Go Go.RowKit
open Go.Lib (hid)
theorem z0E (s nm:ByteArray) (a e:Nat) (hae:a≤e) (he:e≤s.size) (hx:s.extract a e= nm) (W:World):
  (Instr.sliceAt 9 (.string s) (some (.int .i64 (a:Nat))) (some (.int .i64 (e:Nat))) none).run Tryz.prog W= .ok (.string nm) W:=by
 have hul:=Tryz.underlying9
 have h0:(Instr.slice 9 (.string s) (some (.int .i64 (a:Nat))) (some (.int .i64 (e:Nat))) none).run Tryz.prog W= .ok (.string (s.extract a e)) W:=by
  simp[Instr.slice,Instr.sliceBounds,run_sliceBound, *,(by omega:(0:Int)≤(a:Int)),(by omega:(0:Int)≤(e:Int)),(by omega:((a:Int))≤(e:Int))]
 rw[run_sliceAt_string (w:=W) (t:=9) (h:=hul),h0,hx]
theorem z0f (w:World) (A B:Obj):Below w.heap.size w ((w.alloc A).alloc B):=(zc w A).trans ((zc (w.alloc A) B).mono (by simp))
theorem z00 {fn:Func} {p u:Tmp} (h:fn.results= #[.cell p 156,.tmp u]) (tmps:Array Value) (w:World) (g:Nat) (cs:Array Value) (hs:cs.size= 6) (v:Value)
  (hp:tmps.getD p undef= .pointer (some ⟨g,0,none⟩)) (hg:w.heap[g]?= some (.cells cs 156 (0,0))) (hu:tmps.getD u undef= v):(results fn tmps).run Tryz.prog w= .ok (.tuple #[.agg cs,v]) w:=by
 rw[results_cell_tmp h,hp,hu]
 simp[asAddr,run_loadVar_row w g 156 156 cs (0,0) _ hg Tryz.underlying156 rfl (by rw[hs];kernel_rfl)]
def lxidC (c:UInt8):Bool:=z0R c ||(zC c ||(c.toNat:Int) ==95)
@[reducible] def zdo (w:World) (i:Nat):World:=(w.alloc (.cells #[.int .i64 1,.int .i64 (i:Nat),.int .i64 (i:Nat),.int .i64 0,.float .f64 0,.string ⟨#[]⟩] 156)).alloc (.cells #[.int .i64 0,.int .i64 0,.int .i64 0,.int .i64 0,.float .f64 0,.string ⟨#[]⟩] 156)
theorem z8F (s nm:ByteArray) (i e:Nat) (hie:i < e) (he:e≤s.size) (hsz:(s.size:Int)≤2000) (hc:z08 lxidC s.data.toList i e) (hs:z0Q lxidC s.data.toList e) (hx:s.extract i e= nm) (hl:(nm.size:Int)≤30)
  (hn1:(nm.toList ==[110,97,110])= false) (hn2:(nm.toList ==[105,110,102])= false) (w:World):
  Calls Tryz.prog 178 #[.string s,.agg #[.int .i64 1,.int .i64 (i:Nat),.int .i64 (i:Nat),.int .i64 0,.float .f64 0,.string ⟨#[]⟩]] w fun r w'=>
   r= .returned (.tuple #[.agg #[.int .i64 5,.int .i64 (i:Nat),.int .i64 (e:Nat),.int .i64 0,.float .f64 0,.string nm],.int .i64 0])∧Below w.heap.size w w':=by
 have HC:=hid hc
 have HS:=hid hs
 have HL:Hid (s.data.toList.length= s.size):=hid (by cases s;rfl)
 have HE:=hid he
 have HD:=hid (fun c w=>z2d c w)
 have HLT:=hid (fun c w=>z4C c w)
 have hsl:=fun W=>z0E s nm i e (by omega) he hx W
 have hx2: ¬ ((nm.size:Int) > 30):=by omega
 have hsf:∀ (W:World) (a:Addr),(store a (.float .f64 0)).run Tryz.prog W= stored Tryz.prog W a (.float .f64 0) .plain:=fun W a=>run_store _ _ _ _ _ rfl
 have HIE:=hid hie
 clear hc hs he hx hie
 go_enter Tryz.func178,Tryz.ntmps178
 go_upto_region 2 with (fail)
 go_loopg [6] (e - i) (fun q x u=>∃ k:Nat,k≤e∧k+q= e∧i≤k∧x= .int .i64 (k:Nat)∧u= zdo w i)
 case atStart=>exact⟨i,(by have:=HIE.out;omega),(by have:=HIE.out;omega),Nat.le_refl _,rfl,rfl⟩
 case round=>
  obtain⟨k,hke,hkq,hik,rfl,rfl⟩:=hrel
  cases gk with
  |zero=>
   obtain rfl:k= e:=by omega
   by_cases hend:k < s.size
   ·obtain⟨c,hc⟩:∃ c,s.data.toList[k]?= some c:=⟨_,List.getElem?_eq_getElem (by rw[HL.out];exact hend)⟩
    have dk:=fun h=>z03 (k:=k) (c:=c) hc h
    have hB:=HS.out c hc
    have hB1:Hid (z0R c= false):=hid (by unfold lxidC at hB;cases h:z0R c<;>simp_all)
    have hB2:Hid (zC c= false):=hid (by unfold lxidC at hB;cases h:zC c<;>simp_all)
    have hB3:((c.toNat:Int) ==95)= false:=by unfold lxidC at hB;cases h:((c.toNat:Int) ==95)<;>simp_all
    have hlt:(k:Int) <(s.size:Int):=by omega
    clear hc hB
    go_wp2_with (first
     |(go_at_call 177;refine(HLT.out c _).mono ?_;rw[hB1.out];rintro e z ⟨rfl,rfl⟩)
     |(go_at_call 175;refine(HD.out c _).mono ?_;rw[hB2.out];rintro e z ⟨rfl,rfl⟩))
    (try simp only[Exit.inBlock,Exit.then])
    refine bodyPost_ret (z00 rfl _ _ (w.heap.size+1) #[.int .i64 5,.int .i64 (i:Nat),.int .i64 (k:Nat),.int .i64 0,.float .f64 0,.string nm] rfl (.int .i64 0) rfl (heap_alloc2_new w _ _) rfl) rfl ?_
    exact⟨rfl,z0f w _ _⟩
   ·have hlt: ¬ ((k:Int) <(s.size:Int)):=by omega
    go_wp2
    (try simp only[Exit.inBlock,Exit.then])
    refine bodyPost_ret (z00 rfl _ _ (w.heap.size+1) #[.int .i64 5,.int .i64 (i:Nat),.int .i64 (k:Nat),.int .i64 0,.float .f64 0,.string nm] rfl (.int .i64 0) rfl (heap_alloc2_new w _ _) rfl) rfl ?_
    exact⟨rfl,z0f w _ _⟩
  |succ q=>
   have he:=HE.out
   obtain⟨c,hc,hd⟩:=HC.out k hik (by omega)
   have dk:=fun h=>z03 (k:=k) (c:=c) hc h
   have hlt:(k:Int) <(s.size:Int):=by omega
   cases h1:z0R c with
   |true=>
    have HB1:=hid h1
    clear hc hd h1
    go_wp2_with (go_at_call 177;refine(HLT.out c _).mono ?_;rw[HB1.out];rintro e z ⟨rfl,rfl⟩)
    go_roundg q
    case measure=>omega
    case rel=>exact⟨k+1,by omega,by omega,by omega,by go_num,rfl⟩
   |false=>
    cases h2:zC c with
    |true=>
     have HB1:=hid h1
     have HB2:=hid h2
     clear hc hd h1 h2
     go_wp2_with (first
      |(go_at_call 177;refine(HLT.out c _).mono ?_;rw[HB1.out];rintro e z ⟨rfl,rfl⟩)
      |(go_at_call 175;refine(HD.out c _).mono ?_;rw[HB2.out];rintro e z ⟨rfl,rfl⟩))
     go_roundg q
     case measure=>omega
     case rel=>exact⟨k+1,by omega,by omega,by omega,by go_num,rfl⟩
    |false=>
     have hB3:((c.toNat:Int) ==95)= true:=by unfold lxidC at hd;rw[h1,h2] at hd;simpa using hd
     have HB1:=hid h1
     have HB2:=hid h2
     clear hc hd h1 h2
     go_wp2_with (first
      |(go_at_call 177;refine(HLT.out c _).mono ?_;rw[HB1.out];rintro e z ⟨rfl,rfl⟩)
      |(go_at_call 175;refine(HD.out c _).mono ?_;rw[HB2.out];rintro e z ⟨rfl,rfl⟩))
     go_roundg q
     case measure=>omega
     case rel=>exact⟨k+1,by omega,by omega,by omega,by go_num,rfl⟩
end Go.Proofs.YtmpbepjjbaeebaaGreatDoor
end
