/- Parts of a proof: Levels2, Lex1, Lex2. -/
import Derived.Test.YtmpbepjjbaeebaaGreatDoorPackC29
set_option maxHeartbeats 8000000
set_option maxRecDepth 100000
set_option linter.unusedVariables false
set_option linter.unusedSimpArgs false
namespace Go.Proofs.YtmpbepjjbaeebaaGreatDoor
section
open Go Go.RowKit
section
variable {pb tb c:Nat} {E:Int} {toks:List Tok}
theorem z1J {i j h:Nat} {x:ET} (hsub:PCon pb tb c E toks 222 i j h x) (n1:isB toks j ⟨#[61,61]⟩= false) (n2:isB toks j ⟨#[60,61]⟩= false) (n3:isB toks j ⟨#[60]⟩= false):PCon pb tb c E toks 204 i j h x:=by
 intro w d h h0 hd
 have HSUB:=I hsub
 have HN1:=I n1
 have HN2:=I n2
 have HN3:=I n3
 clear hsub n1 n2 n3
 go_enter Tryz.func204,Tryz.ntmps204
 go_upto_region 1 with (fail)
 have HR0:=I (Whole.new w zEc 29)
 have HB0:=I (ze w (.cells zEc.toArray 29))
 have hz:=z0n
 rw[hz]
 clear hz
 have HRW:Hid (w.heap.size <(w.alloc (.cells zEc.toArray 29)).heap.size):=I (by simp)
 generalize w.alloc (.cells zEc.toArray 29)= W at*
 obtain⟨p,hp⟩:∃ p,w.heap.size= p:=⟨_,rfl⟩
 rw[hp] at HR0 HRW
 rw[hp]
 have HP:=I hp
 have HS0:=I (h.keep HB0.out)
 have HPN:Hid (p≠pb/\p≠tb):=I ⟨by have:=h.lt;omega,by have:=h.lt;omega⟩
 have H:=I h
 have HD:=I (And.intro h0 hd)
 clear hp h h0 hd
 go_upto_region 2 with (first
  |(go_at_call 222;refine(HSUB.out W d HS0.out HD.out.1 HD.out.2).mono ?_;rintro e w1 ⟨cs0,rfl,hk,h1,h2⟩;have hl:=hk.len;have HL0:=I hl;have HK0:=I hk;have HS1:=I h1;have HB1:=I h2;clear hl hk h1 h2)
  |((with_reducible refine z0x 29 _ _ rfl rfl ?hwe w1 ?zne cs0 ?hz1 ?hz2 ?hz3 ?hz4 ?hz5 ?hz6 ?_);(case hwe=>exact wantA rfl);(case hz1=>rfl);(case hz2=>rw[HL0.out];rfl);(case hz3=>rfl);(case hz4=>rfl);(case hz5=>rw[HL0.out];kernel_rfl);(case hz6=>exact HK0.out.one);intro W2 hz hb hlt;have HX2:=I hz;have HB2:=I hb;have HLT2:=I hlt;clear hz hb hlt))
 obtain⟨X,hX⟩:∃ X,w1.heap.size= X:=⟨_,rfl⟩
 rw[hX] at HX2 HB2 HLT2
 rw[hX]
 have hXX:=hX
 have HXG:Hid (p < X/\X≠pb/\X≠tb):=I ⟨by have:=HRW.out;have:=HB1.out.size;omega,by have:=HS1.out.lt;omega,by have:=HS1.out.lt;omega⟩
 have hB12:Below w1.heap.size w1 W2:=by rw[hX];exact HB2.out
 have HR2:=I ((HR0.out.keep (HB1.out.block p HRW.out HPN.out.1 HPN.out.1)).keep (hB12.block p (by rw[hX];exact HXG.out.1)))
 have HS2:=I (HS1.out.keep hB12)
 have HK2:Hid (KeptP (fun b=>p < b/\b≠X) W2 cs0 x):=I (HK0.out.to (fun b h1 h2=>⟨⟨by have:=HRW.out;omega,by omega⟩,hB12.block b h2⟩) hB12.size)
 have HBW2:Hid (But w W2 pb pb):=I ((But.of_below HB0.out pb pb).trans (HB1.out.trans (But.of_below hB12 pb pb)))
 clear hX hXX hB12 HB1 HB2 HLT2 HK0 HS1 HS0 HR0
 have HX:=HX2
 have HR:=HR2
 have HK:=HK2
 have HS:=HS2
 have HB:=HBW2
 clear HX2 HR2 HK2 HS2 HBW2
 obtain⟨cs,hcs⟩:∃ cs,cs= cs0:=⟨_,rfl⟩
 rw[← hcs] at HX HK HL0
 rw[← hcs]
 clear hcs
 go_upto_region 4 with (go_at_call 143;refine(zD HS.out HN1.out).mono ?_;rintro e v0 ⟨rfl,h1,h2⟩;have HT0:=I h1;have HTB0:=I h2;clear h1 h2)
 go_upto_region 6 with (go_at_call 143;refine(zD HT0.out HN2.out).mono ?_;rintro e v1 ⟨rfl,h1,h2⟩;have HT1:=I h1;have HTB1:=I h2;clear h1 h2)
 go_upto_region 8 with (go_at_call 143;refine(zD HT1.out HN3.out).mono ?_;rintro e v2 ⟨rfl,h1,h2⟩;have HT2:=I h1;have HTB2:=I h2;clear h1 h2)
 have HTB:=I (HTB0.out.trans (HTB1.out.trans HTB2.out))
 have HXv:=I (HX.out.keep (HTB.out.block X HX.out.lt HXG.out.2.1 HXG.out.2.1))
 have HRv:=I (HR.out.keep (HTB.out.block p HR.out.lt HPN.out.1 HPN.out.1))
 have HKv:Hid (KeptP (fun b=>p < b/\b≠X) v2 cs x):=I (HK.out.to (fun b h1 h2=>⟨h1,HTB.out.block b h2 (by have:=h1.1;have:=HPN.out;have:=HP.out;have:=H.out.lt;omega) (by have:=h1.1;have:=HPN.out;have:=HP.out;have:=H.out.lt;omega)⟩) HTB.out.size)
 have HBv:=I (HB.out.trans HTB.out)
 clear HX HR HK
 have HX:=HXv
 have HK:=HKv
 have HXR:=I (HX.out.range)
 have HLX:=I (HK.out.len)
 go_wp2_with (first
  |((with_reducible refine zc 29 _ rfl ?hwld X 0 cs _ rfl HXR.out Tryz.underlying29 rfl ?hild ?_);(case hwld=>exact wantA rfl);(case hild=>rw[HLX.out];kernel_rfl))
  |((with_reducible refine zh 29 _ _ rfl rfl ?hwfd p zEc cs HRv.out ?hs1d ?hs2d ?hs3d ?hs4d ?hs5d ?_);(case hwfd=>exact wantA rfl);(case hs1d=>rw[HLX.out];rfl);(case hs2d=>rfl);(case hs3d=>rfl);(case hs4d=>rw[HLX.out];kernel_rfl);(case hs5d=>exact HK.out.one);intro Z hz hb;have HZ:=I hz;have HZB:=I hb;clear hz hb))
 (try simp only[Exit.inBlock,Exit.then])
 refine bodyPost_ret (zO rfl _ _ p cs HLX.out rfl HZ.out) rfl ?_
 have hp:=HP.out
 refine⟨cs,rfl,?_,HT2.out.under p HPN.out.1 HPN.out.2 HZB.out,zM HBv.out HZB.out (by omega)⟩
 exact KeptP.to (q:=fun b=>w.heap.size<=b) HK.out (fun b h1 h2=>⟨by have:=h1.1;show w.heap.size<=b;omega,HZB.out.block b h2 (by have:=h1.1;omega) (by have:=h1.1;omega)⟩) HZB.out.size
theorem z50 {i j k h:Nat} {x y:ET} (hsub:PCon pb tb c E toks 222 i j h x) (n1:isB toks j ⟨#[61,61]⟩= true) (hsub2:PCon pb tb c E toks 222 (j+1) k h y):PCon pb tb c E toks 204 i k h (twoE 10 x y):=by
 intro w d h h0 hd
 have HSUB:=I hsub
 have HN1:=I n1
 have HSUB2:=I hsub2
 clear hsub n1 hsub2
 go_enter Tryz.func204,Tryz.ntmps204
 go_upto_region 1 with (fail)
 have HR0:=I (Whole.new w zEc 29)
 have HB0:=I (ze w (.cells zEc.toArray 29))
 have hz:=z0n
 rw[hz]
 clear hz
 have HRW:Hid (w.heap.size <(w.alloc (.cells zEc.toArray 29)).heap.size):=I (by simp)
 generalize w.alloc (.cells zEc.toArray 29)= W at*
 obtain⟨p,hp⟩:∃ p,w.heap.size= p:=⟨_,rfl⟩
 rw[hp] at HR0 HRW
 rw[hp]
 have HP:=I hp
 have HS0:=I (h.keep HB0.out)
 have HPN:Hid (p≠pb/\p≠tb):=I ⟨by have:=h.lt;omega,by have:=h.lt;omega⟩
 have H:=I h
 have HD:=I (And.intro h0 hd)
 clear hp h h0 hd
 go_upto_region 2 with (first
  |(go_at_call 222;refine(HSUB.out W d HS0.out HD.out.1 HD.out.2).mono ?_;rintro e w1 ⟨cs0,rfl,hk,h1,h2⟩;have hl:=hk.len;have HL0:=I hl;have HK0:=I hk;have HS1:=I h1;have HB1:=I h2;clear hl hk h1 h2)
  |((with_reducible refine z0x 29 _ _ rfl rfl ?hwe w1 ?zne cs0 ?hz1 ?hz2 ?hz3 ?hz4 ?hz5 ?hz6 ?_);(case hwe=>exact wantA rfl);(case hz1=>rfl);(case hz2=>rw[HL0.out];rfl);(case hz3=>rfl);(case hz4=>rfl);(case hz5=>rw[HL0.out];kernel_rfl);(case hz6=>exact HK0.out.one);intro W2 hz hb hlt;have HX2:=I hz;have HB2:=I hb;have HLT2:=I hlt;clear hz hb hlt))
 obtain⟨X,hX⟩:∃ X,w1.heap.size= X:=⟨_,rfl⟩
 rw[hX] at HX2 HB2 HLT2
 rw[hX]
 have hXX:=hX
 have HXG:Hid (p < X/\X≠pb/\X≠tb):=I ⟨by have:=HRW.out;have:=HB1.out.size;omega,by have:=HS1.out.lt;omega,by have:=HS1.out.lt;omega⟩
 have hB12:Below w1.heap.size w1 W2:=by rw[hX];exact HB2.out
 have HR2:=I ((HR0.out.keep (HB1.out.block p HRW.out HPN.out.1 HPN.out.1)).keep (hB12.block p (by rw[hX];exact HXG.out.1)))
 have HS2:=I (HS1.out.keep hB12)
 have HK2:Hid (KeptP (fun b=>p < b/\b≠X) W2 cs0 x):=I (HK0.out.to (fun b h1 h2=>⟨⟨by have:=HRW.out;omega,by omega⟩,hB12.block b h2⟩) hB12.size)
 have HBW2:Hid (But w W2 pb pb):=I ((But.of_below HB0.out pb pb).trans (HB1.out.trans (But.of_below hB12 pb pb)))
 clear hX hXX hB12 HB1 HB2 HLT2 HK0 HS1 HS0 HR0
 have HX:=HX2
 have HR:=HR2
 have HK:=HK2
 have HS:=HS2
 have HB:=HBW2
 clear HX2 HR2 HK2 HS2 HBW2
 obtain⟨cs,hcs⟩:∃ cs,cs= cs0:=⟨_,rfl⟩
 rw[← hcs] at HX HK HL0
 rw[← hcs]
 clear hcs
 go_upto_region 3 with (go_at_call 143;refine(z0t HS.out HN1.out).mono ?_;rintro e v0 ⟨rfl,h1,h2⟩;have HT0:=I h1;have HTB0:=I h2;clear h1 h2)
 have HTB:=I HTB0.out
 have HXv:=I (HX.out.keep (HTB.out.block X HX.out.lt HXG.out.2.1 HXG.out.2.1))
 have HRv:=I (HR.out.keep (HTB.out.block p HR.out.lt HPN.out.1 HPN.out.1))
 have HKv:Hid (KeptP (fun b=>p < b/\b≠X) v0 cs x):=I (HK.out.to (fun b h1 h2=>⟨h1,HTB.out.block b h2 (by have:=h1.1;have:=HPN.out;have:=HP.out;have:=H.out.lt;omega) (by have:=h1.1;have:=HPN.out;have:=HP.out;have:=H.out.lt;omega)⟩) HTB.out.size)
 have HBv:=I (HB.out.trans HTB.out)
 have hs:Whole 29 v0.drew X cs:=HXv.out
 refine zy 4 [(0,true),(1,true),(2,false),(3,false)]
  (fun z=>Whole 29 z X cs) (by kernel_rfl) (by kernel_rfl) rfl (by intro c a d v w h;cases d<;>exact h) ?_
 refine z8 (some 8) (.agg ⟨cs⟩) _ rfl rfl (by exact wantA rfl) hs (fun z hz=>zw 29 rfl X 0 cs _ rfl hz.range Tryz.underlying29 rfl (by rw[HK.out.len];kernel_rfl)) ?_
 go_frame
 refine zk (some 9) (.pointer (some ⟨pb,0,none⟩)) _ _ rfl rfl rfl (by exact wantA rfl) hs rfl ?_
 go_frame
 refine zx (some 10) 222 Tryz.func222 (by kernel_rfl) (by kernel_rfl) [.pointer (some ⟨pb,0,none⟩)] _ _ _ rfl rfl rfl (by exact wantA rfl) rfl ?_
 refine(HSUB2.out v0.drew d (HT0.out.keep (Below.refl _ v0).drew) HD.out.1 HD.out.2).mono ?_
 rintro e w5 ⟨cb,rfl,hkb,h1,h2⟩
 have hlb:=hkb.len
 have hb5:But v0 w5 pb pb:=(But.of_below (Below.refl _ v0).drew pb pb).trans h2
 have hs5:Whole 29 w5 X cs:=HXv.out.keep (hb5.block X HXv.out.lt HXG.out.2.1 HXG.out.2.1)
 refine⟨_,rfl,hs5,?_⟩
 go_frame
 have hka:KeptP (fun b=>p < b/\b≠X) w5 cs x:=HKv.out.to (fun b h1 h2=>⟨h1,hb5.block b h2 (by have:=h1.1;have:=HPN.out;have:=HP.out;have:=H.out.lt;omega) (by have:=h1.1;have:=HPN.out;have:=HP.out;have:=H.out.lt;omega)⟩) hb5.size
 have hkb2:KeptP (fun b=>p < b/\b≠X) w5 cb y:=hkb.to (fun b h1 h2=>⟨⟨by have h3:v0.heap.size<=b:=h1;have:=HRv.out.lt;omega,by have h3:v0.heap.size<=b:=h1;have:=HXv.out.lt;omega⟩,rfl⟩) (Nat.le_refl _)
 refine zx (some 11) 182 Tryz.func182 (by kernel_rfl) (by kernel_rfl) [.int .i64 10,.agg ⟨cs⟩,.agg ⟨cb⟩] _ _ _ rfl rfl rfl (by exact wantA rfl) rfl ?_
 refine(z14 10 cs cb hka.len hlb hka.one hkb2.one w5).mono ?_
 rintro e w6 ⟨g,rfl,hg,hwg,hb6⟩
 have hs6:Whole 29 w6 X cs:=hs5.keep (hb6.block X hs5.lt)
 refine⟨_,rfl,hs6,?_⟩
 go_frame
 refine z06 ?_
 simp only[List.drop_succ_cons,List.drop_zero]
 have hpg:p < g/\g≠X:=⟨by have:=HRv.out.lt;have:=hb5.size;omega,by have:=hs5.lt;omega⟩
 have hkt:KeptP (fun b=>p < b/\b≠X) w6 (twoC 10 g) (twoE 10 x y):=z0M (zr 10 (by decide +kernel)) hwg hpg (hka.to (fun b h1 h2=>⟨h1,hb6.block b h2⟩) hb6.size) (hkb2.to (fun b h1 h2=>⟨h1,hb6.block b h2⟩) hb6.size)
 have HKT:=I hkt
 have HX6:=I hs6
 have HR6:=I ((HRv.out.keep (hb5.block p HRv.out.lt HPN.out.1 HPN.out.1)).keep (hb6.block p (by have:=HRv.out.lt;have:=hb5.size;omega)))
 have HS6:=I (h1.keep hb6)
 have HB6:=I (HBv.out.trans (hb5.trans (But.of_below hb6 pb pb)))
 have HLX:=I hka.len
 clear hs hs5 hs6 hb5 hka hkb hkb2 hlb hwg hb6 hkt hg hpg h1 h2
 go_wp2_with ((with_reducible refine zh 29 _ _ rfl rfl ?hwfe p zEc (twoC 10 g) HR6.out ?hs1e ?hs2e ?hs3e ?hs4e ?hs5e ?_);(case hwfe=>exact wantA rfl);(case hs1e=>rfl);(case hs2e=>rfl);(case hs3e=>rfl);(case hs4e=>rw[HKT.out.len];kernel_rfl);(case hs5e=>exact HKT.out.one);intro Z hz hb;have HZ:=I hz;have HZB:=I hb;clear hz hb)
 (try simp only[Exit.inBlock,Exit.then])
 refine bodyPost_ret (zO rfl _ _ p (twoC 10 g) HKT.out.len rfl HZ.out) rfl ?_
 have hp:=HP.out
 refine⟨_,rfl,?_,HS6.out.under p HPN.out.1 HPN.out.2 HZB.out,zM HB6.out HZB.out (by omega)⟩
 exact KeptP.to (q:=fun b=>w.heap.size<=b) HKT.out (fun b h1 h2=>⟨by have:=h1.1;show w.heap.size<=b;omega,HZB.out.block b h2 (by have:=h1.1;omega) (by have:=h1.1;omega)⟩) HZB.out.size
theorem z12 {i j h:Nat} {x:ET} (hsub:PCon pb tb c E toks 142 i j h x) (n1:isB toks j ⟨#[63]⟩= false):PCon pb tb c E toks 98 i j (h+1) x:=by
 intro w d h h0 hd
 have HSUB:=I hsub
 have HN1:=I n1
 clear hsub n1
 go_enter Tryz.func98,Tryz.ntmps98
 go_upto_region 1 with (fail)
 have HR0:=I (Whole.new w zEc 29)
 have HB0:=I (ze w (.cells zEc.toArray 29))
 have hz:=z0n
 rw[hz]
 clear hz
 have HRW:Hid (w.heap.size <(w.alloc (.cells zEc.toArray 29)).heap.size):=I (by simp)
 generalize w.alloc (.cells zEc.toArray 29)= W at*
 obtain⟨p,hp⟩:∃ p,w.heap.size= p:=⟨_,rfl⟩
 rw[hp] at HR0 HRW
 rw[hp]
 have HP:=I hp
 have HS0:=I (h.keep HB0.out)
 have HPN:Hid (p≠pb/\p≠tb):=I ⟨by have:=h.lt;omega,by have:=h.lt;omega⟩
 have H:=I h
 have HD:=I (And.intro h0 hd)
 clear hp h h0 hd
 go_upto_region 2 with (go_at_call 141;refine(z7f HS0.out HD.out.1 (by have:=HD.out.2;omega)).mono ?_;rintro e w0 ⟨rfl,h1,h2⟩;have HS00:=I h1;have HB00:=I h2;clear h1 h2)
 have HR00:=I (HR0.out.keep (HB00.out.block p HRW.out HPN.out.1 HPN.out.1))
 have HRW0:Hid (p < w0.heap.size):=I HR00.out.lt
 have HBB0:=I ((But.of_below HB0.out pb pb).trans HB00.out)
 clear HR0 HRW HS0 HB0 HB00
 have HR0:=HR00
 have HRW:=HRW0
 have HS0:=HS00
 clear HR00 HRW0 HS00
 go_upto_region 3 with (first
  |(go_at_call 142;refine(HSUB.out w0 (d+1) HS0.out (by have:=HD.out.1;omega) (by have:=HD.out.2;omega)).mono ?_;rintro e w1 ⟨cs0,rfl,hk,h1,h2⟩;have hl:=hk.len;have HL0:=I hl;have HK0:=I hk;have HS1:=I h1;have HB1:=I h2;clear hl hk h1 h2)
  |((with_reducible refine z0x 29 _ _ rfl rfl ?hwe w1 ?zne cs0 ?hz1 ?hz2 ?hz3 ?hz4 ?hz5 ?hz6 ?_);(case hwe=>exact wantA rfl);(case hz1=>rfl);(case hz2=>rw[HL0.out];rfl);(case hz3=>rfl);(case hz4=>rfl);(case hz5=>rw[HL0.out];kernel_rfl);(case hz6=>exact HK0.out.one);intro W2 hz hb hlt;have HX2:=I hz;have HB2:=I hb;have HLT2:=I hlt;clear hz hb hlt))
 obtain⟨X,hX⟩:∃ X,w1.heap.size= X:=⟨_,rfl⟩
 rw[hX] at HX2 HB2 HLT2
 rw[hX]
 have hXX:=hX
 have HXG:Hid (p < X/\X≠pb/\X≠tb):=I ⟨by have:=HRW.out;have:=HB1.out.size;omega,by have:=HS1.out.lt;omega,by have:=HS1.out.lt;omega⟩
 have hB12:Below w1.heap.size w1 W2:=by rw[hX];exact HB2.out
 have HR2:=I ((HR0.out.keep (HB1.out.block p HRW.out HPN.out.1 HPN.out.1)).keep (hB12.block p (by rw[hX];exact HXG.out.1)))
 have HS2:=I (HS1.out.keep hB12)
 have HK2:Hid (KeptP (fun b=>p < b/\b≠X) W2 cs0 x):=I (HK0.out.to (fun b h1 h2=>⟨⟨by have:=HRW.out;omega,by omega⟩,hB12.block b h2⟩) hB12.size)
 have HBW2:Hid (But w W2 pb pb):=I (HBB0.out.trans (HB1.out.trans (But.of_below hB12 pb pb)))
 clear hX hXX hB12 HB1 HB2 HLT2 HK0 HS1 HS0 HR0
 have HX:=HX2
 have HR:=HR2
 have HK:=HK2
 have HS:=HS2
 have HB:=HBW2
 clear HX2 HR2 HK2 HS2 HBW2
 obtain⟨cs,hcs⟩:∃ cs,cs= cs0:=⟨_,rfl⟩
 rw[← hcs] at HX HK HL0
 rw[← hcs]
 clear hcs
 go_upto_region 8 with (go_at_call 143;refine(zD HS.out HN1.out).mono ?_;rintro e v0 ⟨rfl,h1,h2⟩;have HT0:=I h1;have HTB0:=I h2;clear h1 h2)
 have HTB:=I HTB0.out
 have HXv:=I (HX.out.keep (HTB.out.block X HX.out.lt HXG.out.2.1 HXG.out.2.1))
 have HRv:=I (HR.out.keep (HTB.out.block p HR.out.lt HPN.out.1 HPN.out.1))
 have HKv:Hid (KeptP (fun b=>p < b/\b≠X) v0 cs x):=I (HK.out.to (fun b h1 h2=>⟨h1,HTB.out.block b h2 (by have:=h1.1;have:=HPN.out;have:=HP.out;have:=H.out.lt;omega) (by have:=h1.1;have:=HPN.out;have:=HP.out;have:=H.out.lt;omega)⟩) HTB.out.size)
 have HBv:=I (HB.out.trans HTB.out)
 have HSu:=HT0
 have d5:=HSu.out.cell 5
 have f5:=HSu.out.thaw 5
 simp only[List.getElem?_toArray,List.getElem?_cons_succ,List.getElem?_cons_zero] at d5
 have HS9:=I (HSu.out.setD d)
 have HB9:=I (But.setAt v0 pb 5 (.int .i64 d))
 have hd1:d+1 - 1= d:=by omega
 have hd2:wrap64 d= d:=by have:=HD.out;unfold wrap64;omega
 go_upto_region 9 with (fail)
 generalize v0.setCell ⟨pb,5,none⟩ (.int .i64 d)= v9 at*
 have HX9:=I (HXv.out.keep (HB9.out.block X HXv.out.lt HXG.out.2.1 HXG.out.2.1))
 have HR9:=I (HRv.out.keep (HB9.out.block p HRv.out.lt HPN.out.1 HPN.out.1))
 have HK9:Hid (KeptP (fun b=>p < b/\b≠X) v9 cs x):=I (HKv.out.to (fun b h1 h2=>⟨h1,HB9.out.block b h2 (by have:=h1.1;have:=HPN.out;have:=HP.out;have:=H.out.lt;omega) (by have:=h1.1;have:=HPN.out;have:=HP.out;have:=H.out.lt;omega)⟩) HB9.out.size)
 have HB10:=I (HBv.out.trans HB9.out)
 clear HX HR HK HXv HRv HKv d5 f5 hd1 hd2
 have HX:=HX9
 have HK:=HK9
 have HXR:=I (HX.out.range)
 have HLX:=I (HK.out.len)
 go_wp2_with (first
  |((with_reducible refine zc 29 _ rfl ?hwld X 0 cs _ rfl HXR.out Tryz.underlying29 rfl ?hild ?_);(case hwld=>exact wantA rfl);(case hild=>rw[HLX.out];kernel_rfl))
  |((with_reducible refine zh 29 _ _ rfl rfl ?hwfd p zEc cs HR9.out ?hs1d ?hs2d ?hs3d ?hs4d ?hs5d ?_);(case hwfd=>exact wantA rfl);(case hs1d=>rw[HLX.out];rfl);(case hs2d=>rfl);(case hs3d=>rfl);(case hs4d=>rw[HLX.out];kernel_rfl);(case hs5d=>exact HK.out.one);intro Z hz hb;have HZ:=I hz;have HZB:=I hb;clear hz hb))
 (try simp only[Exit.inBlock,Exit.then])
 refine bodyPost_ret (zO rfl _ _ p cs HLX.out rfl HZ.out) rfl ?_
 have hp:=HP.out
 refine⟨cs,rfl,?_,HS9.out.under p HPN.out.1 HPN.out.2 HZB.out,zM HB10.out HZB.out (by omega)⟩
 exact KeptP.to (q:=fun b=>w.heap.size<=b) HK.out (fun b h1 h2=>⟨by have:=h1.1;show w.heap.size<=b;omega,HZB.out.block b h2 (by have:=h1.1;omega) (by have:=h1.1;omega)⟩) HZB.out.size
theorem zS {i j h:Nat} {x:ET} (hsub:PCon pb tb c E toks 249 i j h x) (n1:isB toks i ⟨#[45]⟩= false) (n2:isB toks i ⟨#[33]⟩= false):PCon pb tb c E toks 245 i j (h+1) x:=by
 intro w d h h0 hd
 have HSUB:=I hsub
 have HN1:=I n1
 have HN2:=I n2
 clear hsub n1 n2
 go_enter Tryz.func245,Tryz.ntmps245
 go_upto_region 1 with (fail)
 have HR0:=I (Whole.new w zEc 29)
 have HB0:=I (ze w (.cells zEc.toArray 29))
 have hz:=z0n
 rw[hz]
 clear hz
 have HRW:Hid (w.heap.size <(w.alloc (.cells zEc.toArray 29)).heap.size):=I (by simp)
 generalize w.alloc (.cells zEc.toArray 29)= W at*
 obtain⟨p,hp⟩:∃ p,w.heap.size= p:=⟨_,rfl⟩
 rw[hp] at HR0 HRW
 rw[hp]
 have HP:=I hp
 have HS0:=I (h.keep HB0.out)
 have HPN:Hid (p≠pb/\p≠tb):=I ⟨by have:=h.lt;omega,by have:=h.lt;omega⟩
 have H:=I h
 have HD:=I (And.intro h0 hd)
 clear hp h h0 hd
 go_upto_region 2 with (go_at_call 141;refine(z7f HS0.out HD.out.1 (by have:=HD.out.2;omega)).mono ?_;rintro e w0 ⟨rfl,h1,h2⟩;have HS00:=I h1;have HB00:=I h2;clear h1 h2)
 have HR00:=I (HR0.out.keep (HB00.out.block p HRW.out HPN.out.1 HPN.out.1))
 have HRW0:Hid (p < w0.heap.size):=I HR00.out.lt
 have HBB0:=I ((But.of_below HB0.out pb pb).trans HB00.out)
 clear HR0 HRW HS0 HB0 HB00
 have HR0:=HR00
 have HRW:=HRW0
 have HS0:=HS00
 clear HR00 HRW0 HS00
 go_upto_region 3 with ((with_reducible refine z0x 29 _ _ rfl rfl ?hwe w0 ?zne zEc ?hz1 ?hz2 ?hz3 ?hz4 ?hz5 ?hz6 ?_);(case hwe=>exact wantA rfl);(case hz1=>rfl);(case hz2=>rfl);(case hz3=>rfl);(case hz4=>rfl);(case hz5=>kernel_rfl);(case hz6=>intro v hv;simp only[zEc,zVc,List.mem_cons,List.mem_append,List.not_mem_nil,or_false] at hv;rcases hv with rfl|rfl|(rfl|rfl|rfl|rfl|rfl|rfl)|rfl|rfl<;>rfl);intro W2 hz hb hlt;have HX2:=I hz;have HB2:=I hb;have HLT2:=I hlt;clear hz hb hlt)
 obtain⟨X,hX⟩:∃ X,w0.heap.size= X:=⟨_,rfl⟩
 rw[hX] at HX2 HB2 HLT2
 rw[hX]
 have HXG:Hid (p < X/\X≠pb/\X≠tb):=I ⟨by have:=HRW.out;omega,by have:=HS0.out.lt;omega,by have:=HS0.out.lt;omega⟩
 have hB02:Below w0.heap.size w0 W2:=by rw[hX];exact HB2.out
 have HR2:=I (HR0.out.keep (hB02.block p (by rw[hX];exact HXG.out.1)))
 have HS2:=I (HS0.out.keep hB02)
 have HBW2:Hid (But w W2 pb pb):=I (HBB0.out.trans (But.of_below hB02 pb pb))
 clear hX hB02 HB2 HLT2 HS0 HR0 HBB0 HRW
 have HX:=HX2
 have HR:=HR2
 have HS:=HS2
 have HB:=HBW2
 clear HX2 HR2 HS2 HBW2
 go_upto_region 5 with (go_at_call 143;refine(zD HS.out HN1.out).mono ?_;rintro e v0 ⟨rfl,h1,h2⟩;have HT0:=I h1;have HTB0:=I h2;clear h1 h2)
 go_upto_region 7 with (go_at_call 143;refine(zD HT0.out HN2.out).mono ?_;rintro e v1 ⟨rfl,h1,h2⟩;have HT1:=I h1;have HTB1:=I h2;clear h1 h2)
 have HTB:=I (HTB0.out.trans HTB1.out)
 have HX1:=I (HX.out.keep (HTB.out.block X HX.out.lt HXG.out.2.1 HXG.out.2.1))
 have HR1:=I (HR.out.keep (HTB.out.block p HR.out.lt HPN.out.1 HPN.out.1))
 have HB1:=I (HB.out.trans HTB.out)
 clear HX HR HB HS HTB0 HTB1 HT0 HTB
 go_upto_region 8 with (first
  |(go_at_call 249;refine(HSUB.out v1 (d+1) HT1.out (by have:=HD.out.1;omega) (by have:=HD.out.2;omega)).mono ?_;rintro e w3 ⟨cs,rfl,hk,h1,h2⟩;have hl:=hk.len;have HLX:=I hl;have HK3:=I hk;have HS3:=I h1;have HB3:=I h2;have HX3:=I (HX1.out.keep (h2.block X HX1.out.lt HXG.out.2.1 HXG.out.2.1));clear hl hk h1 h2)
  |((with_reducible refine zh 29 _ _ rfl rfl ?hwu X zEc cs HX3.out ?hu1 ?hu2 ?hu3 ?hu4 ?hu5 ?_);(case hwu=>exact wantA rfl);(case hu1=>rw[HLX.out];rfl);(case hu2=>rfl);(case hu3=>rfl);(case hu4=>rw[HLX.out];kernel_rfl);(case hu5=>exact HK3.out.one);intro v0 hz hb;have HX4:=I hz;have HB4:=I hb;clear hz hb))
 have HXv:=HX4
 have HRv:=I ((HR1.out.keep (HB3.out.block p HR1.out.lt HPN.out.1 HPN.out.1)).keep (HB4.out.block p (by have:=HX3.out.lt;have:=HXG.out.1;omega) (by have:=HXG.out.1;omega) (by have:=HXG.out.1;omega)))
 have HKv:Hid (KeptP (fun b=>p < b/\b≠X) v0 cs x):=I (KeptP.to (q:=fun b=>p < b/\b≠X) HK3.out (fun b h1 h2=>by
  have h3:v1.heap.size<=b:=h1
  have h4:=HX1.out.lt
  have h5:=HXG.out.1
  exact⟨⟨by omega,by omega⟩,HB4.out.block b h2 (by omega) (by omega)⟩) HB4.out.size)
 have HBv:=I (zM (HB1.out.trans HB3.out) HB4.out (by have:=HXG.out.1;have:=HP.out;omega))
 have HSu:=I (HS3.out.under X HXG.out.2.1 HXG.out.2.2 HB4.out)
 have HX:=HX4
 have HR:=HRv
 have HK:=HKv
 clear HX1 HR1 HB1 HX3 HB3 HB4 HX4 HK3 HS3
 have d5:=HSu.out.cell 5
 have f5:=HSu.out.thaw 5
 simp only[List.getElem?_toArray,List.getElem?_cons_succ,List.getElem?_cons_zero] at d5
 have HS9:=I (HSu.out.setD d)
 have HB9:=I (But.setAt v0 pb 5 (.int .i64 d))
 have hd1:d+1 - 1= d:=by omega
 have hd2:wrap64 d= d:=by have:=HD.out;unfold wrap64;omega
 go_upto_region 9 with (fail)
 generalize v0.setCell ⟨pb,5,none⟩ (.int .i64 d)= v9 at*
 have HX9:=I (HXv.out.keep (HB9.out.block X HXv.out.lt HXG.out.2.1 HXG.out.2.1))
 have HR9:=I (HRv.out.keep (HB9.out.block p HRv.out.lt HPN.out.1 HPN.out.1))
 have HK9:Hid (KeptP (fun b=>p < b/\b≠X) v9 cs x):=I (HKv.out.to (fun b h1 h2=>⟨h1,HB9.out.block b h2 (by have:=h1.1;have:=HPN.out;have:=HP.out;have:=H.out.lt;omega) (by have:=h1.1;have:=HPN.out;have:=HP.out;have:=H.out.lt;omega)⟩) HB9.out.size)
 have HB10:=I (HBv.out.trans HB9.out)
 clear HX HR HK HXv HRv HKv d5 f5 hd1 hd2
 have HX:=HX9
 have HK:=HK9
 have HXR:=I (HX.out.range)
 go_wp2_with (first
  |((with_reducible refine zc 29 _ rfl ?hwld X 0 cs _ rfl HXR.out Tryz.underlying29 rfl ?hild ?_);(case hwld=>exact wantA rfl);(case hild=>rw[HLX.out];kernel_rfl))
  |((with_reducible refine zh 29 _ _ rfl rfl ?hwfd p zEc cs HR9.out ?hs1d ?hs2d ?hs3d ?hs4d ?hs5d ?_);(case hwfd=>exact wantA rfl);(case hs1d=>rw[HLX.out];rfl);(case hs2d=>rfl);(case hs3d=>rfl);(case hs4d=>rw[HLX.out];kernel_rfl);(case hs5d=>exact HK.out.one);intro Z hz hb;have HZ:=I hz;have HZB:=I hb;clear hz hb))
 (try simp only[Exit.inBlock,Exit.then])
 refine bodyPost_ret (zO rfl _ _ p cs HLX.out rfl HZ.out) rfl ?_
 have hp:=HP.out
 refine⟨cs,rfl,?_,HS9.out.under p HPN.out.1 HPN.out.2 HZB.out,zM HB10.out HZB.out (by omega)⟩
 exact KeptP.to (q:=fun b=>w.heap.size<=b) HK.out (fun b h1 h2=>⟨by have:=h1.1;show w.heap.size<=b;omega,HZB.out.block b h2 (by have:=h1.1;omega) (by have:=h1.1;omega)⟩) HZB.out.size
inductive PI (h:Nat) (pb tb c:Nat) (E:Int) (toks:List Tok):ET->Nat->ET->Nat->Prop
 |done (x:ET) (i:Nat):isB toks i ⟨#[46]⟩= false->isB toks i ⟨#[91]⟩= false->PI h pb tb c E toks x i x i
 |step (x:ET) (i:Nat) (y:ET) (j:Nat) (z:ET) (k:Nat):isB toks i ⟨#[91]⟩= true->PCon pb tb c E toks 98 (i+1) j h y->isB toks j ⟨#[93]⟩= true->i < j->PI h pb tb c E toks (twoE 19 x y) (j+1) z k->PI h pb tb c E toks x i z k
theorem zY {i j k h:Nat} {x z:ET} (hsub:PCon pb tb c E toks 250 i j h x) (hl:PI h pb tb c E toks x j z k):PCon pb tb c E toks 249 i k h z:=by
 intro w d h h0 hd
 have HSUB:=I hsub
 have HPL:=I hl
 clear hsub hl
 go_enter Tryz.func249,Tryz.ntmps249
 go_upto_region 1 with (fail)
 have HR0:=I (Whole.new w zEc 29)
 have HB0:=I (ze w (.cells zEc.toArray 29))
 have hz:=z0n
 rw[hz]
 clear hz
 have HRW:Hid (w.heap.size <(w.alloc (.cells zEc.toArray 29)).heap.size):=I (by simp)
 generalize w.alloc (.cells zEc.toArray 29)= W at*
 obtain⟨p,hp⟩:∃ p,w.heap.size= p:=⟨_,rfl⟩
 rw[hp] at HR0 HRW
 rw[hp]
 have HP:=I hp
 have HS0:=I (h.keep HB0.out)
 have HPN:Hid (p≠pb/\p≠tb):=I ⟨by have:=h.lt;omega,by have:=h.lt;omega⟩
 have H:=I h
 have HD:=I (And.intro h0 hd)
 clear hp h h0 hd
 go_upto_region 2 with (first
  |(go_at_call 250;refine(HSUB.out W d HS0.out HD.out.1 HD.out.2).mono ?_;rintro e w1 ⟨cs0,rfl,hk,h1,h2⟩;have hl:=hk.len;have HL0:=I hl;have HK0:=I hk;have HS1:=I h1;have HB1:=I h2;clear hl hk h1 h2)
  |((with_reducible refine z0x 29 _ _ rfl rfl ?hwe w1 ?zne cs0 ?hz1 ?hz2 ?hz3 ?hz4 ?hz5 ?hz6 ?_);(case hwe=>exact wantA rfl);(case hz1=>rfl);(case hz2=>rw[HL0.out];rfl);(case hz3=>rfl);(case hz4=>rfl);(case hz5=>rw[HL0.out];kernel_rfl);(case hz6=>exact HK0.out.one);intro W2 hz hb hlt;have HX2:=I hz;have HB2:=I hb;have HLT2:=I hlt;clear hz hb hlt))
 obtain⟨X,hX⟩:∃ X,w1.heap.size= X:=⟨_,rfl⟩
 rw[hX] at HX2 HB2 HLT2
 rw[hX]
 have hXX:=hX
 have HXG:Hid (p < X/\X≠pb/\X≠tb):=I ⟨by have:=HRW.out;have:=HB1.out.size;omega,by have:=HS1.out.lt;omega,by have:=HS1.out.lt;omega⟩
 have hB12:Below w1.heap.size w1 W2:=by rw[hX];exact HB2.out
 have HR2:=I ((HR0.out.keep (HB1.out.block p HRW.out HPN.out.1 HPN.out.1)).keep (hB12.block p (by rw[hX];exact HXG.out.1)))
 have HS2:=I (HS1.out.keep hB12)
 have HK2:Hid (KeptP (fun b=>p < b/\b≠X) W2 cs0 x):=I (HK0.out.to (fun b h1 h2=>⟨⟨by have:=HRW.out;omega,by omega⟩,hB12.block b h2⟩) hB12.size)
 have HBW2:Hid (But w W2 pb pb):=I ((But.of_below HB0.out pb pb).trans (HB1.out.trans (But.of_below hB12 pb pb)))
 clear hX hXX hB12 HB1 HB2 HLT2 HK0 HS1 HS0 HR0
 go_wp2
 go_loopg [] (toks.length - j) (fun q u=>∃ (x:ET) (i:Nat) (cs:List Value),PI h pb tb c E toks x i z k/\q= toks.length - i/\Whole 29 u X cs/\Whole 29 u p zEc/\KeptP (fun b=>p < b/\b≠X) u cs x/\PSt pb tb c E toks u i d/\But w u pb pb)
 case atStart=>exact⟨x,j,cs0,HPL.out,rfl,HX2.out,HR2.out,HK2.out,HS2.out,HBW2.out⟩
 case round=>
  clear HX2 HR2 HK2 HS2 HBW2 HL0 HPL
  obtain⟨x,i,cs,hpl,hq,hx,hr,hk,hs,hb⟩:=hrel
  have HX:=I hx
  have HR:=I hr
  have HK:=I hk
  have HS:=I hs
  have HB:=I hb
  have HGQ:=I hq
  clear hx hr hk hs hb hq
  cases hpl with
  |done _ _ hno1 hno2=>
   have HN1:=I hno1
   have HN2:=I hno2
   clear hno1 hno2
   go_upto_region 5 with (go_at_call 143;refine(zD HS.out HN1.out).mono ?_;rintro e v0 ⟨rfl,h1,h2⟩;have HT0:=I h1;have HTB0:=I h2;clear h1 h2)
   go_upto_region 8 with (go_at_call 143;refine(zD HT0.out HN2.out).mono ?_;rintro e v1 ⟨rfl,h1,h2⟩;have HT1:=I h1;have HTB1:=I h2;clear h1 h2)
   have HTB:=I (HTB0.out.trans HTB1.out)
   have HXv:=I (HX.out.keep (HTB.out.block X HX.out.lt HXG.out.2.1 HXG.out.2.1))
   have HRv:=I (HR.out.keep (HTB.out.block p HR.out.lt HPN.out.1 HPN.out.1))
   have HKv:Hid (KeptP (fun b=>p < b/\b≠X) v1 cs z):=I (HK.out.to (fun b h1 h2=>⟨h1,HTB.out.block b h2 (by have:=h1.1;have:=HPN.out;have:=HP.out;have:=H.out.lt;omega) (by have:=h1.1;have:=HPN.out;have:=HP.out;have:=H.out.lt;omega)⟩) HTB.out.size)
   have HBv:=I (HB.out.trans HTB.out)
   clear HX HR HK
   have HX:=HXv
   have HK:=HKv
   have HXR:=I (HX.out.range)
   have HLX:=I (HK.out.len)
   go_wp2_with (first
    |((with_reducible refine zc 29 _ rfl ?hwld X 0 cs _ rfl HXR.out Tryz.underlying29 rfl ?hild ?_);(case hwld=>exact wantA rfl);(case hild=>rw[HLX.out];kernel_rfl))
    |((with_reducible refine zh 29 _ _ rfl rfl ?hwfd p zEc cs HRv.out ?hs1d ?hs2d ?hs3d ?hs4d ?hs5d ?_);(case hwfd=>exact wantA rfl);(case hs1d=>rw[HLX.out];rfl);(case hs2d=>rfl);(case hs3d=>rfl);(case hs4d=>rw[HLX.out];kernel_rfl);(case hs5d=>exact HK.out.one);intro Z hz hb;have HZ:=I hz;have HZB:=I hb;clear hz hb))
   (try simp only[Exit.inBlock,Exit.then])
   refine bodyPost_ret (zO rfl _ _ p cs HLX.out rfl HZ.out) rfl ?_
   have hp:=HP.out
   refine⟨cs,rfl,?_,HT1.out.under p HPN.out.1 HPN.out.2 HZB.out,zM HBv.out HZB.out (by omega)⟩
   exact KeptP.to (q:=fun b=>w.heap.size<=b) HK.out (fun b h1 h2=>⟨by have:=h1.1;show w.heap.size<=b;omega,HZB.out.block b h2 (by have:=h1.1;omega) (by have:=h1.1;omega)⟩) HZB.out.size
  |step _ _ y j z _ his hsub hbr hlt hrest=>
   have HSUB2:=I hsub
   have HREST:=I hrest
   have HLT:=I hlt
   have HIS:=I his
   have HBR:=I hbr
   have hno0:isB toks i ⟨#[46]⟩= false:=z0T HIS.out (by decide +kernel)
   have HNO0:=I hno0
   clear hsub hrest hlt his hno0 hbr
   go_upto_region 5 with (go_at_call 143;refine(zD HS.out HNO0.out).mono ?_;rintro e v0 ⟨rfl,h1,h2⟩;have HT0:=I h1;have HTB0:=I h2;clear h1 h2)
   go_upto_region 6 with (go_at_call 143;refine(z0t HT0.out HIS.out).mono ?_;rintro e v1 ⟨rfl,h1,h2⟩;have HT1:=I h1;have HTB1:=I h2;clear h1 h2)
   have HTB:=I (HTB0.out.trans HTB1.out)
   have HXv:=I (HX.out.keep (HTB.out.block X HX.out.lt HXG.out.2.1 HXG.out.2.1))
   have HRv:=I (HR.out.keep (HTB.out.block p HR.out.lt HPN.out.1 HPN.out.1))
   have HKv:Hid (KeptP (fun b=>p < b/\b≠X) v1 cs x):=I (HK.out.to (fun b h1 h2=>⟨h1,HTB.out.block b h2 (by have:=h1.1;have:=HPN.out;have:=HP.out;have:=H.out.lt;omega) (by have:=h1.1;have:=HPN.out;have:=HP.out;have:=H.out.lt;omega)⟩) HTB.out.size)
   have HBv:=I (HB.out.trans HTB.out)
   have hs:Whole 29 v1.drew X cs:=HXv.out
   refine zy 4 [(0,true),(1,true),(2,false),(3,false)]
    (fun z=>Whole 29 z X cs) (by kernel_rfl) (by kernel_rfl) rfl (by intro c a d v w h;cases d<;>exact h) ?_
   refine z8 (some 15) (.agg ⟨cs⟩) _ rfl rfl (by exact wantA rfl) hs (fun z hz=>zw 29 rfl X 0 cs _ rfl hz.range Tryz.underlying29 rfl (by rw[HK.out.len];kernel_rfl)) ?_
   go_frame
   refine zk (some 16) (.pointer (some ⟨pb,0,none⟩)) _ _ rfl rfl rfl (by exact wantA rfl) hs rfl ?_
   go_frame
   refine zx (some 17) 98 Tryz.func98 (by kernel_rfl) (by kernel_rfl) [.pointer (some ⟨pb,0,none⟩)] _ _ _ rfl rfl rfl (by exact wantA rfl) rfl ?_
   refine(HSUB2.out v1.drew d (HT1.out.keep (Below.refl _ v1).drew) HD.out.1 HD.out.2).mono ?_
   rintro e w5 ⟨cb,rfl,hkb,h1,h2⟩
   have hlb:=hkb.len
   have hb5:But v1 w5 pb pb:=(But.of_below (Below.refl _ v1).drew pb pb).trans h2
   have hs5:Whole 29 w5 X cs:=HXv.out.keep (hb5.block X HXv.out.lt HXG.out.2.1 HXG.out.2.1)
   refine⟨_,rfl,hs5,?_⟩
   go_frame
   have hka:KeptP (fun b=>p < b/\b≠X) w5 cs x:=HKv.out.to (fun b h1 h2=>⟨h1,hb5.block b h2 (by have:=h1.1;have:=HPN.out;have:=HP.out;have:=H.out.lt;omega) (by have:=h1.1;have:=HPN.out;have:=HP.out;have:=H.out.lt;omega)⟩) hb5.size
   have hkb2:KeptP (fun b=>p < b/\b≠X) w5 cb y:=hkb.to (fun b h1 h2=>⟨⟨by have h3:v1.heap.size<=b:=h1;have:=HRv.out.lt;omega,by have h3:v1.heap.size<=b:=h1;have:=HXv.out.lt;omega⟩,rfl⟩) (Nat.le_refl _)
   refine zx (some 18) 182 Tryz.func182 (by kernel_rfl) (by kernel_rfl) [.int .i64 19,.agg ⟨cs⟩,.agg ⟨cb⟩] _ _ _ rfl rfl rfl (by exact wantA rfl) rfl ?_
   refine(z14 19 cs cb hka.len hlb hka.one hkb2.one w5).mono ?_
   rintro e w6 ⟨g,rfl,hg,hwg,hb6⟩
   have hs6:Whole 29 w6 X cs:=hs5.keep (hb6.block X hs5.lt)
   refine⟨_,rfl,hs6,?_⟩
   go_frame
   refine z06 ?_
   simp only[List.drop_succ_cons,List.drop_zero]
   have hpg:p < g/\g≠X:=⟨by have:=HRv.out.lt;have:=hb5.size;omega,by have:=hs5.lt;omega⟩
   have hkt:KeptP (fun b=>p < b/\b≠X) w6 (twoC 19 g) (twoE 19 x y):=z0M (zr 19 (by decide +kernel)) hwg hpg (hka.to (fun b h1 h2=>⟨h1,hb6.block b h2⟩) hb6.size) (hkb2.to (fun b h1 h2=>⟨h1,hb6.block b h2⟩) hb6.size)
   have HKT:=I hkt
   have HX6:=I hs6
   have HR6:=I ((HRv.out.keep (hb5.block p HRv.out.lt HPN.out.1 HPN.out.1)).keep (hb6.block p (by have:=HRv.out.lt;have:=hb5.size;omega)))
   have HS6:=I (h1.keep hb6)
   have HB6:=I (HBv.out.trans (hb5.trans (But.of_below hb6 pb pb)))
   have HLX:=I hka.len
   clear hs hs5 hs6 hb5 hka hkb hkb2 hlb hwg hb6 hkt hg hpg h1 h2
   go_upto_region 7 with ((with_reducible refine zh 29 _ _ rfl rfl ?hwf1s X cs (twoC 19 g) HX6.out ?hs11s ?hs21s ?hs31s ?hs41s ?hs51s ?_);(case hwf1s=>exact wantA rfl);(case hs11s=>rw[HLX.out];rfl);(case hs21s=>rfl);(case hs31s=>rfl);(case hs41s=>rw[HKT.out.len];kernel_rfl);(case hs51s=>exact HKT.out.one);intro Z hz hb;have HZ:=I hz;have HZB:=I hb;clear hz hb)
   have HSZ:=I (HS6.out.under X HXG.out.2.1 HXG.out.2.2 HZB.out)
   have HBZ:=I (zM HB6.out HZB.out (by have:=HXG.out.1;have:=HP.out;omega))
   have HRZ:=I (HR6.out.keep (HZB.out.block p HR6.out.lt (by have:=HXG.out.1;omega) (by have:=HXG.out.1;omega)))
   have HKZ:=I (HKT.out.to (fun b h1 h2=>⟨h1,HZB.out.block b h2 h1.2 h1.2⟩) HZB.out.size)
   go_wp2_with (go_at_call 144;refine(z82 HSZ.out HBR.out).mono ?_;rintro e v9 ⟨rfl,h1,h2⟩;have HS9:=I h1;have HB9:=I h2;clear h1 h2)
   go_roundg (toks.length - (j+1))
   case measure=>have:=HLT.out;have h2:=z1n HIS.out;have:=HGQ.out;omega
   case rel=>
    refine⟨_,j+1,_,HREST.out,rfl,HZ.out.keep (HB9.out.block X HZ.out.lt HXG.out.2.1 HXG.out.2.1),HRZ.out.keep (HB9.out.block p HRZ.out.lt HPN.out.1 HPN.out.1),HKZ.out.to (fun b h1 h2=>⟨h1,HB9.out.block b h2 (by have:=h1.1;have:=HPN.out;have:=HP.out;have:=H.out.lt;omega) (by have:=h1.1;have:=HPN.out;have:=HP.out;have:=H.out.lt;omega)⟩) HB9.out.size,HS9.out,HBZ.out.trans HB9.out⟩
end
end
section
open Go Go.RowKit
def zG (c:UInt8):Bool:=decide (48<=(c.toNat:Int)) && decide ((c.toNat:Int)<=57)
def z0S (c:UInt8):Bool:=decide (97<=(c.toNat:Int)) && decide ((c.toNat:Int)<=122)
def z01 (c:UInt8):Bool:=((c.toNat:Int) ==32) ||(((c.toNat:Int) ==9) ||(((c.toNat:Int) ==10) ||((c.toNat:Int) ==13)))
theorem z07 {s:ByteArray} {k:Nat} {c:UInt8} (h:s.data.toList[k]?= some c) (hk:k < s.size):s[k]'hk= c:=by
 have h2:s.data[k]?= some c:=by simpa using h
 obtain⟨h3,h4⟩:=Array.getElem?_eq_some_iff.1 h2
 exact h4
theorem z2m (c:UInt8) (w:World):Calls Tryz.prog 175 #[.int .u8 (c.toNat:Int)] w fun e w'=>e= .returned (.bool (zG c))/\w'= w:=by
 have HC:Hid (zG c=(decide (48<=(c.toNat:Int)) && decide ((c.toNat:Int)<=57))):=I rfl
 by_cases h1:48<=(c.toNat:Int)
 ·have d1:=decide_eq_true h1
  by_cases h2:(c.toNat:Int)<=57
  ·have d2:=decide_eq_true h2
   go_enter Tryz.func175,Tryz.ntmps175
   go_wp2
   go_ret
   exact⟨by rw[HC.out,d1,d2];rfl,rfl⟩
  ·have d2:=decide_eq_false h2
   go_enter Tryz.func175,Tryz.ntmps175
   go_wp2
   go_ret
   exact⟨by rw[HC.out,d1,d2];rfl,rfl⟩
 ·have d1:=decide_eq_false h1
  go_enter Tryz.func175,Tryz.ntmps175
  go_wp2
  go_ret
  exact⟨by rw[HC.out,d1];rfl,rfl⟩
theorem z4E (c:UInt8) (w:World):Calls Tryz.prog 177 #[.int .u8 (c.toNat:Int)] w fun e w'=>e= .returned (.bool (z0S c))/\w'= w:=by
 have HC:Hid (z0S c=(decide (97<=(c.toNat:Int)) && decide ((c.toNat:Int)<=122))):=I rfl
 by_cases h1:97<=(c.toNat:Int)
 ·have d1:=decide_eq_true h1
  by_cases h2:(c.toNat:Int)<=122
  ·have d2:=decide_eq_true h2
   go_enter Tryz.func177,Tryz.ntmps177
   go_wp2
   go_ret
   exact⟨by rw[HC.out,d1,d2];rfl,rfl⟩
  ·have d2:=decide_eq_false h2
   go_enter Tryz.func177,Tryz.ntmps177
   go_wp2
   go_ret
   exact⟨by rw[HC.out,d1,d2];rfl,rfl⟩
 ·have d1:=decide_eq_false h1
  go_enter Tryz.func177,Tryz.ntmps177
  go_wp2
  go_ret
  exact⟨by rw[HC.out,d1];rfl,rfl⟩
theorem z3d (c:UInt8) (w:World):Calls Tryz.prog 174 #[.int .u8 (c.toNat:Int)] w fun e w'=>e= .returned (.bool (z01 c))/\w'= w:=by
 have HC:Hid (z01 c=(((c.toNat:Int) ==32) ||(((c.toNat:Int) ==9) ||(((c.toNat:Int) ==10) ||((c.toNat:Int) ==13))))):=I rfl
 generalize (c.toNat:Int)= x at*
 cases h1:x ==32<;>cases h2:x ==9<;>cases h3:x ==10<;>cases h4:x ==13
 all_goals
  have HX:Hid (z01 c= _):=I (by rw[HC.out,h1,h2,h3,h4])
  clear HC
  go_enter Tryz.func174,Tryz.ntmps174
  go_wp2
  go_ret
  exact⟨by rw[HX.out];rfl,rfl⟩
def z0e (P:UInt8->Bool) (L:List UInt8) (i e:Nat):Prop:=∀ k,i<=k->k < e->∃ c,L[k]?= some c/\P c= true
def z0W (P:UInt8->Bool) (L:List UInt8) (e:Nat):Prop:=∀ c,L[e]?= some c->P c= false
theorem z3I (s:ByteArray) (i e:Nat) (hie:i<=e) (he:e<=s.size) (hsz:(s.size:Int)<=2000) (hc:z0e zG s.data.toList i e) (hs:z0W zG s.data.toList e) (w:World):
  Calls Tryz.prog 202 #[.string s,.int .i64 (i:Nat)] w fun r w'=>r= .returned (.int .i64 (e:Nat))/\w'= w:=by
 have HC:=I hc
 have HS:=I hs
 have HL:Hid (s.data.toList.length= s.size):=I (by cases s;rfl)
 have HE:=I he
 have HD:=I (fun c w=>z2m c w)
 clear hc hs he
 go_enter Tryz.func202,Tryz.ntmps202
 go_wp2
 go_loopg [1] (e - i) (fun q x u=>∃ k:Nat,k<=e/\k+q= e/\i<=k/\x= .int .i64 (k:Nat)/\u= w)
 case atStart=>exact⟨i,hie,by omega,Nat.le_refl _,rfl,rfl⟩
 case round=>
  obtain⟨k,hke,hkq,hik,rfl,rfl⟩:=hrel
  cases gk with
  |zero=>
   obtain rfl:k= e:=by omega
   by_cases hend:k < s.size
   ·obtain⟨c,hc⟩:∃ c,s.data.toList[k]?= some c:=⟨_,List.getElem?_eq_getElem (by rw[HL.out];exact hend)⟩
    have dk:=fun h=>z07 (k:=k) (c:=c) hc h
    have HB:Hid (zG c= false):=I (HS.out c hc)
    have hlt:(k:Int) <(s.size:Int):=by omega
    clear hc
    go_wp2_with (go_at_call 175;refine(HD.out c _).mono ?_;rw[HB.out];rintro e z ⟨rfl,rfl⟩)
    go_ret
    exact⟨rfl,rfl⟩
   ·have hlt: ¬ ((k:Int) <(s.size:Int)):=by omega
    go_wp2
    go_ret
    exact⟨rfl,rfl⟩
  |succ q=>
   have he:=HE.out
   obtain⟨c,hc,hd⟩:=HC.out k hik (by omega)
   have dk:=fun h=>z07 (k:=k) (c:=c) hc h
   have HB:=I hd
   have hlt:(k:Int) <(s.size:Int):=by omega
   clear hc hd
   go_wp2_with (go_at_call 175;refine(HD.out c _).mono ?_;rw[HB.out];rintro e z ⟨rfl,rfl⟩)
   go_roundg q
   case measure=>omega
   case rel=>exact⟨k+1,by omega,by omega,by omega,by go_num,rfl⟩
end
section
open Go Go.RowKit
theorem z0I (s nm:ByteArray) (a e:Nat) (hae:a<=e) (he:e<=s.size) (hx:s.extract a e= nm) (W:World):
  (Instr.sliceAt 9 (.string s) (some (.int .i64 (a:Nat))) (some (.int .i64 (e:Nat))) none).run Tryz.prog W= .ok (.string nm) W:=by
 have hul:=Tryz.underlying9
 have h0:(Instr.slice 9 (.string s) (some (.int .i64 (a:Nat))) (some (.int .i64 (e:Nat))) none).run Tryz.prog W= .ok (.string (s.extract a e)) W:=by
  simp[Instr.slice,Instr.sliceBounds,run_sliceBound, *,(by omega:(0:Int)<=(a:Int)),(by omega:(0:Int)<=(e:Int)),(by omega:((a:Int))<=(e:Int))]
 rw[run_sliceAt_string (w:=W) (t:=9) (h:=hul),h0,hx]
theorem z0l (w:World) (A B:Obj):Below w.heap.size w ((w.alloc A).alloc B):=(ze w A).trans ((ze (w.alloc A) B).mono (by simp))
theorem z03 {fn:Func} {p u:Tmp} (h:fn.results= #[.cell p 156,.tmp u]) (tmps:Array Value) (w:World) (g:Nat) (cs:Array Value) (hs:cs.size= 6) (v:Value)
  (hp:tmps.getD p undef= .pointer (some ⟨g,0,none⟩)) (hg:w.heap[g]?= some (.cells cs 156 (0,0))) (hu:tmps.getD u undef= v):(results fn tmps).run Tryz.prog w= .ok (.tuple #[.agg cs,v]) w:=by
 rw[results_cell_tmp h,hp,hu]
 simp[asAddr,run_loadVar_row w g 156 156 cs (0,0) _ hg Tryz.underlying156 rfl (by rw[hs];kernel_rfl)]
def lxidC (c:UInt8):Bool:=z0S c ||(zG c ||(c.toNat:Int) ==95)
@[reducible] def zes (w:World) (i:Nat):World:=(w.alloc (.cells #[.int .i64 1,.int .i64 (i:Nat),.int .i64 (i:Nat),.int .i64 0,.float .f64 0,.string ⟨#[]⟩] 156)).alloc (.cells #[.int .i64 0,.int .i64 0,.int .i64 0,.int .i64 0,.float .f64 0,.string ⟨#[]⟩] 156)
theorem z9l (s nm:ByteArray) (i e:Nat) (hie:i < e) (he:e<=s.size) (hsz:(s.size:Int)<=2000) (hc:z0e lxidC s.data.toList i e) (hs:z0W lxidC s.data.toList e) (hx:s.extract i e= nm) (hl:(nm.size:Int)<=30)
  (hn1:(nm.toList ==[110,97,110])= false) (hn2:(nm.toList ==[105,110,102])= false) (w:World):
  Calls Tryz.prog 178 #[.string s,.agg #[.int .i64 1,.int .i64 (i:Nat),.int .i64 (i:Nat),.int .i64 0,.float .f64 0,.string ⟨#[]⟩]] w fun r w'=>
   r= .returned (.tuple #[.agg #[.int .i64 5,.int .i64 (i:Nat),.int .i64 (e:Nat),.int .i64 0,.float .f64 0,.string nm],.int .i64 0])/\Below w.heap.size w w':=by
 have HC:=I hc
 have HS:=I hs
 have HL:Hid (s.data.toList.length= s.size):=I (by cases s;rfl)
 have HE:=I he
 have HD:=I (fun c w=>z2m c w)
 have HLT:=I (fun c w=>z4E c w)
 have hsl:=fun W=>z0I s nm i e (by omega) he hx W
 have hx2: ¬ ((nm.size:Int) > 30):=by omega
 have hsf:∀ (W:World) (a:Addr),(store a (.float .f64 0)).run Tryz.prog W= stored Tryz.prog W a (.float .f64 0) .plain:=fun W a=>run_store _ _ _ _ _ rfl
 have HIE:=I hie
 clear hc hs he hx hie
 go_enter Tryz.func178,Tryz.ntmps178
 go_upto_region 2 with (fail)
 go_loopg [6] (e - i) (fun q x u=>∃ k:Nat,k<=e/\k+q= e/\i<=k/\x= .int .i64 (k:Nat)/\u= zes w i)
 case atStart=>exact⟨i,(by have:=HIE.out;omega),(by have:=HIE.out;omega),Nat.le_refl _,rfl,rfl⟩
 case round=>
  obtain⟨k,hke,hkq,hik,rfl,rfl⟩:=hrel
  cases gk with
  |zero=>
   obtain rfl:k= e:=by omega
   by_cases hend:k < s.size
   ·obtain⟨c,hc⟩:∃ c,s.data.toList[k]?= some c:=⟨_,List.getElem?_eq_getElem (by rw[HL.out];exact hend)⟩
    have dk:=fun h=>z07 (k:=k) (c:=c) hc h
    have hB:=HS.out c hc
    have hB1:Hid (z0S c= false):=I (by unfold lxidC at hB;cases h:z0S c<;>simp_all)
    have hB2:Hid (zG c= false):=I (by unfold lxidC at hB;cases h:zG c<;>simp_all)
    have hB3:((c.toNat:Int) ==95)= false:=by unfold lxidC at hB;cases h:((c.toNat:Int) ==95)<;>simp_all
    have hlt:(k:Int) <(s.size:Int):=by omega
    clear hc hB
    go_wp2_with (first
     |(go_at_call 177;refine(HLT.out c _).mono ?_;rw[hB1.out];rintro e z ⟨rfl,rfl⟩)
     |(go_at_call 175;refine(HD.out c _).mono ?_;rw[hB2.out];rintro e z ⟨rfl,rfl⟩))
    (try simp only[Exit.inBlock,Exit.then])
    refine bodyPost_ret (z03 rfl _ _ (w.heap.size+1) #[.int .i64 5,.int .i64 (i:Nat),.int .i64 (k:Nat),.int .i64 0,.float .f64 0,.string nm] rfl (.int .i64 0) rfl (heap_alloc2_new w _ _) rfl) rfl ?_
    exact⟨rfl,z0l w _ _⟩
   ·have hlt: ¬ ((k:Int) <(s.size:Int)):=by omega
    go_wp2
    (try simp only[Exit.inBlock,Exit.then])
    refine bodyPost_ret (z03 rfl _ _ (w.heap.size+1) #[.int .i64 5,.int .i64 (i:Nat),.int .i64 (k:Nat),.int .i64 0,.float .f64 0,.string nm] rfl (.int .i64 0) rfl (heap_alloc2_new w _ _) rfl) rfl ?_
    exact⟨rfl,z0l w _ _⟩
  |succ q=>
   have he:=HE.out
   obtain⟨c,hc,hd⟩:=HC.out k hik (by omega)
   have dk:=fun h=>z07 (k:=k) (c:=c) hc h
   have hlt:(k:Int) <(s.size:Int):=by omega
   cases h1:z0S c with
   |true=>
    have HB1:=I h1
    clear hc hd h1
    go_wp2_with (go_at_call 177;refine(HLT.out c _).mono ?_;rw[HB1.out];rintro e z ⟨rfl,rfl⟩)
    go_roundg q
    case measure=>omega
    case rel=>exact⟨k+1,by omega,by omega,by omega,by go_num,rfl⟩
   |false=>
    cases h2:zG c with
    |true=>
     have HB1:=I h1
     have HB2:=I h2
     clear hc hd h1 h2
     go_wp2_with (first
      |(go_at_call 177;refine(HLT.out c _).mono ?_;rw[HB1.out];rintro e z ⟨rfl,rfl⟩)
      |(go_at_call 175;refine(HD.out c _).mono ?_;rw[HB2.out];rintro e z ⟨rfl,rfl⟩))
     go_roundg q
     case measure=>omega
     case rel=>exact⟨k+1,by omega,by omega,by omega,by go_num,rfl⟩
    |false=>
     have hB3:((c.toNat:Int) ==95)= true:=by unfold lxidC at hd;rw[h1,h2] at hd;simpa using hd
     have HB1:=I h1
     have HB2:=I h2
     clear hc hd h1 h2
     go_wp2_with (first
      |(go_at_call 177;refine(HLT.out c _).mono ?_;rw[HB1.out];rintro e z ⟨rfl,rfl⟩)
      |(go_at_call 175;refine(HD.out c _).mono ?_;rw[HB2.out];rintro e z ⟨rfl,rfl⟩))
     go_roundg q
     case measure=>omega
     case rel=>exact⟨k+1,by omega,by omega,by omega,by go_num,rfl⟩
end
end Go.Proofs.YtmpbepjjbaeebaaGreatDoor
