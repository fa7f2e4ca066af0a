/- Parts of a proof: ParL, Levels, Prim2. -/
import Derived.Test.YtmpbepjjbaeebaaGreatDoorPackC16
set_option maxHeartbeats 8000000
set_option maxRecDepth 100000
set_option linter.unusedVariables false
set_option linter.unusedSimpArgs false
namespace Go.Proofs.YtmpbepjjbaeebaaGreatDoor
section
open Go Go.RowKit
def KeptP (p:Nat->Prop) (w:World) (cs:List Value) (t:ET):Prop:=ExpAt (only w p) w.heap.size cs t
theorem KeptP.exp {p:Nat->Prop} {w:World} {cs:List Value} {t:ET} (h:KeptP p w cs t):ExpAt w w.heap.size cs t:=ExpAt.cells h fun a v hv=>(zQ.1 hv).2
theorem KeptP.to {p q:Nat->Prop} {w w':World} {cs:List Value} {t:ET} (h:KeptP p w cs t) (hb:∀ b,p b->b < w.heap.size->q b/\w'.heap[b]?= w.heap[b]?) (hs:w.heap.size<=w'.heap.size):KeptP q w' cs t:=
 (ExpAt.cells h (z47 hb)).more hs
theorem KeptP.one {p:Nat->Prop} {w:World} {cs:List Value} {t:ET} (h:KeptP p w cs t):∀ v∈cs,v.oneCell'= true:=ExpAt.one h
theorem KeptP.len {p:Nat->Prop} {w:World} {cs:List Value} {t:ET} (h:KeptP p w cs t):cs.length= 10:=by
 cases t with
 |mk k s v ns its=>
  obtain⟨c0,c1,c2,c3,c4,c5,vn,vi,rfl,_⟩:=ExpAt.inv h
  rfl
theorem zr (n:Int) (h:(Lit.int .i64 n).wf= true):wfI n:=h
theorem z1t (w:World) (B:Nat) (k n:Int) (f:Nat) (s:ByteArray) (hk:wfI k) (hn:wfI n) (hf:(Lit.float .f64 f).wf= true) (hs:s.size<=maxLen):ValAt w B (valC k n f s) (.mk k n f s [] []):=
 ValAt.of hk hn hf hs (SlAt.nil w B 1 _) (Nat.zero_le _) (SlAt.nil w B 6 _)
theorem z4J (p:Nat->Prop) (w:World) (k n:Int) (f:Nat) (s:ByteArray) (hk:wfI k) (hn:wfI n) (hf:(Lit.float .f64 f).wf= true) (hs:s.size<=maxLen):KeptP p w (conC k n f s) (conE k n f s):=
 ExpAt.of (zr 1 (by decide +kernel)) (Nat.zero_le _) (z1t _ _ k n f s hk hn hf hs) (SlAt.nil _ _ 1 _) (Nat.zero_le _) (SlAt.nil _ _ 10 _)
theorem zcL (p:Nat->Prop) (w:World) (s:ByteArray) (hs:s.size<=maxLen):KeptP p w (varC s) (varE s):=
 ExpAt.of (zr 2 (by decide +kernel)) hs (z1t _ _ 0 0 0 ⟨#[]⟩ (zr 0 (by decide +kernel)) (zr 0 (by decide +kernel)) (by decide +kernel) (Nat.zero_le _)) (SlAt.nil _ _ 1 _) (Nat.zero_le _) (SlAt.nil _ _ 10 _)
theorem z0M {p:Nat->Prop} {w:World} {k:Int} {g:Nat} {ca cb:List Value} {x y:ET} (hk:wfI k) (hg:Whole 29 w g (ca ++ cb)) (hp:p g) (ha:KeptP p w ca x) (hb:KeptP p w cb y):KeptP p w (twoC k g) (twoE k x y):=by
 have la:=ha.len
 have lb:=hb.len
 refine ExpAt.of hk (Nat.zero_le _) (z1t _ _ 0 0 0 ⟨#[]⟩ (zr 0 (by decide +kernel)) (zr 0 (by decide +kernel)) (by decide +kernel) (Nat.zero_le _)) (SlAt.nil _ _ 1 _) (by show 2<=_;unfold maxLen;decide) ?_
 refine⟨by show 2<=_;decide,_,_,rfl,fun _=>⟨g,0,rfl,hg.lt,fun i z hz=> ?_⟩⟩
 have hr:∀ (o:Nat) (cs:List Value),(∀ j v,cs[j]?= some v->(ca ++ cb)[o+j]?= some v)->(only w p).rangeAt g o cs:=by
  intro o cs h j v hv
  exact zQ.2 ⟨hp,hg.cells (o+j) (h j v hv)⟩
 match i,hz with
 |0,hz=>
  obtain rfl:x= z:=by simpa using hz
  exact⟨ca,la,hr _ _ fun j v hv=>by rw[show 0+0*10+j= j by omega,List.getElem?_append_left (List.getElem?_eq_some_iff.1 hv).1];exact hv,ha⟩
 |1,hz=>
  obtain rfl:y= z:=by simpa using hz
  exact⟨cb,lb,hr _ _ fun j v hv=>by rw[show 0+1*10+j= ca.length+j by omega,List.getElem?_append_right (by omega),show ca.length+j - ca.length= j by omega];exact hv,hb⟩
 |i+2,hz=>simp at hz
section
variable (pb tb c:Nat) (E:Int) (toks:List Tok)
def PCon (f:FuncId) (i j h:Nat) (t:ET):Prop:=∀ (w:World) (d:Int),PSt pb tb c E toks w i d->0<=d->d+h<=100->
 Calls Tryz.prog f #[.pointer (some ⟨pb,0,none⟩)] w fun e w'=>∃ cs,e= .returned (.agg ⟨cs⟩)/\KeptP (fun b=>w.heap.size<=b) w' cs t/\PSt pb tb c E toks w' j d/\But w w' pb pb
def tokOk (t:Tok):Prop:=wfI t.n/\(Lit.float .f64 t.f).wf= true/\t.s.size<=maxLen
variable {pb tb c E toks}
theorem z1q {i:Nat} (t:Tok) (ht:toks[i]?= some t) (hk:t.kind= 2) (ho:tokOk t):PCon pb tb c E toks 250 i (i+1) 0 (conE 2 t.n 0 ⟨#[]⟩):=fun w d h _ _=>
 (zc3 t ht hk h).mono fun e w' ⟨he,h1,h2⟩=>⟨_,he,z4J _ _ 2 t.n 0 ⟨#[]⟩ (zr 2 (by decide +kernel)) ho.1 (by decide +kernel) (Nat.zero_le _),h1,h2⟩
theorem z59 {i:Nat} (t:Tok) (ht:toks[i]?= some t) (hk:t.kind= 3) (ho:tokOk t):PCon pb tb c E toks 250 i (i+1) 0 (conE 3 0 t.f ⟨#[]⟩):=fun w d h _ _=>
 (zbK t ht hk h).mono fun e w' ⟨he,h1,h2⟩=>⟨_,he,z4J _ _ 3 0 t.f ⟨#[]⟩ (zr 3 (by decide +kernel)) (zr 0 (by decide +kernel)) ho.2.1 (Nat.zero_le _),h1,h2⟩
theorem z2d {i:Nat} (t:Tok) (ht:toks[i]?= some t) (hk:t.kind= 5) (hp:z7l t.s= true) (ho:tokOk t):PCon pb tb c E toks 250 i (i+1) 0 (varE t.s):=fun w d h _ _=>
 (zaa t ht hk hp h).mono fun e w' ⟨he,h1,h2⟩=>⟨_,he,zcL _ _ t.s ho.2.2,h1,h2⟩
inductive PL (f:FuncId) (signs:List (ByteArray × Int)) (h:Nat) (pb tb c:Nat) (E:Int) (toks:List Tok):ET->Nat->ET->Nat->Prop
 |done (x:ET) (i:Nat):(∀ s∈signs,isB toks i s.1= false)->PL f signs h pb tb c E toks x i x i
 |step (x:ET) (i:Nat) (y:ET) (j:Nat) (z:ET) (k:Nat) (s:ByteArray × Int):s∈signs->isB toks i s.1= true->PCon pb tb c E toks f (i+1) j h y->i < j->PL f signs h pb tb c E toks (twoE s.2 x y) j z k->PL f signs h pb tb c E toks x i z k
theorem z0T {i:Nat} {s s':ByteArray} (h:isB toks i s= true) (hne:(s.toList ==s'.toList)= false):isB toks i s'= false:=by
 unfold isB at*
 cases ht:toks[i]? with
 |none=>rfl
 |some t=>
  rw[ht] at h
  simp only[Bool.and_eq_true,decide_eq_true_eq,beq_iff_eq] at h
  show(decide (t.kind= 6) && (t.s.toList ==s'.toList))= false
  rw[h.2,hne,Bool.and_false]
end
end
section
open Go Go.RowKit
section
variable {P:Program} {ops:Array Oper} {rest:List Oper} {o:Oper} {a:Act} {w:World} {Q:Exit->Act->World->Prop}
theorem z0x (T:TypeId) (x y:Operand) (ho:o.op= .store T x y) (hn:o.dst= none) (hw:Region.wanted o (yielded ops a.tmps)= true) (w0:World) (z:Array Value) (cs:List Value) (hwld:w= w0.alloc (.cells z T)) (hz:z.size= cs.length)
  (hx:a.eval x= .pointer (some ⟨w0.heap.size,0,none⟩)) (hy:a.eval y= .agg cs.toArray) (hi:(P.info? T).map (·.size)= some cs.length) (h1:∀ v∈cs,v.oneCell'= true)
  (h:∀ Z,Whole T Z w0.heap.size cs->Below w0.heap.size w0 Z->w0.heap.size < Z.heap.size->wpList P ops Q rest a Z):wpList P ops Q (o::rest) a w:=by
 subst hwld
 refine zh T x y ho hn hw w0.heap.size z.toList cs (by simpa using Whole.new w0 z.toList T) (by simpa using hz) hx hy hi h1 fun Z hZ hb=>h Z hZ ((ze w0 _).trans (hb.below (by simp) (Nat.le_refl _) (Nat.le_refl _))) hZ.lt
end
section
variable {pb tb c:Nat} {E:Int} {toks:List Tok}
theorem z0B {i j k h:Nat} {x z:ET} (hsub:PCon pb tb c E toks 236 i j h x) (hl:PL 236 [(⟨#[43]⟩,5),(⟨#[45]⟩,6)] h pb tb c E toks x j z k):PCon pb tb c E toks 222 i k h z:=by
 intro w d h h0 hd
 have HSUB:=I hsub
 have HPL:=I hl
 clear hsub hl
 go_enter Tryz.func222,Tryz.ntmps222
 go_upto_region 1 with (fail)
 have HR0:=I (Whole.new w zEc 29)
 have HB0:=I (ze w (.cells zEc.toArray 29))
 have hz:=z0n
 rw[hz]
 clear hz
 have HRW:Hid (w.heap.size <(w.alloc (.cells zEc.toArray 29)).heap.size):=I (by simp)
 generalize w.alloc (.cells zEc.toArray 29)= W at*
 obtain⟨p,hp⟩:∃ p,w.heap.size= p:=⟨_,rfl⟩
 rw[hp] at HR0 HRW
 rw[hp]
 have HP:=I hp
 have HS0:=I (h.keep HB0.out)
 have HPN:Hid (p≠pb/\p≠tb):=I ⟨by have:=h.lt;omega,by have:=h.lt;omega⟩
 have H:=I h
 have HD:=I (And.intro h0 hd)
 clear hp h h0 hd
 go_upto_region 2 with (first
  |(go_at_call 236;refine(HSUB.out W d HS0.out HD.out.1 HD.out.2).mono ?_;rintro e w1 ⟨cs0,rfl,hk,h1,h2⟩;have hl:=hk.len;have HL0:=I hl;have HK0:=I hk;have HS1:=I h1;have HB1:=I h2;clear hl hk h1 h2)
  |((with_reducible refine z0x 29 _ _ rfl rfl ?hwe w1 ?zne cs0 ?hz1 ?hz2 ?hz3 ?hz4 ?hz5 ?hz6 ?_);(case hwe=>exact wantA rfl);(case hz1=>rfl);(case hz2=>rw[HL0.out];rfl);(case hz3=>rfl);(case hz4=>rfl);(case hz5=>rw[HL0.out];kernel_rfl);(case hz6=>exact HK0.out.one);intro W2 hz hb hlt;have HX2:=I hz;have HB2:=I hb;have HLT2:=I hlt;clear hz hb hlt))
 obtain⟨X,hX⟩:∃ X,w1.heap.size= X:=⟨_,rfl⟩
 rw[hX] at HX2 HB2 HLT2
 rw[hX]
 have hXX:=hX
 have HXG:Hid (p < X/\X≠pb/\X≠tb):=I ⟨by have:=HRW.out;have:=HB1.out.size;omega,by have:=HS1.out.lt;omega,by have:=HS1.out.lt;omega⟩
 have hB12:Below w1.heap.size w1 W2:=by rw[hX];exact HB2.out
 have HR2:=I ((HR0.out.keep (HB1.out.block p HRW.out HPN.out.1 HPN.out.1)).keep (hB12.block p (by rw[hX];exact HXG.out.1)))
 have HS2:=I (HS1.out.keep hB12)
 have HK2:Hid (KeptP (fun b=>p < b/\b≠X) W2 cs0 x):=I (HK0.out.to (fun b h1 h2=>⟨⟨by have:=HRW.out;omega,by omega⟩,hB12.block b h2⟩) hB12.size)
 have HBW2:Hid (But w W2 pb pb):=I ((But.of_below HB0.out pb pb).trans (HB1.out.trans (But.of_below hB12 pb pb)))
 clear hX hXX hB12 HB1 HB2 HLT2 HK0 HS1 HS0 HR0
 go_wp2
 go_loopg [] (toks.length - j) (fun q u=>∃ (x:ET) (i:Nat) (cs:List Value),PL 236 [(⟨#[43]⟩,5),(⟨#[45]⟩,6)] h pb tb c E toks x i z k/\q= toks.length - i/\Whole 29 u X cs/\Whole 29 u p zEc/\KeptP (fun b=>p < b/\b≠X) u cs x/\PSt pb tb c E toks u i d/\But w u pb pb)
 case atStart=>exact⟨x,j,cs0,HPL.out,rfl,HX2.out,HR2.out,HK2.out,HS2.out,HBW2.out⟩
 case round=>
  clear HX2 HR2 HK2 HS2 HBW2 HL0 HPL
  obtain⟨x,i,cs,hpl,hq,hx,hr,hk,hs,hb⟩:=hrel
  have HX:=I hx
  have HR:=I hr
  have HK:=I hk
  have HS:=I hs
  have HB:=I hb
  have HGQ:=I hq
  clear hx hr hk hs hb hq
  cases hpl with
  |done _ _ hno=>
   have HNO:=I hno
   clear hno
   go_upto_region 4 with (go_at_call 143;refine(zD HS.out (HNO.out (⟨#[43]⟩,5) (by simp))).mono ?_;rintro e v0 ⟨rfl,h1,h2⟩;have HT0:=I h1;have HTB0:=I h2;clear h1 h2)
   go_upto_region 6 with (go_at_call 143;refine(zD HT0.out (HNO.out (⟨#[45]⟩,6) (by simp))).mono ?_;rintro e v1 ⟨rfl,h1,h2⟩;have HT1:=I h1;have HTB1:=I h2;clear h1 h2)
   have HTB:=I (HTB0.out.trans HTB1.out)
   have HXv:=I (HX.out.keep (HTB.out.block X HX.out.lt HXG.out.2.1 HXG.out.2.1))
   have HRv:=I (HR.out.keep (HTB.out.block p HR.out.lt HPN.out.1 HPN.out.1))
   have HKv:Hid (KeptP (fun b=>p < b/\b≠X) v1 cs z):=I (HK.out.to (fun b h1 h2=>⟨h1,HTB.out.block b h2 (by have:=h1.1;have:=HPN.out;have:=HP.out;have:=H.out.lt;omega) (by have:=h1.1;have:=HPN.out;have:=HP.out;have:=H.out.lt;omega)⟩) HTB.out.size)
   have HBv:=I (HB.out.trans HTB.out)
   clear HX HR HK
   have HX:=HXv
   have HK:=HKv
   have HXR:=I (HX.out.range)
   have HLX:=I (HK.out.len)
   go_wp2_with (first
    |((with_reducible refine zc 29 _ rfl ?hwld X 0 cs _ rfl HXR.out Tryz.underlying29 rfl ?hild ?_);(case hwld=>exact wantA rfl);(case hild=>rw[HLX.out];kernel_rfl))
    |((with_reducible refine zh 29 _ _ rfl rfl ?hwfd p zEc cs HRv.out ?hs1d ?hs2d ?hs3d ?hs4d ?hs5d ?_);(case hwfd=>exact wantA rfl);(case hs1d=>rw[HLX.out];rfl);(case hs2d=>rfl);(case hs3d=>rfl);(case hs4d=>rw[HLX.out];kernel_rfl);(case hs5d=>exact HK.out.one);intro Z hz hb;have HZ:=I hz;have HZB:=I hb;clear hz hb))
   (try simp only[Exit.inBlock,Exit.then])
   refine bodyPost_ret (zO rfl _ _ p cs HLX.out rfl HZ.out) rfl ?_
   have hp:=HP.out
   refine⟨cs,rfl,?_,HT1.out.under p HPN.out.1 HPN.out.2 HZB.out,zM HBv.out HZB.out (by omega)⟩
   exact KeptP.to (q:=fun b=>w.heap.size<=b) HK.out (fun b h1 h2=>⟨by have:=h1.1;show w.heap.size<=b;omega,HZB.out.block b h2 (by have:=h1.1;omega) (by have:=h1.1;omega)⟩) HZB.out.size
  |step _ _ y j z _ sg hmem his hsub hlt hrest=>
   have HSUB2:=I hsub
   have HREST:=I hrest
   have HLT:=I hlt
   have HIS:=I his
   clear hsub hrest hlt his
   simp only[List.mem_cons,List.not_mem_nil,or_false] at hmem
   rcases hmem with rfl|rfl
   ·go_upto_region 3 with (go_at_call 143;refine(z0t HS.out HIS.out).mono ?_;rintro e v0 ⟨rfl,h1,h2⟩;have HT0:=I h1;have HTB0:=I h2;clear h1 h2)
    have HTB:=I HTB0.out
    have HXv:=I (HX.out.keep (HTB.out.block X HX.out.lt HXG.out.2.1 HXG.out.2.1))
    have HRv:=I (HR.out.keep (HTB.out.block p HR.out.lt HPN.out.1 HPN.out.1))
    have HKv:Hid (KeptP (fun b=>p < b/\b≠X) v0 cs x):=I (HK.out.to (fun b h1 h2=>⟨h1,HTB.out.block b h2 (by have:=h1.1;have:=HPN.out;have:=HP.out;have:=H.out.lt;omega) (by have:=h1.1;have:=HPN.out;have:=HP.out;have:=H.out.lt;omega)⟩) HTB.out.size)
    have HBv:=I (HB.out.trans HTB.out)
    have hs:Whole 29 v0.drew X cs:=HXv.out
    refine zy 4 [(0,true),(1,true),(2,false),(3,false)]
     (fun z=>Whole 29 z X cs) (by kernel_rfl) (by kernel_rfl) rfl (by intro c a d v w h;cases d<;>exact h) ?_
    refine z8 (some 8) (.agg ⟨cs⟩) _ rfl rfl (by exact wantA rfl) hs (fun z hz=>zw 29 rfl X 0 cs _ rfl hz.range Tryz.underlying29 rfl (by rw[HK.out.len];kernel_rfl)) ?_
    go_frame
    refine zk (some 9) (.pointer (some ⟨pb,0,none⟩)) _ _ rfl rfl rfl (by exact wantA rfl) hs rfl ?_
    go_frame
    refine zx (some 10) 236 Tryz.func236 (by kernel_rfl) (by kernel_rfl) [.pointer (some ⟨pb,0,none⟩)] _ _ _ rfl rfl rfl (by exact wantA rfl) rfl ?_
    refine(HSUB2.out v0.drew d (HT0.out.keep (Below.refl _ v0).drew) HD.out.1 HD.out.2).mono ?_
    rintro e w5 ⟨cb,rfl,hkb,h1,h2⟩
    have hlb:=hkb.len
    have hb5:But v0 w5 pb pb:=(But.of_below (Below.refl _ v0).drew pb pb).trans h2
    have hs5:Whole 29 w5 X cs:=HXv.out.keep (hb5.block X HXv.out.lt HXG.out.2.1 HXG.out.2.1)
    refine⟨_,rfl,hs5,?_⟩
    go_frame
    have hka:KeptP (fun b=>p < b/\b≠X) w5 cs x:=HKv.out.to (fun b h1 h2=>⟨h1,hb5.block b h2 (by have:=h1.1;have:=HPN.out;have:=HP.out;have:=H.out.lt;omega) (by have:=h1.1;have:=HPN.out;have:=HP.out;have:=H.out.lt;omega)⟩) hb5.size
    have hkb2:KeptP (fun b=>p < b/\b≠X) w5 cb y:=hkb.to (fun b h1 h2=>⟨⟨by have h3:v0.heap.size<=b:=h1;have:=HRv.out.lt;omega,by have h3:v0.heap.size<=b:=h1;have:=HXv.out.lt;omega⟩,rfl⟩) (Nat.le_refl _)
    refine zx (some 11) 182 Tryz.func182 (by kernel_rfl) (by kernel_rfl) [.int .i64 5,.agg ⟨cs⟩,.agg ⟨cb⟩] _ _ _ rfl rfl rfl (by exact wantA rfl) rfl ?_
    refine(z14 5 cs cb hka.len hlb hka.one hkb2.one w5).mono ?_
    rintro e w6 ⟨g,rfl,hg,hwg,hb6⟩
    have hs6:Whole 29 w6 X cs:=hs5.keep (hb6.block X hs5.lt)
    refine⟨_,rfl,hs6,?_⟩
    go_frame
    refine z06 ?_
    simp only[List.drop_succ_cons,List.drop_zero]
    have hpg:p < g/\g≠X:=⟨by have:=HRv.out.lt;have:=hb5.size;omega,by have:=hs5.lt;omega⟩
    have hkt:KeptP (fun b=>p < b/\b≠X) w6 (twoC 5 g) (twoE 5 x y):=z0M (zr 5 (by decide +kernel)) hwg hpg (hka.to (fun b h1 h2=>⟨h1,hb6.block b h2⟩) hb6.size) (hkb2.to (fun b h1 h2=>⟨h1,hb6.block b h2⟩) hb6.size)
    have HKT:=I hkt
    have HX6:=I hs6
    have HR6:=I ((HRv.out.keep (hb5.block p HRv.out.lt HPN.out.1 HPN.out.1)).keep (hb6.block p (by have:=HRv.out.lt;have:=hb5.size;omega)))
    have HS6:=I (h1.keep hb6)
    have HB6:=I (HBv.out.trans (hb5.trans (But.of_below hb6 pb pb)))
    have HLX:=I hka.len
    clear hs hs5 hs6 hb5 hka hkb hkb2 hlb hwg hb6 hkt hg hpg h1 h2
    go_wp2_with ((with_reducible refine zh 29 _ _ rfl rfl ?hwf0s X cs (twoC 5 g) HX6.out ?hs10s ?hs20s ?hs30s ?hs40s ?hs50s ?_);(case hwf0s=>exact wantA rfl);(case hs10s=>rw[HLX.out];rfl);(case hs20s=>rfl);(case hs30s=>rfl);(case hs40s=>rw[HKT.out.len];kernel_rfl);(case hs50s=>exact HKT.out.one);intro Z hz hb;have HZ:=I hz;have HZB:=I hb;clear hz hb)
    go_roundg (toks.length - j)
    case measure=>have:=HLT.out;have h2:=z1n HIS.out;have:=HGQ.out;omega
    case rel=>
     refine⟨_,j,_,HREST.out,rfl,HZ.out,HR6.out.keep (HZB.out.block p HR6.out.lt (by have:=HXG.out.1;omega) (by have:=HXG.out.1;omega)),HKT.out.to (fun b h1 h2=>⟨h1,HZB.out.block b h2 h1.2 h1.2⟩) HZB.out.size,HS6.out.under X HXG.out.2.1 HXG.out.2.2 HZB.out,zM HB6.out HZB.out (by have:=HXG.out.1;have:=HP.out;omega)⟩
   ·have hno0:isB toks i ⟨#[43]⟩= false:=z0T HIS.out (by decide +kernel)
    have HNO0:=I hno0
    clear hno0
    go_upto_region 4 with (go_at_call 143;refine(zD HS.out HNO0.out).mono ?_;rintro e v0 ⟨rfl,h1,h2⟩;have HT0:=I h1;have HTB0:=I h2;clear h1 h2)
    go_upto_region 5 with (go_at_call 143;refine(z0t HT0.out HIS.out).mono ?_;rintro e v1 ⟨rfl,h1,h2⟩;have HT1:=I h1;have HTB1:=I h2;clear h1 h2)
    have HTB:=I (HTB0.out.trans HTB1.out)
    have HXv:=I (HX.out.keep (HTB.out.block X HX.out.lt HXG.out.2.1 HXG.out.2.1))
    have HRv:=I (HR.out.keep (HTB.out.block p HR.out.lt HPN.out.1 HPN.out.1))
    have HKv:Hid (KeptP (fun b=>p < b/\b≠X) v1 cs x):=I (HK.out.to (fun b h1 h2=>⟨h1,HTB.out.block b h2 (by have:=h1.1;have:=HPN.out;have:=HP.out;have:=H.out.lt;omega) (by have:=h1.1;have:=HPN.out;have:=HP.out;have:=H.out.lt;omega)⟩) HTB.out.size)
    have HBv:=I (HB.out.trans HTB.out)
    have hs:Whole 29 v1.drew X cs:=HXv.out
    refine zy 4 [(0,true),(1,true),(2,false),(3,false)]
     (fun z=>Whole 29 z X cs) (by kernel_rfl) (by kernel_rfl) rfl (by intro c a d v w h;cases d<;>exact h) ?_
    refine z8 (some 14) (.agg ⟨cs⟩) _ rfl rfl (by exact wantA rfl) hs (fun z hz=>zw 29 rfl X 0 cs _ rfl hz.range Tryz.underlying29 rfl (by rw[HK.out.len];kernel_rfl)) ?_
    go_frame
    refine zk (some 15) (.pointer (some ⟨pb,0,none⟩)) _ _ rfl rfl rfl (by exact wantA rfl) hs rfl ?_
    go_frame
    refine zx (some 16) 236 Tryz.func236 (by kernel_rfl) (by kernel_rfl) [.pointer (some ⟨pb,0,none⟩)] _ _ _ rfl rfl rfl (by exact wantA rfl) rfl ?_
    refine(HSUB2.out v1.drew d (HT1.out.keep (Below.refl _ v1).drew) HD.out.1 HD.out.2).mono ?_
    rintro e w5 ⟨cb,rfl,hkb,h1,h2⟩
    have hlb:=hkb.len
    have hb5:But v1 w5 pb pb:=(But.of_below (Below.refl _ v1).drew pb pb).trans h2
    have hs5:Whole 29 w5 X cs:=HXv.out.keep (hb5.block X HXv.out.lt HXG.out.2.1 HXG.out.2.1)
    refine⟨_,rfl,hs5,?_⟩
    go_frame
    have hka:KeptP (fun b=>p < b/\b≠X) w5 cs x:=HKv.out.to (fun b h1 h2=>⟨h1,hb5.block b h2 (by have:=h1.1;have:=HPN.out;have:=HP.out;have:=H.out.lt;omega) (by have:=h1.1;have:=HPN.out;have:=HP.out;have:=H.out.lt;omega)⟩) hb5.size
    have hkb2:KeptP (fun b=>p < b/\b≠X) w5 cb y:=hkb.to (fun b h1 h2=>⟨⟨by have h3:v1.heap.size<=b:=h1;have:=HRv.out.lt;omega,by have h3:v1.heap.size<=b:=h1;have:=HXv.out.lt;omega⟩,rfl⟩) (Nat.le_refl _)
    refine zx (some 17) 182 Tryz.func182 (by kernel_rfl) (by kernel_rfl) [.int .i64 6,.agg ⟨cs⟩,.agg ⟨cb⟩] _ _ _ rfl rfl rfl (by exact wantA rfl) rfl ?_
    refine(z14 6 cs cb hka.len hlb hka.one hkb2.one w5).mono ?_
    rintro e w6 ⟨g,rfl,hg,hwg,hb6⟩
    have hs6:Whole 29 w6 X cs:=hs5.keep (hb6.block X hs5.lt)
    refine⟨_,rfl,hs6,?_⟩
    go_frame
    refine z06 ?_
    simp only[List.drop_succ_cons,List.drop_zero]
    have hpg:p < g/\g≠X:=⟨by have:=HRv.out.lt;have:=hb5.size;omega,by have:=hs5.lt;omega⟩
    have hkt:KeptP (fun b=>p < b/\b≠X) w6 (twoC 6 g) (twoE 6 x y):=z0M (zr 6 (by decide +kernel)) hwg hpg (hka.to (fun b h1 h2=>⟨h1,hb6.block b h2⟩) hb6.size) (hkb2.to (fun b h1 h2=>⟨h1,hb6.block b h2⟩) hb6.size)
    have HKT:=I hkt
    have HX6:=I hs6
    have HR6:=I ((HRv.out.keep (hb5.block p HRv.out.lt HPN.out.1 HPN.out.1)).keep (hb6.block p (by have:=HRv.out.lt;have:=hb5.size;omega)))
    have HS6:=I (h1.keep hb6)
    have HB6:=I (HBv.out.trans (hb5.trans (But.of_below hb6 pb pb)))
    have HLX:=I hka.len
    clear hs hs5 hs6 hb5 hka hkb hkb2 hlb hwg hb6 hkt hg hpg h1 h2
    go_wp2_with ((with_reducible refine zh 29 _ _ rfl rfl ?hwf1s X cs (twoC 6 g) HX6.out ?hs11s ?hs21s ?hs31s ?hs41s ?hs51s ?_);(case hwf1s=>exact wantA rfl);(case hs11s=>rw[HLX.out];rfl);(case hs21s=>rfl);(case hs31s=>rfl);(case hs41s=>rw[HKT.out.len];kernel_rfl);(case hs51s=>exact HKT.out.one);intro Z hz hb;have HZ:=I hz;have HZB:=I hb;clear hz hb)
    go_roundg (toks.length - j)
    case measure=>have:=HLT.out;have h2:=z1n HIS.out;have:=HGQ.out;omega
    case rel=>
     refine⟨_,j,_,HREST.out,rfl,HZ.out,HR6.out.keep (HZB.out.block p HR6.out.lt (by have:=HXG.out.1;omega) (by have:=HXG.out.1;omega)),HKT.out.to (fun b h1 h2=>⟨h1,HZB.out.block b h2 h1.2 h1.2⟩) HZB.out.size,HS6.out.under X HXG.out.2.1 HXG.out.2.2 HZB.out,zM HB6.out HZB.out (by have:=HXG.out.1;have:=HP.out;omega)⟩
theorem z0k {i j k h:Nat} {x z:ET} (hsub:PCon pb tb c E toks 245 i j h x) (hl:PL 245 [(⟨#[42]⟩,7),(⟨#[47]⟩,8),(⟨#[37]⟩,9)] h pb tb c E toks x j z k):PCon pb tb c E toks 236 i k h z:=by
 intro w d h h0 hd
 have HSUB:=I hsub
 have HPL:=I hl
 clear hsub hl
 go_enter Tryz.func236,Tryz.ntmps236
 go_upto_region 1 with (fail)
 have HR0:=I (Whole.new w zEc 29)
 have HB0:=I (ze w (.cells zEc.toArray 29))
 have hz:=z0n
 rw[hz]
 clear hz
 have HRW:Hid (w.heap.size <(w.alloc (.cells zEc.toArray 29)).heap.size):=I (by simp)
 generalize w.alloc (.cells zEc.toArray 29)= W at*
 obtain⟨p,hp⟩:∃ p,w.heap.size= p:=⟨_,rfl⟩
 rw[hp] at HR0 HRW
 rw[hp]
 have HP:=I hp
 have HS0:=I (h.keep HB0.out)
 have HPN:Hid (p≠pb/\p≠tb):=I ⟨by have:=h.lt;omega,by have:=h.lt;omega⟩
 have H:=I h
 have HD:=I (And.intro h0 hd)
 clear hp h h0 hd
 go_upto_region 2 with (first
  |(go_at_call 245;refine(HSUB.out W d HS0.out HD.out.1 HD.out.2).mono ?_;rintro e w1 ⟨cs0,rfl,hk,h1,h2⟩;have hl:=hk.len;have HL0:=I hl;have HK0:=I hk;have HS1:=I h1;have HB1:=I h2;clear hl hk h1 h2)
  |((with_reducible refine z0x 29 _ _ rfl rfl ?hwe w1 ?zne cs0 ?hz1 ?hz2 ?hz3 ?hz4 ?hz5 ?hz6 ?_);(case hwe=>exact wantA rfl);(case hz1=>rfl);(case hz2=>rw[HL0.out];rfl);(case hz3=>rfl);(case hz4=>rfl);(case hz5=>rw[HL0.out];kernel_rfl);(case hz6=>exact HK0.out.one);intro W2 hz hb hlt;have HX2:=I hz;have HB2:=I hb;have HLT2:=I hlt;clear hz hb hlt))
 obtain⟨X,hX⟩:∃ X,w1.heap.size= X:=⟨_,rfl⟩
 rw[hX] at HX2 HB2 HLT2
 rw[hX]
 have hXX:=hX
 have HXG:Hid (p < X/\X≠pb/\X≠tb):=I ⟨by have:=HRW.out;have:=HB1.out.size;omega,by have:=HS1.out.lt;omega,by have:=HS1.out.lt;omega⟩
 have hB12:Below w1.heap.size w1 W2:=by rw[hX];exact HB2.out
 have HR2:=I ((HR0.out.keep (HB1.out.block p HRW.out HPN.out.1 HPN.out.1)).keep (hB12.block p (by rw[hX];exact HXG.out.1)))
 have HS2:=I (HS1.out.keep hB12)
 have HK2:Hid (KeptP (fun b=>p < b/\b≠X) W2 cs0 x):=I (HK0.out.to (fun b h1 h2=>⟨⟨by have:=HRW.out;omega,by omega⟩,hB12.block b h2⟩) hB12.size)
 have HBW2:Hid (But w W2 pb pb):=I ((But.of_below HB0.out pb pb).trans (HB1.out.trans (But.of_below hB12 pb pb)))
 clear hX hXX hB12 HB1 HB2 HLT2 HK0 HS1 HS0 HR0
 go_wp2
 go_loopg [] (toks.length - j) (fun q u=>∃ (x:ET) (i:Nat) (cs:List Value),PL 245 [(⟨#[42]⟩,7),(⟨#[47]⟩,8),(⟨#[37]⟩,9)] h pb tb c E toks x i z k/\q= toks.length - i/\Whole 29 u X cs/\Whole 29 u p zEc/\KeptP (fun b=>p < b/\b≠X) u cs x/\PSt pb tb c E toks u i d/\But w u pb pb)
 case atStart=>exact⟨x,j,cs0,HPL.out,rfl,HX2.out,HR2.out,HK2.out,HS2.out,HBW2.out⟩
 case round=>
  clear HX2 HR2 HK2 HS2 HBW2 HL0 HPL
  obtain⟨x,i,cs,hpl,hq,hx,hr,hk,hs,hb⟩:=hrel
  have HX:=I hx
  have HR:=I hr
  have HK:=I hk
  have HS:=I hs
  have HB:=I hb
  have HGQ:=I hq
  clear hx hr hk hs hb hq
  cases hpl with
  |done _ _ hno=>
   have HNO:=I hno
   clear hno
   go_upto_region 4 with (go_at_call 143;refine(zD HS.out (HNO.out (⟨#[42]⟩,7) (by simp))).mono ?_;rintro e v0 ⟨rfl,h1,h2⟩;have HT0:=I h1;have HTB0:=I h2;clear h1 h2)
   go_upto_region 6 with (go_at_call 143;refine(zD HT0.out (HNO.out (⟨#[47]⟩,8) (by simp))).mono ?_;rintro e v1 ⟨rfl,h1,h2⟩;have HT1:=I h1;have HTB1:=I h2;clear h1 h2)
   go_upto_region 8 with (go_at_call 143;refine(zD HT1.out (HNO.out (⟨#[37]⟩,9) (by simp))).mono ?_;rintro e v2 ⟨rfl,h1,h2⟩;have HT2:=I h1;have HTB2:=I h2;clear h1 h2)
   have HTB:=I (HTB0.out.trans (HTB1.out.trans HTB2.out))
   have HXv:=I (HX.out.keep (HTB.out.block X HX.out.lt HXG.out.2.1 HXG.out.2.1))
   have HRv:=I (HR.out.keep (HTB.out.block p HR.out.lt HPN.out.1 HPN.out.1))
   have HKv:Hid (KeptP (fun b=>p < b/\b≠X) v2 cs z):=I (HK.out.to (fun b h1 h2=>⟨h1,HTB.out.block b h2 (by have:=h1.1;have:=HPN.out;have:=HP.out;have:=H.out.lt;omega) (by have:=h1.1;have:=HPN.out;have:=HP.out;have:=H.out.lt;omega)⟩) HTB.out.size)
   have HBv:=I (HB.out.trans HTB.out)
   clear HX HR HK
   have HX:=HXv
   have HK:=HKv
   have HXR:=I (HX.out.range)
   have HLX:=I (HK.out.len)
   go_wp2_with (first
    |((with_reducible refine zc 29 _ rfl ?hwld X 0 cs _ rfl HXR.out Tryz.underlying29 rfl ?hild ?_);(case hwld=>exact wantA rfl);(case hild=>rw[HLX.out];kernel_rfl))
    |((with_reducible refine zh 29 _ _ rfl rfl ?hwfd p zEc cs HRv.out ?hs1d ?hs2d ?hs3d ?hs4d ?hs5d ?_);(case hwfd=>exact wantA rfl);(case hs1d=>rw[HLX.out];rfl);(case hs2d=>rfl);(case hs3d=>rfl);(case hs4d=>rw[HLX.out];kernel_rfl);(case hs5d=>exact HK.out.one);intro Z hz hb;have HZ:=I hz;have HZB:=I hb;clear hz hb))
   (try simp only[Exit.inBlock,Exit.then])
   refine bodyPost_ret (zO rfl _ _ p cs HLX.out rfl HZ.out) rfl ?_
   have hp:=HP.out
   refine⟨cs,rfl,?_,HT2.out.under p HPN.out.1 HPN.out.2 HZB.out,zM HBv.out HZB.out (by omega)⟩
   exact KeptP.to (q:=fun b=>w.heap.size<=b) HK.out (fun b h1 h2=>⟨by have:=h1.1;show w.heap.size<=b;omega,HZB.out.block b h2 (by have:=h1.1;omega) (by have:=h1.1;omega)⟩) HZB.out.size
  |step _ _ y j z _ sg hmem his hsub hlt hrest=>
   have HSUB2:=I hsub
   have HREST:=I hrest
   have HLT:=I hlt
   have HIS:=I his
   clear hsub hrest hlt his
   simp only[List.mem_cons,List.not_mem_nil,or_false] at hmem
   rcases hmem with rfl|rfl|rfl
   ·go_upto_region 3 with (go_at_call 143;refine(z0t HS.out HIS.out).mono ?_;rintro e v0 ⟨rfl,h1,h2⟩;have HT0:=I h1;have HTB0:=I h2;clear h1 h2)
    have HTB:=I HTB0.out
    have HXv:=I (HX.out.keep (HTB.out.block X HX.out.lt HXG.out.2.1 HXG.out.2.1))
    have HRv:=I (HR.out.keep (HTB.out.block p HR.out.lt HPN.out.1 HPN.out.1))
    have HKv:Hid (KeptP (fun b=>p < b/\b≠X) v0 cs x):=I (HK.out.to (fun b h1 h2=>⟨h1,HTB.out.block b h2 (by have:=h1.1;have:=HPN.out;have:=HP.out;have:=H.out.lt;omega) (by have:=h1.1;have:=HPN.out;have:=HP.out;have:=H.out.lt;omega)⟩) HTB.out.size)
    have HBv:=I (HB.out.trans HTB.out)
    have hs:Whole 29 v0.drew X cs:=HXv.out
    refine zy 4 [(0,true),(1,true),(2,false),(3,false)]
     (fun z=>Whole 29 z X cs) (by kernel_rfl) (by kernel_rfl) rfl (by intro c a d v w h;cases d<;>exact h) ?_
    refine z8 (some 8) (.agg ⟨cs⟩) _ rfl rfl (by exact wantA rfl) hs (fun z hz=>zw 29 rfl X 0 cs _ rfl hz.range Tryz.underlying29 rfl (by rw[HK.out.len];kernel_rfl)) ?_
    go_frame
    refine zk (some 9) (.pointer (some ⟨pb,0,none⟩)) _ _ rfl rfl rfl (by exact wantA rfl) hs rfl ?_
    go_frame
    refine zx (some 10) 245 Tryz.func245 (by kernel_rfl) (by kernel_rfl) [.pointer (some ⟨pb,0,none⟩)] _ _ _ rfl rfl rfl (by exact wantA rfl) rfl ?_
    refine(HSUB2.out v0.drew d (HT0.out.keep (Below.refl _ v0).drew) HD.out.1 HD.out.2).mono ?_
    rintro e w5 ⟨cb,rfl,hkb,h1,h2⟩
    have hlb:=hkb.len
    have hb5:But v0 w5 pb pb:=(But.of_below (Below.refl _ v0).drew pb pb).trans h2
    have hs5:Whole 29 w5 X cs:=HXv.out.keep (hb5.block X HXv.out.lt HXG.out.2.1 HXG.out.2.1)
    refine⟨_,rfl,hs5,?_⟩
    go_frame
    have hka:KeptP (fun b=>p < b/\b≠X) w5 cs x:=HKv.out.to (fun b h1 h2=>⟨h1,hb5.block b h2 (by have:=h1.1;have:=HPN.out;have:=HP.out;have:=H.out.lt;omega) (by have:=h1.1;have:=HPN.out;have:=HP.out;have:=H.out.lt;omega)⟩) hb5.size
    have hkb2:KeptP (fun b=>p < b/\b≠X) w5 cb y:=hkb.to (fun b h1 h2=>⟨⟨by have h3:v0.heap.size<=b:=h1;have:=HRv.out.lt;omega,by have h3:v0.heap.size<=b:=h1;have:=HXv.out.lt;omega⟩,rfl⟩) (Nat.le_refl _)
    refine zx (some 11) 182 Tryz.func182 (by kernel_rfl) (by kernel_rfl) [.int .i64 7,.agg ⟨cs⟩,.agg ⟨cb⟩] _ _ _ rfl rfl rfl (by exact wantA rfl) rfl ?_
    refine(z14 7 cs cb hka.len hlb hka.one hkb2.one w5).mono ?_
    rintro e w6 ⟨g,rfl,hg,hwg,hb6⟩
    have hs6:Whole 29 w6 X cs:=hs5.keep (hb6.block X hs5.lt)
    refine⟨_,rfl,hs6,?_⟩
    go_frame
    refine z06 ?_
    simp only[List.drop_succ_cons,List.drop_zero]
    have hpg:p < g/\g≠X:=⟨by have:=HRv.out.lt;have:=hb5.size;omega,by have:=hs5.lt;omega⟩
    have hkt:KeptP (fun b=>p < b/\b≠X) w6 (twoC 7 g) (twoE 7 x y):=z0M (zr 7 (by decide +kernel)) hwg hpg (hka.to (fun b h1 h2=>⟨h1,hb6.block b h2⟩) hb6.size) (hkb2.to (fun b h1 h2=>⟨h1,hb6.block b h2⟩) hb6.size)
    have HKT:=I hkt
    have HX6:=I hs6
    have HR6:=I ((HRv.out.keep (hb5.block p HRv.out.lt HPN.out.1 HPN.out.1)).keep (hb6.block p (by have:=HRv.out.lt;have:=hb5.size;omega)))
    have HS6:=I (h1.keep hb6)
    have HB6:=I (HBv.out.trans (hb5.trans (But.of_below hb6 pb pb)))
    have HLX:=I hka.len
    clear hs hs5 hs6 hb5 hka hkb hkb2 hlb hwg hb6 hkt hg hpg h1 h2
    go_wp2_with ((with_reducible refine zh 29 _ _ rfl rfl ?hwf0s X cs (twoC 7 g) HX6.out ?hs10s ?hs20s ?hs30s ?hs40s ?hs50s ?_);(case hwf0s=>exact wantA rfl);(case hs10s=>rw[HLX.out];rfl);(case hs20s=>rfl);(case hs30s=>rfl);(case hs40s=>rw[HKT.out.len];kernel_rfl);(case hs50s=>exact HKT.out.one);intro Z hz hb;have HZ:=I hz;have HZB:=I hb;clear hz hb)
    go_roundg (toks.length - j)
    case measure=>have:=HLT.out;have h2:=z1n HIS.out;have:=HGQ.out;omega
    case rel=>
     refine⟨_,j,_,HREST.out,rfl,HZ.out,HR6.out.keep (HZB.out.block p HR6.out.lt (by have:=HXG.out.1;omega) (by have:=HXG.out.1;omega)),HKT.out.to (fun b h1 h2=>⟨h1,HZB.out.block b h2 h1.2 h1.2⟩) HZB.out.size,HS6.out.under X HXG.out.2.1 HXG.out.2.2 HZB.out,zM HB6.out HZB.out (by have:=HXG.out.1;have:=HP.out;omega)⟩
   ·have hno0:isB toks i ⟨#[42]⟩= false:=z0T HIS.out (by decide +kernel)
    have HNO0:=I hno0
    clear hno0
    go_upto_region 4 with (go_at_call 143;refine(zD HS.out HNO0.out).mono ?_;rintro e v0 ⟨rfl,h1,h2⟩;have HT0:=I h1;have HTB0:=I h2;clear h1 h2)
    go_upto_region 5 with (go_at_call 143;refine(z0t HT0.out HIS.out).mono ?_;rintro e v1 ⟨rfl,h1,h2⟩;have HT1:=I h1;have HTB1:=I h2;clear h1 h2)
    have HTB:=I (HTB0.out.trans HTB1.out)
    have HXv:=I (HX.out.keep (HTB.out.block X HX.out.lt HXG.out.2.1 HXG.out.2.1))
    have HRv:=I (HR.out.keep (HTB.out.block p HR.out.lt HPN.out.1 HPN.out.1))
    have HKv:Hid (KeptP (fun b=>p < b/\b≠X) v1 cs x):=I (HK.out.to (fun b h1 h2=>⟨h1,HTB.out.block b h2 (by have:=h1.1;have:=HPN.out;have:=HP.out;have:=H.out.lt;omega) (by have:=h1.1;have:=HPN.out;have:=HP.out;have:=H.out.lt;omega)⟩) HTB.out.size)
    have HBv:=I (HB.out.trans HTB.out)
    have hs:Whole 29 v1.drew X cs:=HXv.out
    refine zy 4 [(0,true),(1,true),(2,false),(3,false)]
     (fun z=>Whole 29 z X cs) (by kernel_rfl) (by kernel_rfl) rfl (by intro c a d v w h;cases d<;>exact h) ?_
    refine z8 (some 14) (.agg ⟨cs⟩) _ rfl rfl (by exact wantA rfl) hs (fun z hz=>zw 29 rfl X 0 cs _ rfl hz.range Tryz.underlying29 rfl (by rw[HK.out.len];kernel_rfl)) ?_
    go_frame
    refine zk (some 15) (.pointer (some ⟨pb,0,none⟩)) _ _ rfl rfl rfl (by exact wantA rfl) hs rfl ?_
    go_frame
    refine zx (some 16) 245 Tryz.func245 (by kernel_rfl) (by kernel_rfl) [.pointer (some ⟨pb,0,none⟩)] _ _ _ rfl rfl rfl (by exact wantA rfl) rfl ?_
    refine(HSUB2.out v1.drew d (HT1.out.keep (Below.refl _ v1).drew) HD.out.1 HD.out.2).mono ?_
    rintro e w5 ⟨cb,rfl,hkb,h1,h2⟩
    have hlb:=hkb.len
    have hb5:But v1 w5 pb pb:=(But.of_below (Below.refl _ v1).drew pb pb).trans h2
    have hs5:Whole 29 w5 X cs:=HXv.out.keep (hb5.block X HXv.out.lt HXG.out.2.1 HXG.out.2.1)
    refine⟨_,rfl,hs5,?_⟩
    go_frame
    have hka:KeptP (fun b=>p < b/\b≠X) w5 cs x:=HKv.out.to (fun b h1 h2=>⟨h1,hb5.block b h2 (by have:=h1.1;have:=HPN.out;have:=HP.out;have:=H.out.lt;omega) (by have:=h1.1;have:=HPN.out;have:=HP.out;have:=H.out.lt;omega)⟩) hb5.size
    have hkb2:KeptP (fun b=>p < b/\b≠X) w5 cb y:=hkb.to (fun b h1 h2=>⟨⟨by have h3:v1.heap.size<=b:=h1;have:=HRv.out.lt;omega,by have h3:v1.heap.size<=b:=h1;have:=HXv.out.lt;omega⟩,rfl⟩) (Nat.le_refl _)
    refine zx (some 17) 182 Tryz.func182 (by kernel_rfl) (by kernel_rfl) [.int .i64 8,.agg ⟨cs⟩,.agg ⟨cb⟩] _ _ _ rfl rfl rfl (by exact wantA rfl) rfl ?_
    refine(z14 8 cs cb hka.len hlb hka.one hkb2.one w5).mono ?_
    rintro e w6 ⟨g,rfl,hg,hwg,hb6⟩
    have hs6:Whole 29 w6 X cs:=hs5.keep (hb6.block X hs5.lt)
    refine⟨_,rfl,hs6,?_⟩
    go_frame
    refine z06 ?_
    simp only[List.drop_succ_cons,List.drop_zero]
    have hpg:p < g/\g≠X:=⟨by have:=HRv.out.lt;have:=hb5.size;omega,by have:=hs5.lt;omega⟩
    have hkt:KeptP (fun b=>p < b/\b≠X) w6 (twoC 8 g) (twoE 8 x y):=z0M (zr 8 (by decide +kernel)) hwg hpg (hka.to (fun b h1 h2=>⟨h1,hb6.block b h2⟩) hb6.size) (hkb2.to (fun b h1 h2=>⟨h1,hb6.block b h2⟩) hb6.size)
    have HKT:=I hkt
    have HX6:=I hs6
    have HR6:=I ((HRv.out.keep (hb5.block p HRv.out.lt HPN.out.1 HPN.out.1)).keep (hb6.block p (by have:=HRv.out.lt;have:=hb5.size;omega)))
    have HS6:=I (h1.keep hb6)
    have HB6:=I (HBv.out.trans (hb5.trans (But.of_below hb6 pb pb)))
    have HLX:=I hka.len
    clear hs hs5 hs6 hb5 hka hkb hkb2 hlb hwg hb6 hkt hg hpg h1 h2
    go_wp2_with ((with_reducible refine zh 29 _ _ rfl rfl ?hwf1s X cs (twoC 8 g) HX6.out ?hs11s ?hs21s ?hs31s ?hs41s ?hs51s ?_);(case hwf1s=>exact wantA rfl);(case hs11s=>rw[HLX.out];rfl);(case hs21s=>rfl);(case hs31s=>rfl);(case hs41s=>rw[HKT.out.len];kernel_rfl);(case hs51s=>exact HKT.out.one);intro Z hz hb;have HZ:=I hz;have HZB:=I hb;clear hz hb)
    go_roundg (toks.length - j)
    case measure=>have:=HLT.out;have h2:=z1n HIS.out;have:=HGQ.out;omega
    case rel=>
     refine⟨_,j,_,HREST.out,rfl,HZ.out,HR6.out.keep (HZB.out.block p HR6.out.lt (by have:=HXG.out.1;omega) (by have:=HXG.out.1;omega)),HKT.out.to (fun b h1 h2=>⟨h1,HZB.out.block b h2 h1.2 h1.2⟩) HZB.out.size,HS6.out.under X HXG.out.2.1 HXG.out.2.2 HZB.out,zM HB6.out HZB.out (by have:=HXG.out.1;have:=HP.out;omega)⟩
   ·have hno0:isB toks i ⟨#[42]⟩= false:=z0T HIS.out (by decide +kernel)
    have HNO0:=I hno0
    clear hno0
    go_upto_region 4 with (go_at_call 143;refine(zD HS.out HNO0.out).mono ?_;rintro e v0 ⟨rfl,h1,h2⟩;have HT0:=I h1;have HTB0:=I h2;clear h1 h2)
    have hno1:isB toks i ⟨#[47]⟩= false:=z0T HIS.out (by decide +kernel)
    have HNO1:=I hno1
    clear hno1
    go_upto_region 6 with (go_at_call 143;refine(zD HT0.out HNO1.out).mono ?_;rintro e v1 ⟨rfl,h1,h2⟩;have HT1:=I h1;have HTB1:=I h2;clear h1 h2)
    go_upto_region 7 with (go_at_call 143;refine(z0t HT1.out HIS.out).mono ?_;rintro e v2 ⟨rfl,h1,h2⟩;have HT2:=I h1;have HTB2:=I h2;clear h1 h2)
    have HTB:=I (HTB0.out.trans (HTB1.out.trans HTB2.out))
    have HXv:=I (HX.out.keep (HTB.out.block X HX.out.lt HXG.out.2.1 HXG.out.2.1))
    have HRv:=I (HR.out.keep (HTB.out.block p HR.out.lt HPN.out.1 HPN.out.1))
    have HKv:Hid (KeptP (fun b=>p < b/\b≠X) v2 cs x):=I (HK.out.to (fun b h1 h2=>⟨h1,HTB.out.block b h2 (by have:=h1.1;have:=HPN.out;have:=HP.out;have:=H.out.lt;omega) (by have:=h1.1;have:=HPN.out;have:=HP.out;have:=H.out.lt;omega)⟩) HTB.out.size)
    have HBv:=I (HB.out.trans HTB.out)
    have hs:Whole 29 v2.drew X cs:=HXv.out
    refine zy 4 [(0,true),(1,true),(2,false),(3,false)]
     (fun z=>Whole 29 z X cs) (by kernel_rfl) (by kernel_rfl) rfl (by intro c a d v w h;cases d<;>exact h) ?_
    refine z8 (some 20) (.agg ⟨cs⟩) _ rfl rfl (by exact wantA rfl) hs (fun z hz=>zw 29 rfl X 0 cs _ rfl hz.range Tryz.underlying29 rfl (by rw[HK.out.len];kernel_rfl)) ?_
    go_frame
    refine zk (some 21) (.pointer (some ⟨pb,0,none⟩)) _ _ rfl rfl rfl (by exact wantA rfl) hs rfl ?_
    go_frame
    refine zx (some 22) 245 Tryz.func245 (by kernel_rfl) (by kernel_rfl) [.pointer (some ⟨pb,0,none⟩)] _ _ _ rfl rfl rfl (by exact wantA rfl) rfl ?_
    refine(HSUB2.out v2.drew d (HT2.out.keep (Below.refl _ v2).drew) HD.out.1 HD.out.2).mono ?_
    rintro e w5 ⟨cb,rfl,hkb,h1,h2⟩
    have hlb:=hkb.len
    have hb5:But v2 w5 pb pb:=(But.of_below (Below.refl _ v2).drew pb pb).trans h2
    have hs5:Whole 29 w5 X cs:=HXv.out.keep (hb5.block X HXv.out.lt HXG.out.2.1 HXG.out.2.1)
    refine⟨_,rfl,hs5,?_⟩
    go_frame
    have hka:KeptP (fun b=>p < b/\b≠X) w5 cs x:=HKv.out.to (fun b h1 h2=>⟨h1,hb5.block b h2 (by have:=h1.1;have:=HPN.out;have:=HP.out;have:=H.out.lt;omega) (by have:=h1.1;have:=HPN.out;have:=HP.out;have:=H.out.lt;omega)⟩) hb5.size
    have hkb2:KeptP (fun b=>p < b/\b≠X) w5 cb y:=hkb.to (fun b h1 h2=>⟨⟨by have h3:v2.heap.size<=b:=h1;have:=HRv.out.lt;omega,by have h3:v2.heap.size<=b:=h1;have:=HXv.out.lt;omega⟩,rfl⟩) (Nat.le_refl _)
    refine zx (some 23) 182 Tryz.func182 (by kernel_rfl) (by kernel_rfl) [.int .i64 9,.agg ⟨cs⟩,.agg ⟨cb⟩] _ _ _ rfl rfl rfl (by exact wantA rfl) rfl ?_
    refine(z14 9 cs cb hka.len hlb hka.one hkb2.one w5).mono ?_
    rintro e w6 ⟨g,rfl,hg,hwg,hb6⟩
    have hs6:Whole 29 w6 X cs:=hs5.keep (hb6.block X hs5.lt)
    refine⟨_,rfl,hs6,?_⟩
    go_frame
    refine z06 ?_
    simp only[List.drop_succ_cons,List.drop_zero]
    have hpg:p < g/\g≠X:=⟨by have:=HRv.out.lt;have:=hb5.size;omega,by have:=hs5.lt;omega⟩
    have hkt:KeptP (fun b=>p < b/\b≠X) w6 (twoC 9 g) (twoE 9 x y):=z0M (zr 9 (by decide +kernel)) hwg hpg (hka.to (fun b h1 h2=>⟨h1,hb6.block b h2⟩) hb6.size) (hkb2.to (fun b h1 h2=>⟨h1,hb6.block b h2⟩) hb6.size)
    have HKT:=I hkt
    have HX6:=I hs6
    have HR6:=I ((HRv.out.keep (hb5.block p HRv.out.lt HPN.out.1 HPN.out.1)).keep (hb6.block p (by have:=HRv.out.lt;have:=hb5.size;omega)))
    have HS6:=I (h1.keep hb6)
    have HB6:=I (HBv.out.trans (hb5.trans (But.of_below hb6 pb pb)))
    have HLX:=I hka.len
    clear hs hs5 hs6 hb5 hka hkb hkb2 hlb hwg hb6 hkt hg hpg h1 h2
    go_wp2_with ((with_reducible refine zh 29 _ _ rfl rfl ?hwf2s X cs (twoC 9 g) HX6.out ?hs12s ?hs22s ?hs32s ?hs42s ?hs52s ?_);(case hwf2s=>exact wantA rfl);(case hs12s=>rw[HLX.out];rfl);(case hs22s=>rfl);(case hs32s=>rfl);(case hs42s=>rw[HKT.out.len];kernel_rfl);(case hs52s=>exact HKT.out.one);intro Z hz hb;have HZ:=I hz;have HZB:=I hb;clear hz hb)
    go_roundg (toks.length - j)
    case measure=>have:=HLT.out;have h2:=z1n HIS.out;have:=HGQ.out;omega
    case rel=>
     refine⟨_,j,_,HREST.out,rfl,HZ.out,HR6.out.keep (HZB.out.block p HR6.out.lt (by have:=HXG.out.1;omega) (by have:=HXG.out.1;omega)),HKT.out.to (fun b h1 h2=>⟨h1,HZB.out.block b h2 h1.2 h1.2⟩) HZB.out.size,HS6.out.under X HXG.out.2.1 HXG.out.2.2 HZB.out,zM HB6.out HZB.out (by have:=HXG.out.1;have:=HP.out;omega)⟩
theorem z0R {i j k h:Nat} {x z:ET} (hsub:PCon pb tb c E toks 204 i j h x) (hl:PL 204 [(⟨#[38,38]⟩,13)] h pb tb c E toks x j z k):PCon pb tb c E toks 181 i k h z:=by
 intro w d h h0 hd
 have HSUB:=I hsub
 have HPL:=I hl
 clear hsub hl
 go_enter Tryz.func181,Tryz.ntmps181
 go_upto_region 1 with (fail)
 have HR0:=I (Whole.new w zEc 29)
 have HB0:=I (ze w (.cells zEc.toArray 29))
 have hz:=z0n
 rw[hz]
 clear hz
 have HRW:Hid (w.heap.size <(w.alloc (.cells zEc.toArray 29)).heap.size):=I (by simp)
 generalize w.alloc (.cells zEc.toArray 29)= W at*
 obtain⟨p,hp⟩:∃ p,w.heap.size= p:=⟨_,rfl⟩
 rw[hp] at HR0 HRW
 rw[hp]
 have HP:=I hp
 have HS0:=I (h.keep HB0.out)
 have HPN:Hid (p≠pb/\p≠tb):=I ⟨by have:=h.lt;omega,by have:=h.lt;omega⟩
 have H:=I h
 have HD:=I (And.intro h0 hd)
 clear hp h h0 hd
 go_upto_region 2 with (first
  |(go_at_call 204;refine(HSUB.out W d HS0.out HD.out.1 HD.out.2).mono ?_;rintro e w1 ⟨cs0,rfl,hk,h1,h2⟩;have hl:=hk.len;have HL0:=I hl;have HK0:=I hk;have HS1:=I h1;have HB1:=I h2;clear hl hk h1 h2)
  |((with_reducible refine z0x 29 _ _ rfl rfl ?hwe w1 ?zne cs0 ?hz1 ?hz2 ?hz3 ?hz4 ?hz5 ?hz6 ?_);(case hwe=>exact wantA rfl);(case hz1=>rfl);(case hz2=>rw[HL0.out];rfl);(case hz3=>rfl);(case hz4=>rfl);(case hz5=>rw[HL0.out];kernel_rfl);(case hz6=>exact HK0.out.one);intro W2 hz hb hlt;have HX2:=I hz;have HB2:=I hb;have HLT2:=I hlt;clear hz hb hlt))
 obtain⟨X,hX⟩:∃ X,w1.heap.size= X:=⟨_,rfl⟩
 rw[hX] at HX2 HB2 HLT2
 rw[hX]
 have hXX:=hX
 have HXG:Hid (p < X/\X≠pb/\X≠tb):=I ⟨by have:=HRW.out;have:=HB1.out.size;omega,by have:=HS1.out.lt;omega,by have:=HS1.out.lt;omega⟩
 have hB12:Below w1.heap.size w1 W2:=by rw[hX];exact HB2.out
 have HR2:=I ((HR0.out.keep (HB1.out.block p HRW.out HPN.out.1 HPN.out.1)).keep (hB12.block p (by rw[hX];exact HXG.out.1)))
 have HS2:=I (HS1.out.keep hB12)
 have HK2:Hid (KeptP (fun b=>p < b/\b≠X) W2 cs0 x):=I (HK0.out.to (fun b h1 h2=>⟨⟨by have:=HRW.out;omega,by omega⟩,hB12.block b h2⟩) hB12.size)
 have HBW2:Hid (But w W2 pb pb):=I ((But.of_below HB0.out pb pb).trans (HB1.out.trans (But.of_below hB12 pb pb)))
 clear hX hXX hB12 HB1 HB2 HLT2 HK0 HS1 HS0 HR0
 go_wp2
 go_loopg [] (toks.length - j) (fun q u=>∃ (x:ET) (i:Nat) (cs:List Value),PL 204 [(⟨#[38,38]⟩,13)] h pb tb c E toks x i z k/\q= toks.length - i/\Whole 29 u X cs/\Whole 29 u p zEc/\KeptP (fun b=>p < b/\b≠X) u cs x/\PSt pb tb c E toks u i d/\But w u pb pb)
 case atStart=>exact⟨x,j,cs0,HPL.out,rfl,HX2.out,HR2.out,HK2.out,HS2.out,HBW2.out⟩
 case round=>
  clear HX2 HR2 HK2 HS2 HBW2 HL0 HPL
  obtain⟨x,i,cs,hpl,hq,hx,hr,hk,hs,hb⟩:=hrel
  have HX:=I hx
  have HR:=I hr
  have HK:=I hk
  have HS:=I hs
  have HB:=I hb
  have HGQ:=I hq
  clear hx hr hk hs hb hq
  cases hpl with
  |done _ _ hno=>
   have HNO:=I hno
   clear hno
   go_upto_region 4 with (go_at_call 143;refine(zD HS.out (HNO.out (⟨#[38,38]⟩,13) (by simp))).mono ?_;rintro e v0 ⟨rfl,h1,h2⟩;have HT0:=I h1;have HTB0:=I h2;clear h1 h2)
   have HTB:=I HTB0.out
   have HXv:=I (HX.out.keep (HTB.out.block X HX.out.lt HXG.out.2.1 HXG.out.2.1))
   have HRv:=I (HR.out.keep (HTB.out.block p HR.out.lt HPN.out.1 HPN.out.1))
   have HKv:Hid (KeptP (fun b=>p < b/\b≠X) v0 cs z):=I (HK.out.to (fun b h1 h2=>⟨h1,HTB.out.block b h2 (by have:=h1.1;have:=HPN.out;have:=HP.out;have:=H.out.lt;omega) (by have:=h1.1;have:=HPN.out;have:=HP.out;have:=H.out.lt;omega)⟩) HTB.out.size)
   have HBv:=I (HB.out.trans HTB.out)
   clear HX HR HK
   have HX:=HXv
   have HK:=HKv
   have HXR:=I (HX.out.range)
   have HLX:=I (HK.out.len)
   go_wp2_with (first
    |((with_reducible refine zc 29 _ rfl ?hwld X 0 cs _ rfl HXR.out Tryz.underlying29 rfl ?hild ?_);(case hwld=>exact wantA rfl);(case hild=>rw[HLX.out];kernel_rfl))
    |((with_reducible refine zh 29 _ _ rfl rfl ?hwfd p zEc cs HRv.out ?hs1d ?hs2d ?hs3d ?hs4d ?hs5d ?_);(case hwfd=>exact wantA rfl);(case hs1d=>rw[HLX.out];rfl);(case hs2d=>rfl);(case hs3d=>rfl);(case hs4d=>rw[HLX.out];kernel_rfl);(case hs5d=>exact HK.out.one);intro Z hz hb;have HZ:=I hz;have HZB:=I hb;clear hz hb))
   (try simp only[Exit.inBlock,Exit.then])
   refine bodyPost_ret (zO rfl _ _ p cs HLX.out rfl HZ.out) rfl ?_
   have hp:=HP.out
   refine⟨cs,rfl,?_,HT0.out.under p HPN.out.1 HPN.out.2 HZB.out,zM HBv.out HZB.out (by omega)⟩
   exact KeptP.to (q:=fun b=>w.heap.size<=b) HK.out (fun b h1 h2=>⟨by have:=h1.1;show w.heap.size<=b;omega,HZB.out.block b h2 (by have:=h1.1;omega) (by have:=h1.1;omega)⟩) HZB.out.size
  |step _ _ y j z _ sg hmem his hsub hlt hrest=>
   have HSUB2:=I hsub
   have HREST:=I hrest
   have HLT:=I hlt
   have HIS:=I his
   clear hsub hrest hlt his
   simp only[List.mem_cons,List.not_mem_nil,or_false] at hmem
   rcases hmem with rfl
   ·go_upto_region 3 with (go_at_call 143;refine(z0t HS.out HIS.out).mono ?_;rintro e v0 ⟨rfl,h1,h2⟩;have HT0:=I h1;have HTB0:=I h2;clear h1 h2)
    have HTB:=I HTB0.out
    have HXv:=I (HX.out.keep (HTB.out.block X HX.out.lt HXG.out.2.1 HXG.out.2.1))
    have HRv:=I (HR.out.keep (HTB.out.block p HR.out.lt HPN.out.1 HPN.out.1))
    have HKv:Hid (KeptP (fun b=>p < b/\b≠X) v0 cs x):=I (HK.out.to (fun b h1 h2=>⟨h1,HTB.out.block b h2 (by have:=h1.1;have:=HPN.out;have:=HP.out;have:=H.out.lt;omega) (by have:=h1.1;have:=HPN.out;have:=HP.out;have:=H.out.lt;omega)⟩) HTB.out.size)
    have HBv:=I (HB.out.trans HTB.out)
    have hs:Whole 29 v0.drew X cs:=HXv.out
    refine zy 4 [(0,true),(1,true),(2,false),(3,false)]
     (fun z=>Whole 29 z X cs) (by kernel_rfl) (by kernel_rfl) rfl (by intro c a d v w h;cases d<;>exact h) ?_
    refine z8 (some 8) (.agg ⟨cs⟩) _ rfl rfl (by exact wantA rfl) hs (fun z hz=>zw 29 rfl X 0 cs _ rfl hz.range Tryz.underlying29 rfl (by rw[HK.out.len];kernel_rfl)) ?_
    go_frame
    refine zk (some 9) (.pointer (some ⟨pb,0,none⟩)) _ _ rfl rfl rfl (by exact wantA rfl) hs rfl ?_
    go_frame
    refine zx (some 10) 204 Tryz.func204 (by kernel_rfl) (by kernel_rfl) [.pointer (some ⟨pb,0,none⟩)] _ _ _ rfl rfl rfl (by exact wantA rfl) rfl ?_
    refine(HSUB2.out v0.drew d (HT0.out.keep (Below.refl _ v0).drew) HD.out.1 HD.out.2).mono ?_
    rintro e w5 ⟨cb,rfl,hkb,h1,h2⟩
    have hlb:=hkb.len
    have hb5:But v0 w5 pb pb:=(But.of_below (Below.refl _ v0).drew pb pb).trans h2
    have hs5:Whole 29 w5 X cs:=HXv.out.keep (hb5.block X HXv.out.lt HXG.out.2.1 HXG.out.2.1)
    refine⟨_,rfl,hs5,?_⟩
    go_frame
    have hka:KeptP (fun b=>p < b/\b≠X) w5 cs x:=HKv.out.to (fun b h1 h2=>⟨h1,hb5.block b h2 (by have:=h1.1;have:=HPN.out;have:=HP.out;have:=H.out.lt;omega) (by have:=h1.1;have:=HPN.out;have:=HP.out;have:=H.out.lt;omega)⟩) hb5.size
    have hkb2:KeptP (fun b=>p < b/\b≠X) w5 cb y:=hkb.to (fun b h1 h2=>⟨⟨by have h3:v0.heap.size<=b:=h1;have:=HRv.out.lt;omega,by have h3:v0.heap.size<=b:=h1;have:=HXv.out.lt;omega⟩,rfl⟩) (Nat.le_refl _)
    refine zx (some 11) 182 Tryz.func182 (by kernel_rfl) (by kernel_rfl) [.int .i64 13,.agg ⟨cs⟩,.agg ⟨cb⟩] _ _ _ rfl rfl rfl (by exact wantA rfl) rfl ?_
    refine(z14 13 cs cb hka.len hlb hka.one hkb2.one w5).mono ?_
    rintro e w6 ⟨g,rfl,hg,hwg,hb6⟩
    have hs6:Whole 29 w6 X cs:=hs5.keep (hb6.block X hs5.lt)
    refine⟨_,rfl,hs6,?_⟩
    go_frame
    refine z06 ?_
    simp only[List.drop_succ_cons,List.drop_zero]
    have hpg:p < g/\g≠X:=⟨by have:=HRv.out.lt;have:=hb5.size;omega,by have:=hs5.lt;omega⟩
    have hkt:KeptP (fun b=>p < b/\b≠X) w6 (twoC 13 g) (twoE 13 x y):=z0M (zr 13 (by decide +kernel)) hwg hpg (hka.to (fun b h1 h2=>⟨h1,hb6.block b h2⟩) hb6.size) (hkb2.to (fun b h1 h2=>⟨h1,hb6.block b h2⟩) hb6.size)
    have HKT:=I hkt
    have HX6:=I hs6
    have HR6:=I ((HRv.out.keep (hb5.block p HRv.out.lt HPN.out.1 HPN.out.1)).keep (hb6.block p (by have:=HRv.out.lt;have:=hb5.size;omega)))
    have HS6:=I (h1.keep hb6)
    have HB6:=I (HBv.out.trans (hb5.trans (But.of_below hb6 pb pb)))
    have HLX:=I hka.len
    clear hs hs5 hs6 hb5 hka hkb hkb2 hlb hwg hb6 hkt hg hpg h1 h2
    go_wp2_with ((with_reducible refine zh 29 _ _ rfl rfl ?hwf0s X cs (twoC 13 g) HX6.out ?hs10s ?hs20s ?hs30s ?hs40s ?hs50s ?_);(case hwf0s=>exact wantA rfl);(case hs10s=>rw[HLX.out];rfl);(case hs20s=>rfl);(case hs30s=>rfl);(case hs40s=>rw[HKT.out.len];kernel_rfl);(case hs50s=>exact HKT.out.one);intro Z hz hb;have HZ:=I hz;have HZB:=I hb;clear hz hb)
    go_roundg (toks.length - j)
    case measure=>have:=HLT.out;have h2:=z1n HIS.out;have:=HGQ.out;omega
    case rel=>
     refine⟨_,j,_,HREST.out,rfl,HZ.out,HR6.out.keep (HZB.out.block p HR6.out.lt (by have:=HXG.out.1;omega) (by have:=HXG.out.1;omega)),HKT.out.to (fun b h1 h2=>⟨h1,HZB.out.block b h2 h1.2 h1.2⟩) HZB.out.size,HS6.out.under X HXG.out.2.1 HXG.out.2.2 HZB.out,zM HB6.out HZB.out (by have:=HXG.out.1;have:=HP.out;omega)⟩
theorem pc_or {i j k h:Nat} {x z:ET} (hsub:PCon pb tb c E toks 181 i j h x) (hl:PL 181 [(⟨#[124,124]⟩,14)] h pb tb c E toks x j z k):PCon pb tb c E toks 142 i k h z:=by
 intro w d h h0 hd
 have HSUB:=I hsub
 have HPL:=I hl
 clear hsub hl
 go_enter Tryz.func142,Tryz.ntmps142
 go_upto_region 1 with (fail)
 have HR0:=I (Whole.new w zEc 29)
 have HB0:=I (ze w (.cells zEc.toArray 29))
 have hz:=z0n
 rw[hz]
 clear hz
 have HRW:Hid (w.heap.size <(w.alloc (.cells zEc.toArray 29)).heap.size):=I (by simp)
 generalize w.alloc (.cells zEc.toArray 29)= W at*
 obtain⟨p,hp⟩:∃ p,w.heap.size= p:=⟨_,rfl⟩
 rw[hp] at HR0 HRW
 rw[hp]
 have HP:=I hp
 have HS0:=I (h.keep HB0.out)
 have HPN:Hid (p≠pb/\p≠tb):=I ⟨by have:=h.lt;omega,by have:=h.lt;omega⟩
 have H:=I h
 have HD:=I (And.intro h0 hd)
 clear hp h h0 hd
 go_upto_region 2 with (first
  |(go_at_call 181;refine(HSUB.out W d HS0.out HD.out.1 HD.out.2).mono ?_;rintro e w1 ⟨cs0,rfl,hk,h1,h2⟩;have hl:=hk.len;have HL0:=I hl;have HK0:=I hk;have HS1:=I h1;have HB1:=I h2;clear hl hk h1 h2)
  |((with_reducible refine z0x 29 _ _ rfl rfl ?hwe w1 ?zne cs0 ?hz1 ?hz2 ?hz3 ?hz4 ?hz5 ?hz6 ?_);(case hwe=>exact wantA rfl);(case hz1=>rfl);(case hz2=>rw[HL0.out];rfl);(case hz3=>rfl);(case hz4=>rfl);(case hz5=>rw[HL0.out];kernel_rfl);(case hz6=>exact HK0.out.one);intro W2 hz hb hlt;have HX2:=I hz;have HB2:=I hb;have HLT2:=I hlt;clear hz hb hlt))
 obtain⟨X,hX⟩:∃ X,w1.heap.size= X:=⟨_,rfl⟩
 rw[hX] at HX2 HB2 HLT2
 rw[hX]
 have hXX:=hX
 have HXG:Hid (p < X/\X≠pb/\X≠tb):=I ⟨by have:=HRW.out;have:=HB1.out.size;omega,by have:=HS1.out.lt;omega,by have:=HS1.out.lt;omega⟩
 have hB12:Below w1.heap.size w1 W2:=by rw[hX];exact HB2.out
 have HR2:=I ((HR0.out.keep (HB1.out.block p HRW.out HPN.out.1 HPN.out.1)).keep (hB12.block p (by rw[hX];exact HXG.out.1)))
 have HS2:=I (HS1.out.keep hB12)
 have HK2:Hid (KeptP (fun b=>p < b/\b≠X) W2 cs0 x):=I (HK0.out.to (fun b h1 h2=>⟨⟨by have:=HRW.out;omega,by omega⟩,hB12.block b h2⟩) hB12.size)
 have HBW2:Hid (But w W2 pb pb):=I ((But.of_below HB0.out pb pb).trans (HB1.out.trans (But.of_below hB12 pb pb)))
 clear hX hXX hB12 HB1 HB2 HLT2 HK0 HS1 HS0 HR0
 go_wp2
 go_loopg [] (toks.length - j) (fun q u=>∃ (x:ET) (i:Nat) (cs:List Value),PL 181 [(⟨#[124,124]⟩,14)] h pb tb c E toks x i z k/\q= toks.length - i/\Whole 29 u X cs/\Whole 29 u p zEc/\KeptP (fun b=>p < b/\b≠X) u cs x/\PSt pb tb c E toks u i d/\But w u pb pb)
 case atStart=>exact⟨x,j,cs0,HPL.out,rfl,HX2.out,HR2.out,HK2.out,HS2.out,HBW2.out⟩
 case round=>
  clear HX2 HR2 HK2 HS2 HBW2 HL0 HPL
  obtain⟨x,i,cs,hpl,hq,hx,hr,hk,hs,hb⟩:=hrel
  have HX:=I hx
  have HR:=I hr
  have HK:=I hk
  have HS:=I hs
  have HB:=I hb
  have HGQ:=I hq
  clear hx hr hk hs hb hq
  cases hpl with
  |done _ _ hno=>
   have HNO:=I hno
   clear hno
   go_upto_region 4 with (go_at_call 143;refine(zD HS.out (HNO.out (⟨#[124,124]⟩,14) (by simp))).mono ?_;rintro e v0 ⟨rfl,h1,h2⟩;have HT0:=I h1;have HTB0:=I h2;clear h1 h2)
   have HTB:=I HTB0.out
   have HXv:=I (HX.out.keep (HTB.out.block X HX.out.lt HXG.out.2.1 HXG.out.2.1))
   have HRv:=I (HR.out.keep (HTB.out.block p HR.out.lt HPN.out.1 HPN.out.1))
   have HKv:Hid (KeptP (fun b=>p < b/\b≠X) v0 cs z):=I (HK.out.to (fun b h1 h2=>⟨h1,HTB.out.block b h2 (by have:=h1.1;have:=HPN.out;have:=HP.out;have:=H.out.lt;omega) (by have:=h1.1;have:=HPN.out;have:=HP.out;have:=H.out.lt;omega)⟩) HTB.out.size)
   have HBv:=I (HB.out.trans HTB.out)
   clear HX HR HK
   have HX:=HXv
   have HK:=HKv
   have HXR:=I (HX.out.range)
   have HLX:=I (HK.out.len)
   go_wp2_with (first
    |((with_reducible refine zc 29 _ rfl ?hwld X 0 cs _ rfl HXR.out Tryz.underlying29 rfl ?hild ?_);(case hwld=>exact wantA rfl);(case hild=>rw[HLX.out];kernel_rfl))
    |((with_reducible refine zh 29 _ _ rfl rfl ?hwfd p zEc cs HRv.out ?hs1d ?hs2d ?hs3d ?hs4d ?hs5d ?_);(case hwfd=>exact wantA rfl);(case hs1d=>rw[HLX.out];rfl);(case hs2d=>rfl);(case hs3d=>rfl);(case hs4d=>rw[HLX.out];kernel_rfl);(case hs5d=>exact HK.out.one);intro Z hz hb;have HZ:=I hz;have HZB:=I hb;clear hz hb))
   (try simp only[Exit.inBlock,Exit.then])
   refine bodyPost_ret (zO rfl _ _ p cs HLX.out rfl HZ.out) rfl ?_
   have hp:=HP.out
   refine⟨cs,rfl,?_,HT0.out.under p HPN.out.1 HPN.out.2 HZB.out,zM HBv.out HZB.out (by omega)⟩
   exact KeptP.to (q:=fun b=>w.heap.size<=b) HK.out (fun b h1 h2=>⟨by have:=h1.1;show w.heap.size<=b;omega,HZB.out.block b h2 (by have:=h1.1;omega) (by have:=h1.1;omega)⟩) HZB.out.size
  |step _ _ y j z _ sg hmem his hsub hlt hrest=>
   have HSUB2:=I hsub
   have HREST:=I hrest
   have HLT:=I hlt
   have HIS:=I his
   clear hsub hrest hlt his
   simp only[List.mem_cons,List.not_mem_nil,or_false] at hmem
   rcases hmem with rfl
   ·go_upto_region 3 with (go_at_call 143;refine(z0t HS.out HIS.out).mono ?_;rintro e v0 ⟨rfl,h1,h2⟩;have HT0:=I h1;have HTB0:=I h2;clear h1 h2)
    have HTB:=I HTB0.out
    have HXv:=I (HX.out.keep (HTB.out.block X HX.out.lt HXG.out.2.1 HXG.out.2.1))
    have HRv:=I (HR.out.keep (HTB.out.block p HR.out.lt HPN.out.1 HPN.out.1))
    have HKv:Hid (KeptP (fun b=>p < b/\b≠X) v0 cs x):=I (HK.out.to (fun b h1 h2=>⟨h1,HTB.out.block b h2 (by have:=h1.1;have:=HPN.out;have:=HP.out;have:=H.out.lt;omega) (by have:=h1.1;have:=HPN.out;have:=HP.out;have:=H.out.lt;omega)⟩) HTB.out.size)
    have HBv:=I (HB.out.trans HTB.out)
    have hs:Whole 29 v0.drew X cs:=HXv.out
    refine zy 4 [(0,true),(1,true),(2,false),(3,false)]
     (fun z=>Whole 29 z X cs) (by kernel_rfl) (by kernel_rfl) rfl (by intro c a d v w h;cases d<;>exact h) ?_
    refine z8 (some 8) (.agg ⟨cs⟩) _ rfl rfl (by exact wantA rfl) hs (fun z hz=>zw 29 rfl X 0 cs _ rfl hz.range Tryz.underlying29 rfl (by rw[HK.out.len];kernel_rfl)) ?_
    go_frame
    refine zk (some 9) (.pointer (some ⟨pb,0,none⟩)) _ _ rfl rfl rfl (by exact wantA rfl) hs rfl ?_
    go_frame
    refine zx (some 10) 181 Tryz.func181 (by kernel_rfl) (by kernel_rfl) [.pointer (some ⟨pb,0,none⟩)] _ _ _ rfl rfl rfl (by exact wantA rfl) rfl ?_
    refine(HSUB2.out v0.drew d (HT0.out.keep (Below.refl _ v0).drew) HD.out.1 HD.out.2).mono ?_
    rintro e w5 ⟨cb,rfl,hkb,h1,h2⟩
    have hlb:=hkb.len
    have hb5:But v0 w5 pb pb:=(But.of_below (Below.refl _ v0).drew pb pb).trans h2
    have hs5:Whole 29 w5 X cs:=HXv.out.keep (hb5.block X HXv.out.lt HXG.out.2.1 HXG.out.2.1)
    refine⟨_,rfl,hs5,?_⟩
    go_frame
    have hka:KeptP (fun b=>p < b/\b≠X) w5 cs x:=HKv.out.to (fun b h1 h2=>⟨h1,hb5.block b h2 (by have:=h1.1;have:=HPN.out;have:=HP.out;have:=H.out.lt;omega) (by have:=h1.1;have:=HPN.out;have:=HP.out;have:=H.out.lt;omega)⟩) hb5.size
    have hkb2:KeptP (fun b=>p < b/\b≠X) w5 cb y:=hkb.to (fun b h1 h2=>⟨⟨by have h3:v0.heap.size<=b:=h1;have:=HRv.out.lt;omega,by have h3:v0.heap.size<=b:=h1;have:=HXv.out.lt;omega⟩,rfl⟩) (Nat.le_refl _)
    refine zx (some 11) 182 Tryz.func182 (by kernel_rfl) (by kernel_rfl) [.int .i64 14,.agg ⟨cs⟩,.agg ⟨cb⟩] _ _ _ rfl rfl rfl (by exact wantA rfl) rfl ?_
    refine(z14 14 cs cb hka.len hlb hka.one hkb2.one w5).mono ?_
    rintro e w6 ⟨g,rfl,hg,hwg,hb6⟩
    have hs6:Whole 29 w6 X cs:=hs5.keep (hb6.block X hs5.lt)
    refine⟨_,rfl,hs6,?_⟩
    go_frame
    refine z06 ?_
    simp only[List.drop_succ_cons,List.drop_zero]
    have hpg:p < g/\g≠X:=⟨by have:=HRv.out.lt;have:=hb5.size;omega,by have:=hs5.lt;omega⟩
    have hkt:KeptP (fun b=>p < b/\b≠X) w6 (twoC 14 g) (twoE 14 x y):=z0M (zr 14 (by decide +kernel)) hwg hpg (hka.to (fun b h1 h2=>⟨h1,hb6.block b h2⟩) hb6.size) (hkb2.to (fun b h1 h2=>⟨h1,hb6.block b h2⟩) hb6.size)
    have HKT:=I hkt
    have HX6:=I hs6
    have HR6:=I ((HRv.out.keep (hb5.block p HRv.out.lt HPN.out.1 HPN.out.1)).keep (hb6.block p (by have:=HRv.out.lt;have:=hb5.size;omega)))
    have HS6:=I (h1.keep hb6)
    have HB6:=I (HBv.out.trans (hb5.trans (But.of_below hb6 pb pb)))
    have HLX:=I hka.len
    clear hs hs5 hs6 hb5 hka hkb hkb2 hlb hwg hb6 hkt hg hpg h1 h2
    go_wp2_with ((with_reducible refine zh 29 _ _ rfl rfl ?hwf0s X cs (twoC 14 g) HX6.out ?hs10s ?hs20s ?hs30s ?hs40s ?hs50s ?_);(case hwf0s=>exact wantA rfl);(case hs10s=>rw[HLX.out];rfl);(case hs20s=>rfl);(case hs30s=>rfl);(case hs40s=>rw[HKT.out.len];kernel_rfl);(case hs50s=>exact HKT.out.one);intro Z hz hb;have HZ:=I hz;have HZB:=I hb;clear hz hb)
    go_roundg (toks.length - j)
    case measure=>have:=HLT.out;have h2:=z1n HIS.out;have:=HGQ.out;omega
    case rel=>
     refine⟨_,j,_,HREST.out,rfl,HZ.out,HR6.out.keep (HZB.out.block p HR6.out.lt (by have:=HXG.out.1;omega) (by have:=HXG.out.1;omega)),HKT.out.to (fun b h1 h2=>⟨h1,HZB.out.block b h2 h1.2 h1.2⟩) HZB.out.size,HS6.out.under X HXG.out.2.1 HXG.out.2.2 HZB.out,zM HB6.out HZB.out (by have:=HXG.out.1;have:=HP.out;omega)⟩
end
end
section
open Go Go.RowKit
section
variable {pb tb c:Nat} {E:Int} {toks:List Tok} {w:World} {i:Nat} {d:Int}
theorem zaD (t:Tok) (ht:toks[i]?= some t) (hk:t.kind= 5) (hpl:t.s=⟨#[116,114,117,101]⟩) (h:PSt pb tb c E toks w i d):
  Calls Tryz.prog 250 #[.pointer (some ⟨pb,0,none⟩)] w fun e w'=>e= .returned (.agg ⟨conC 1 1 0 ⟨#[]⟩⟩)/\PSt pb tb c E toks w' (i+1) d/\But w w' pb pb:=by
 obtain⟨i0,hi0,hz0,hz1,hz2⟩:=info_parts z2q
 have hno:∀ s,isB toks i s= false:=fun s=>by unfold isB;rw[ht];show(decide (t.kind= 6) && _)= false;rw[hk];rfl
 have HNO:=I hno
 have hil:i < toks.length:=(List.getElem?_eq_some_iff.1 ht).1
 have HIL:=I hil
 have hlen:=h.len
 have HT:=I ht
 have HK:=I hk
 have H:=I h
 have d3:=h.cell 3
 simp only[List.getElem?_toArray,List.getElem?_cons_succ,List.getElem?_cons_zero] at d3
 have HPL:=I hpl
 clear hno hk ht h hil hpl
 go_enter Tryz.func250,Tryz.ntmps250
 go_upto_region 1 with (fail)
 have HR0:=I (Whole.new w zEc 29)
 have HB0:=I (ze w (.cells zEc.toArray 29))
 have hz:=z0n
 rw[hz]
 clear hz
 have HRW:Hid (w.heap.size <(w.alloc (.cells zEc.toArray 29)).heap.size):=I (by simp)
 generalize w.alloc (.cells zEc.toArray 29)= W at*
 obtain⟨p,hp⟩:∃ p,w.heap.size= p:=⟨_,rfl⟩
 rw[hp] at HR0 HRW
 rw[hp]
 have HP:=I hp
 have HS0:=I (H.out.keep HB0.out)
 have HPN:Hid (p≠pb/\p≠tb):=I ⟨by have:=H.out.lt;omega,by have:=H.out.lt;omega⟩
 have d3':=HS0.out.cell 3
 simp only[List.getElem?_toArray,List.getElem?_cons_succ,List.getElem?_cons_zero] at d3'
 clear hp d3
 go_upto_region 3 with (fail)
 clear d3'
 go_upto_region 7 with (go_at_call 143;refine(zD HS0.out (HNO.out _)).mono ?_;rintro e w1 ⟨rfl,h1,h2⟩;have HS1:=I h1;have HB1:=I h2;clear h1 h2)
 go_upto_region 9 with (go_at_call 143;refine(zD HS1.out (HNO.out _)).mono ?_;rintro e w2 ⟨rfl,h1,h2⟩;have HS2:=I h1;have HB2:=I h2;clear h1 h2)
 go_upto_region 11 with (go_at_call 143;refine(zD HS2.out (HNO.out _)).mono ?_;rintro e w3 ⟨rfl,h1,h2⟩;have HS3:=I h1;have HB3:=I h2;clear h1 h2)
 have HB03:=I (HB1.out.trans (HB2.out.trans HB3.out))
 clear HB1 HB2 HB3 HS1 HS2
 have d0:=HS3.out.cell 0
 have d1:=HS3.out.cell 1
 simp only[List.getElem?_toArray,List.getElem?_cons_succ,List.getElem?_cons_zero] at d0 d1
 have c0:w3.cell? ⟨tb,i*6,none⟩= some (.int .i64 5):=(HS3.out.tok i t HT.out 0 _ rfl).trans (by rw[HK.out])
 have q1: ¬ ((toks.length:Int)<=(i:Int)):=by have:=HIL.out;omega
 have q2:(i:Int) <(toks.length:Int):=by have:=HIL.out;omega
 go_quiet (fail)
 have HBQ:Hid (Below w3.heap.size w3 (w3.drewN nq)):=I ⟨rfl,rfl,rfl,Nat.le_refl _,fun _ _=>rfl⟩
 generalize w3.drewN nq= w4 at*
 have HS4:=I (HS3.out.keep HBQ.out)
 have HB04:=I (HB03.out.trans (But.of_below HBQ.out pb pb))
 clear d0 d1 c0 HBQ HS3 HB03
 go_upto_region 14 with (fail)
 have d0:=HS4.out.cell 0
 have d1:=HS4.out.cell 1
 simp only[List.getElem?_toArray,List.getElem?_cons_succ,List.getElem?_cons_zero] at d0 d1
 have ht6:=HS4.out.tok i t HT.out
 have HS4D:=I (HS4.out.keep (Below.refl _ w4).drew)
 have hs:PSt pb tb c E toks w4.drew i d:=HS4D.out
 clear d0 d1 ht6
 refine zu [(0,true),(1,true),(2,true),(3,true),(4,true),(5,true),(6,true),(7,true),(8,true),(9,true),(10,false),(11,false)]
  (fun z=>PSt pb tb c E toks z i d) (by kernel_rfl) (by kernel_rfl) (by kernel_rfl) rfl (by intro c a d v w h;cases d<;>exact h) ?_
 refine zk (some 57) (.pointer (some ⟨pb,0,none⟩)) _ _ rfl rfl rfl (by exact wantA rfl) hs rfl ?_
 go_frame
 refine z8 (some 58) (.pointer (some ⟨pb,0,none⟩)) _ rfl rfl (by exact wantA rfl) hs (fun z hz=>by go_simp) ?_
 go_frame
 refine z8 (some 59) (.pointer (some ⟨pb,0,none⟩)) _ rfl rfl (by exact wantA rfl) hs (fun z hz=>by go_simp) ?_
 go_frame
 refine z8 (some 60) (.slice (some ⟨tb,0,none⟩) toks.length c) _ rfl rfl (by exact wantA rfl) hs (fun z hz=>by have d0:=hz.cell 0;simp only[List.getElem?_toArray,List.getElem?_cons_zero] at d0;clear hz;go_simp) ?_
 go_frame
 refine zk (some 61) (.pointer (some ⟨pb,0,none⟩)) _ _ rfl rfl rfl (by exact wantA rfl) hs rfl ?_
 go_frame
 refine z8 (some 62) (.pointer (some ⟨pb,0,none⟩)) _ rfl rfl (by exact wantA rfl) hs (fun z hz=>by go_simp) ?_
 go_frame
 refine z8 (some 63) (.pointer (some ⟨pb,1,none⟩)) _ rfl rfl (by exact wantA rfl) hs (fun z hz=>by go_simp) ?_
 go_frame
 refine z8 (some 64) (.int .i64 i) _ rfl rfl (by exact wantA rfl) hs (fun z hz=>by have d1:=hz.cell 1;simp only[List.getElem?_toArray,List.getElem?_cons_succ,List.getElem?_cons_zero] at d1;clear hz;go_simp) ?_
 go_frame
 refine z8 (some 65) (.pointer (some ⟨tb,i*6,none⟩)) _ rfl rfl (by exact wantA rfl) hs (fun z hz=>by go_simp) ?_
 go_frame
 refine z8 (some 66) (.agg ⟨tokC t⟩) _ rfl rfl (by exact wantA rfl) hs (fun z hz=>zw 156 rfl tb (i*6) (tokC t) _ rfl (hz.tok i t HT.out) Tryz.underlying156 rfl (by kernel_rfl)) ?_
 go_frame
 have hn:=hs.keep (ze w4.drew (.cells (tokC ⟨0,0,0,0,0,⟨#[]⟩⟩).toArray 156))
 refine z0w (some 4) (.pointer (some ⟨w4.drew.heap.size,0,none⟩)) (w4.drew.alloc (.cells (tokC ⟨0,0,0,0,0,⟨#[]⟩⟩).toArray 156)) _ rfl rfl (by exact wantA rfl) (z25 156 rfl i0 _ hi0 hz0) hn ?_
 go_frame
 refine z23 none 156 _ _ _ rfl rfl rfl (by exact wantA rfl) w4.drew.heap.size (tokC ⟨0,0,0,0,0,⟨#[]⟩⟩) (tokC t) (Whole.new _ _ _) rfl rfl rfl (by kernel_rfl) (z0s t) ?_
 intro w5 hw5 hb5
 have hq5:w4.drew.heap.size≠pb/\w4.drew.heap.size≠tb:=⟨by have:=hs.lt;omega,by have:=hs.lt;omega⟩
 have hs5:=hn.under w4.drew.heap.size hq5.1 hq5.2 hb5
 refine⟨hs5,?_⟩
 go_frame
 refine zR ?_
 have HB45:Hid (Below w4.heap.size w4 w5):=I (((Below.refl _ w4).drew.trans (ze w4.drew _)).trans (hb5.below (B:=w4.heap.size) (by simp) (Nat.le_refl _) (Nat.le_refl _)))
 have HB05:=I (HB04.out.trans (But.of_below HB45.out pb pb))
 have HS5:=I hs5
 obtain⟨qb,hqb⟩:∃ q,w4.drew.heap.size= q:=⟨_,rfl⟩
 rw[hqb] at hw5 hq5
 have HQ5:=I hq5
 have HT5:=I hw5
 rw[hqb]
 clear hs hn hs5 hb5 hw5 hq5 hqb HB04 HB45
 have HR5:=I (HR0.out.keep (HB05.out.block p HRW.out HPN.out.1 HPN.out.1))
 go_upto_region 15 with (fail)
 have d1:=HS5.out.cell 1
 have f1:=HS5.out.thaw 1
 simp only[List.getElem?_toArray,List.getElem?_cons_succ,List.getElem?_cons_zero] at d1
 have HS6:=I (HS5.out.setI (i+1))
 have HB6:=I (But.setAt w5 pb 1 (.int .i64 ((i+1:Nat):Int)))
 have HT6:=I (HT5.out.keep (HB6.out.block qb HT5.out.lt HQ5.out.1 HQ5.out.1))
 have HR6:=I (HR5.out.keep (HB6.out.block p HR5.out.lt HPN.out.1 HPN.out.1))
 have hcs:w5.setCell ⟨pb,1,none⟩ (.int .i64 ((i+1:Nat):Int))= w5.setCell ⟨pb,1,none⟩ (.int .i64 ((i:Int)+1)):=rfl
 rw[hcs] at HS6 HB6 HT6 HR6
 clear hcs
 go_upto_region 16 with (fail)
 generalize w5.setCell ⟨pb,1,none⟩ (.int .i64 ((i:Int)+1))= w6 at*
 clear d1 f1
 have HB06:=I (HB05.out.trans HB6.out)
 have k0:w6.cell? ⟨qb,0,none⟩= some (.int .i64 5):=(HT6.out.cells 0 rfl).trans (by rw[HK.out])
 have k5:w6.cell? ⟨qb,5,none⟩= some (.string ⟨#[116,114,117,101]⟩):=(HT6.out.cells 5 rfl).trans (by rw[HPL.out])
 clear HPL
 go_wp2_with (first
  |(go_at_call 254;refine(z5M 1 1 0 ⟨#[]⟩ w6).mono ?_;rintro e z ⟨rfl,hb⟩;have HBZ:=I hb;have HRZ:=I (HR6.out.keep (hb.block p HR6.out.lt));clear hb)
  |((with_reducible refine zh 29 _ _ rfl rfl ?hwd p zEc (conC 1 1 0 ⟨#[]⟩) HRZ.out ?hs5 ?hs6 ?hs7 ?hs8 ?hs9 ?_);(case hwd=>exact wantA rfl);(case hs5=>rfl);(case hs6=>rfl);(case hs7=>rfl);(case hs8=>kernel_rfl);(case hs9=>exact z42 1 1 0 ⟨#[]⟩);intro Z hz hb;have HZ:=I hz;have HZB:=I hb;clear hz hb))
 (try simp only[Exit.inBlock,Exit.then])
 refine bodyPost_ret (zO rfl _ _ p (conC 1 1 0 ⟨#[]⟩) (z43 1 1 0 ⟨#[]⟩) rfl HZ.out) rfl ?_
 have hp:=HP.out
 have hbz:=(But.of_below HB0.out pb pb).trans (HB06.out.trans (But.of_below HBZ.out pb pb))
 exact⟨rfl,(HS6.out.keep HBZ.out).under p HPN.out.1 HPN.out.2 HZB.out,zM hbz HZB.out (by omega)⟩
theorem zd5 (t:Tok) (ht:toks[i]?= some t) (hk:t.kind= 5) (hp:t.s=⟨#[116,114,117,101]⟩):PCon pb tb c E toks 250 i (i+1) 0 (conE 1 1 0 ⟨#[]⟩):=fun w d h _ _=>
 (zaD t ht hk hp h).mono fun e w' ⟨he,h1,h2⟩=>⟨_,he,z4J _ _ 1 1 0 ⟨#[]⟩ (zr 1 (by decide +kernel)) (zr 1 (by decide +kernel)) (by decide +kernel) (Nat.zero_le _),h1,h2⟩
end
end
end Go.Proofs.YtmpbepjjbaeebaaGreatDoor
