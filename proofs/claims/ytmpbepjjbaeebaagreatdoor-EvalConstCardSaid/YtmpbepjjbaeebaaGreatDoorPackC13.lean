/- Parts of a proof: VOrd, VEq, VRowP. -/
import Derived.Test.YtmpbepjjbaeebaaGreatDoorPackC11
import Derived.Test.YtmpbepjjbaeebaaGreatDoorPackC12
set_option maxHeartbeats 8000000
set_option maxRecDepth 100000
set_option linter.unusedVariables false
set_option linter.unusedSimpArgs false
namespace Go.Proofs.YtmpbepjjbaeebaaGreatDoor
section
open Go Go.RowKit
mutual
def ordV:VT->VT->Int
 | .mk k n f s ns its,.mk k' n' f' s' ns' its'=>
  if cmpI k k'≠0 then cmpI k k' else if rowV k n n' f f' s s' ns ns'≠0\/leafK k= true then rowV k n n' f f' s s' ns ns' else ordL its its'
def ordL:List VT->List VT->Int
 |[],[]=>0
 |[],_::_=> -1
 |_::_,[]=>1
 |a::l,b::r=>if ordV a b≠0 then ordV a b else ordL l r
end
theorem z4a:∀ l r:List VT,ordL l r= listC ordV l r
 |[],[]=>by simp[ordL,listC]
 |[],_::_=>by simp[ordL,listC]
 |_::_,[]=>by simp[ordL,listC]
 |a::l,b::r=>by
  rw[ordL,listC,z4a l r]
theorem zi {w:World} {B:Nat} {cs:List Value} {t:VT} (h:ValAt w B cs t):cs.length= 6/\∀ u∈cs,u.oneCell'= true:=by
 cases t with
 |mk k n f s ns its=>
  obtain⟨vn,vi,rfl,_,_,_,_,h1,_,h2⟩:=h.inv
  obtain⟨_,A,c,rfl,_⟩:=h1
  obtain⟨_,A',c',rfl,_⟩:=h2
  refine⟨rfl,fun u hu=> ?_⟩
  simp only[List.mem_cons,List.not_mem_nil,or_false] at hu
  rcases hu with rfl|rfl|rfl|rfl|rfl|rfl<;>rfl
theorem ValAt.next {w w':World} {cs:List Value} {t:VT} (h:ValAt w w.heap.size cs t) (hb:Below w.heap.size w w'):ValAt w' w'.heap.size cs t:=(h.under hb).more hb.size
theorem z0F {w:World} {v:Value} {l:List VT} (h:SlAt w w.heap.size 6 (ValAt w w.heap.size) v l):∃ A c,v= .slice A l.length c/\l.length<=9223372036854775807/\
  (0 < l.length->∃ b o,A= some ⟨b,o,none⟩/\b < w.heap.size/\∀ (i:Nat) x,l[i]?= some x->∃ cs:List Value,w.rangeAt b (o+i*6) cs/\ValAt w w.heap.size cs x):=by
 obtain⟨h0,A,c,h1,h2⟩:=h
 refine⟨A,c,h1,h0,fun hp=> ?_⟩
 obtain⟨b,o,h3,h4,h5⟩:=h2 hp
 refine⟨b,o,h3,h4,fun i x hx=> ?_⟩
 obtain⟨cs,_,h7,h8⟩:=h5 i x hx
 exact⟨cs,h7,h8⟩
def z63 (r:Int) (w:World) (e:Ending) (w':World):Prop:=e= .returned (.int .i64 r)/\Below w.heap.size w w'
theorem zbR (l r:List VT) (u v:Value) (w:World) (hu:SlAt w w.heap.size 6 (ValAt w w.heap.size) u l) (hv:SlAt w w.heap.size 6 (ValAt w w.heap.size) v r)
  (hF:∀ x∈l,∀ y cs cs' z,ValAt z z.heap.size cs x->ValAt z z.heap.size cs' y->Calls Tryz.prog 158 #[.agg ⟨cs⟩,.agg ⟨cs'⟩] z (z63 (ordV x y) z)):
  Calls Tryz.prog 198 #[u,v,.func (.func 158) #[] #[]] w (z63 (listC ordV l r) w):=by
 obtain⟨A,ca,rfl,hl,ha⟩:=z0F hu
 obtain⟨D,cb,rfl,hr,hb⟩:=z0F hv
 have HA:=I ha
 have HB:=I hb
 have HF:=I hF
 have HS:=I (fun k x y=>z2W (f:=ordV) (l:=l) (r:=r) (k:=k) (x:=x) (y:=y))
 have HL:=I (fun k x=>z35 (f:=ordV) (l:=l) (r:=r) (k:=k) (x:=x))
 have HE:=I (fun k=>z3V (f:=ordV) (l:=l) (r:=r) (k:=k))
 have HT:=I (fun k=>z3c (f:=ordV) (l:=l) (r:=r) (k:=k))
 have H0:Hid (listC ordV (l.drop 0) (r.drop 0)= listC ordV l r):=I rfl
 have hl2:(l.length:Int)<=9223372036854775807:=by omega
 have hr2:(r.length:Int)<=9223372036854775807:=by omega
 clear ha hb hu hv hF
 generalize listC ordV l r= res at*
 go_enter Tryz.func198,Tryz.ntmps198
 go_wp2
 go_loopg [13] l.length (fun q x u=>∃ k:Nat,k+q= l.length/\x= .int .i64 k/\Below w.heap.size w u/\listC ordV (l.drop k) (r.drop k)= res)
 case atStart=>exact⟨0,by omega,rfl,Below.refl _ _,H0.out⟩
 case round=>
  obtain⟨k,hk,rfl,hb,hres⟩:=hrel
  have HR:=I hres
  have HBK:=I hb
  clear hres hb
  cases gk with
  |zero=>
   obtain rfl:k= l.length:=by omega
   have hge: ¬ ((l.length:Int) <(l.length:Int)):=by omega
   by_cases hlr:l.length < r.length
   ·have HV:=I ((HR.out).symm.trans (HE.out l.length (Nat.le_refl _) hlr))
    have t1:(l.length:Int) <(r.length:Int):=by omega
    clear HR hlr
    go_wp2
    go_ret
    exact⟨zH HV.out.symm,HBK.out⟩
   ·have HV:=I ((HR.out).symm.trans (HT.out l.length (Nat.le_refl _) (by omega)))
    have t1: ¬ ((l.length:Int) <(r.length:Int)):=by omega
    clear HR hlr
    go_wp2
    go_ret
    exact⟨zH HV.out.symm,HBK.out⟩
  |succ q=>
   have hlt:(k:Int) <(l.length:Int):=by omega
   obtain⟨x,hx⟩:∃ x,l[k]?= some x:=⟨_,List.getElem?_eq_getElem (by omega)⟩
   obtain⟨b1,o1,rfl,hb1,c1⟩:=HA.out (by omega)
   obtain⟨cs,hcs,hvx⟩:=c1 k x hx
   have HR1:=I (zd hcs HBK.out hb1)
   have HVX:=I (ValAt.next hvx HBK.out)
   have HCL:=I (zi hvx)
   have HMX:=I (List.mem_of_getElem? hx)
   have HKX:=I hx
   clear c1 hcs hvx hx
   go_upto_region 4 with (first|((with_reducible refine zc 26 _ rfl ?hwa b1 (o1+k*6) cs _ rfl HR1.out Tryz.underlying26 rfl ?hia ?_);(case hwa=>exact wantA rfl);(case hia=>rw[HCL.out.1];kernel_rfl))|((with_reducible refine z09 26 _ _ rfl ?hwb wr ?znb cs ?hwldb ?hzb ?hxb ?hyb ?hib ?h1b ?_);(case hwldb=>rfl);(case hxb=>rfl);(case hyb=>rfl);(case hwb=>exact wantA rfl);(case hzb=>rw[HCL.out.1];rfl);(case hib=>rw[HCL.out.1];kernel_rfl);(case h1b=>exact HCL.out.2);intro Z hbx;have HX:=I hbx;clear hbx))
   have HBZ:=I (HBK.out.trans (HX.out.below.mono HBK.out.size))
   have HRA:=I HX.out.range
   have HVX2:=I (ValAt.next HVX.out HX.out.below)
   obtain⟨pa,hpa⟩:∃ pa,wr.heap.size= pa:=⟨_,rfl⟩
   rw[hpa] at HRA
   have HPA:Hid (pa < Z.heap.size):=I (hpa▸HX.out.size)
   rw[hpa]
   clear hpa HR1 HVX HX
   by_cases hkr:k < r.length
   ·obtain⟨y,hy⟩:∃ y,r[k]?= some y:=⟨_,List.getElem?_eq_getElem hkr⟩
    obtain⟨b2,o2,rfl,hb2,c2⟩:=HB.out (by omega)
    obtain⟨cs',hcs,hvy⟩:=c2 k y hy
    have HR2:=I (zd hcs HBZ.out hb2)
    have HVY:=I (ValAt.next hvy HBZ.out)
    have HCM:=I (zi hvy)
    have hlt2:(k:Int) <(r.length:Int):=by omega
    have HV:=I ((HR.out).symm.trans (HS.out k x y HKX.out hy))
    clear c2 hcs hvy hy hkr
    go_upto_region 7 with (first|((with_reducible refine zc 26 _ rfl ?hwc b2 (o2+k*6) cs' _ rfl HR2.out Tryz.underlying26 rfl ?hic ?_);(case hwc=>exact wantA rfl);(case hic=>rw[HCM.out.1];kernel_rfl))|((with_reducible refine z09 26 _ _ rfl ?hwd Z ?znd cs' ?hwldd ?hzd ?hxd ?hyd ?I ?h1d ?_);(case hwldd=>rfl);(case hxd=>rfl);(case hyd=>rfl);(case hwd=>exact wantA rfl);(case hzd=>rw[HCM.out.1];rfl);(case I=>rw[HCM.out.1];kernel_rfl);(case h1d=>exact HCM.out.2);intro Z2 hbx;have HX2:=I hbx;clear hbx))
    have HBZ2:=I (HBZ.out.trans (HX2.out.below.mono HBZ.out.size))
    have HRA2:=I (zd HRA.out HX2.out.below HPA.out)
    have HRB2:=I HX2.out.range
    have HVX3:=I (ValAt.next HVX2.out HX2.out.below)
    have HVY3:=I (ValAt.next HVY.out HX2.out.below)
    obtain⟨pb,hpb⟩:∃ pb,Z.heap.size= pb:=⟨_,rfl⟩
    rw[hpb] at HRB2
    rw[hpb]
    have HC:=I (HF.out x HMX.out y cs cs' Z2 HVX3.out HVY3.out)
    clear hpb HX2 HR2 HVX2 HVY HRA HPA HVX3 HVY3
    generalize ordV x y= cv at*
    by_cases hc:cv= 0
    ·subst hc
     have HV2:=I (HV.out.trans (if_neg (fun h=>h rfl)))
     clear HV
     go_wp2_with (first|((with_reducible refine zc 26 _ rfl ?hwe pa 0 cs _ rfl HRA2.out Tryz.underlying26 rfl ?hie ?_);(case hwe=>exact wantA rfl);(case hie=>rw[HCL.out.1];kernel_rfl))|((with_reducible refine zc 26 _ rfl ?hwf pb 0 cs' _ rfl HRB2.out Tryz.underlying26 rfl ?hif ?_);(case hwf=>exact wantA rfl);(case hif=>rw[HCM.out.1];kernel_rfl))|(go_at_call 158;refine HC.out.mono ?_;rintro e z ⟨rfl,hbz⟩;have HB3:=I hbz;clear hbz))
     go_roundg q
     case measure=>omega
     case rel=>exact⟨k+1,by omega,by go_num,HBZ2.out.trans (HB3.out.mono HBZ2.out.size),HV2.out.symm⟩
    ·have HV2:=I (HV.out.trans (if_pos hc))
     have t2:(cv !=0)= true:=by simpa using hc
     clear HV hc
     go_wp2_with (first|((with_reducible refine zc 26 _ rfl ?hwe pa 0 cs _ rfl HRA2.out Tryz.underlying26 rfl ?hie ?_);(case hwe=>exact wantA rfl);(case hie=>rw[HCL.out.1];kernel_rfl))|((with_reducible refine zc 26 _ rfl ?hwf pb 0 cs' _ rfl HRB2.out Tryz.underlying26 rfl ?hif ?_);(case hwf=>exact wantA rfl);(case hif=>rw[HCM.out.1];kernel_rfl))|(go_at_call 158;refine HC.out.mono ?_;rintro e z ⟨rfl,hbz⟩;have HB3:=I hbz;clear hbz))
     go_ret
     exact⟨zH HV2.out.symm,HBZ2.out.trans (HB3.out.mono HBZ2.out.size)⟩
   ·have HV:=I ((HR.out).symm.trans (HL.out k x HKX.out (by omega)))
    have hge:(r.length:Int)<=(k:Int):=by omega
    clear HR hkr
    go_wp2
    go_ret
    exact⟨zH HV.out.symm,HBZ.out⟩
theorem z1T:∀ (t t':VT) (cs cs':List Value) (w:World),ValAt w w.heap.size cs t->ValAt w w.heap.size cs' t'->Calls Tryz.prog 158 #[.agg ⟨cs⟩,.agg ⟨cs'⟩] w (z63 (ordV t t') w):=by
 intro t
 induction t using VT.ind with
 |h k n f s ns its ih=>
  intro t' cs cs' w hv hv'
  cases t' with
  |mk k' n' f' s' ns' its'=>
  have IH:=I ih
  have HVA:=I hv
  have HVB:=I hv'
  obtain⟨vn,vi,rfl,_,_,hf,_,hn,_,hi⟩:=hv.inv
  obtain⟨vn',vi',rfl,_,_,hf',_,hn',_,hi'⟩:=hv'.inv
  have HF:=I (And.intro (wf64 hf) (wf64 hf'))
  have HN:=I hn
  have HN':=I hn'
  have HI:=I hi
  have HI':=I hi'
  have HO:Hid (ordV (.mk k n f s ns its) (.mk k' n' f' s' ns' its')= if cmpI k k'≠0 then cmpI k k' else if rowV k n n' f f' s s' ns ns'≠0\/leafK k= true then rowV k n n' f f' s s' ns ns' else listC ordV its its'):=I (by rw[ordV,z4a])
  clear ih hv hv' hf hf' hn hn' hi hi'
  generalize hres:ordV (.mk k n f s ns its) (.mk k' n' f' s' ns' its')= res at*
  clear hres
  go_enter Tryz.func158,Tryz.ntmps158
  go_upto_region 1 with (fail)
  have HA:=I (zq w [.int .i64 k,.int .i64 n,.float .f64 f,.string s,vn,vi] 26)
  have HB1:=I (ze w (.cells ⟨[.int .i64 k,.int .i64 n,.float .f64 f,.string s,vn,vi]⟩ 26))
  have HS1:=I (zt w (.cells ⟨[.int .i64 k,.int .i64 n,.float .f64 f,.string s,vn,vi]⟩ 26))
  have HSE:Hid ((w.alloc (.cells ⟨[.int .i64 k,.int .i64 n,.float .f64 f,.string s,vn,vi]⟩ 26)).heap.size= w.heap.size+1):=I (by simp)
  generalize w.alloc (.cells ⟨[.int .i64 k,.int .i64 n,.float .f64 f,.string s,vn,vi]⟩ 26)= W1 at*
  have HB:=I (zq W1 [.int .i64 k',.int .i64 n',.float .f64 f',.string s',vn',vi'] 26)
  have HB2:=I (ze W1 (.cells ⟨[.int .i64 k',.int .i64 n',.float .f64 f',.string s',vn',vi']⟩ 26))
  have HS2:=I (zt W1 (.cells ⟨[.int .i64 k',.int .i64 n',.float .f64 f',.string s',vn',vi']⟩ 26))
  generalize W1.alloc (.cells ⟨[.int .i64 k',.int .i64 n',.float .f64 f',.string s',vn',vi']⟩ 26)= W at*
  have HAW:=I (zd HA.out HB2.out HS1.out)
  have HBW:=I (HB1.out.trans (HB2.out.mono HB1.out.size))
  have HLT:=I (Nat.lt_of_lt_of_le HS1.out HB2.out.size)
  rw[HSE.out] at HB HS2
  obtain⟨pb,hpb⟩:∃ pb,w.heap.size+1= pb:=⟨_,rfl⟩
  rw[hpb] at HB HS2
  rw[hpb]
  have d0:W.cell? ⟨w.heap.size,0,none⟩= some (.int .i64 k):=by have:=HAW.out 0 _ rfl;simpa using this
  have e0:W.cell? ⟨pb,0,none⟩= some (.int .i64 k'):=by have:=HB.out 0 _ rfl;simpa using this
  have HRW:=I (z92 k k' n n' f f' s s' ns ns' vn vn' vi vi' w.heap.size pb W HAW.out HB.out ⟨HLT.out,HS2.out⟩ HF.out.1 HF.out.2 ((HN.out.below HBW.out fun _ _ _ h=>h).more HBW.out.size) ((HN'.out.below HBW.out fun _ _ _ h=>h).more HBW.out.size))
  have HCK:=I (fun w=>cmpi k k' w)
  have HLF:=I (fun w=>z7U k w)
  clear HA HB1 HS1 HSE HB2 hpb
  generalize cmpI k k'= ck at*
  by_cases hck:ck= 0
  ·subst hck
   have HO2:=I (HO.out.trans (if_neg (fun h=>h rfl)))
   clear HO
   generalize rowV k n n' f f' s s' ns ns'= rv at*
   by_cases hrv:rv= 0
   ·subst hrv
    cases hlf:leafK k with
    |true=>
     have HO3:=I (HO2.out.trans (if_pos (.inr hlf)))
     rw[hlf] at HLF
     clear HO2 hlf
     go_wp2_with (first|(go_at_call 197;refine(HCK.out _).mono ?_;rintro e z1 ⟨rfl,rfl⟩)|(go_at_call 154;refine HRW.out.mono ?_;rintro e w2 ⟨rfl,hb2⟩;have HB2:=I hb2;have d0':=(hb2.cell (p:=⟨w.heap.size,0,none⟩) HLT.out).trans d0;clear hb2)|(go_at_call 155;refine(HLF.out _).mono ?_;rintro e z1 ⟨rfl,rfl⟩))
     go_ret
     exact⟨zH HO3.out.symm,HBW.out.trans (HB2.out.mono HBW.out.size)⟩
    |false=>
     have HO3:=I (HO2.out.trans (if_neg (fun h=>h.elim (fun h=>h rfl) (fun h=>by rw[hlf] at h;cases h))))
     rw[hlf] at HLF
     clear HO2 hlf
     go_upto_region 5 with (first|(go_at_call 197;refine(HCK.out _).mono ?_;rintro e z1 ⟨rfl,rfl⟩)|(go_at_call 154;refine HRW.out.mono ?_;rintro e w2 ⟨rfl,hb2⟩;have HB2:=I hb2;have d0':=(hb2.cell (p:=⟨w.heap.size,0,none⟩) HLT.out).trans d0;clear hb2))
     have HBT:=I (HBW.out.trans (HB2.out.mono HBW.out.size))
     have d5:w2.cell? ⟨w.heap.size,5,none⟩= some vi:=by have:=HAW.out 5 vi rfl;rw[Nat.zero_add] at this;exact(HB2.out.cell (p:=⟨w.heap.size,5,none⟩) HLT.out).trans this
     have e5:w2.cell? ⟨pb,5,none⟩= some vi':=by have:=HB.out 5 vi' rfl;rw[Nat.zero_add] at this;exact(HB2.out.cell (p:=⟨pb,5,none⟩) HS2.out).trans this
     have HCF:=I (zbR its its' vi vi' w2 ((HI.out.below HBT.out fun _ _ _ h=>ValAt.under h HBT.out).more HBT.out.size|>.weak fun _ _ h=>h.more HBT.out.size) ((HI'.out.below HBT.out fun _ _ _ h=>ValAt.under h HBT.out).more HBT.out.size|>.weak fun _ _ h=>h.more HBT.out.size) (fun x hx y cs cs' z h1 h2=>IH.out x hx y cs cs' z h1 h2))
     clear d0 e0 HRW HAW HB
     go_wp2_with (first|(go_at_call 155;refine(HLF.out _).mono ?_;rintro e z1 ⟨rfl,rfl⟩)|(go_at_call 198;refine HCF.out.mono ?_;rintro e z1 ⟨rfl,hb3⟩;have HB3:=I hb3;clear hb3))
     go_ret
     exact⟨zH HO3.out.symm,HBT.out.trans (HB3.out.mono HBT.out.size)⟩
   ·have HO3:=I (HO2.out.trans (if_pos (.inl hrv)))
    have t2:(rv !=0)= true:=by simpa using hrv
    clear HO2 hrv
    go_wp2_with (first|(go_at_call 197;refine(HCK.out _).mono ?_;rintro e z1 ⟨rfl,rfl⟩)|(go_at_call 154;refine HRW.out.mono ?_;rintro e w2 ⟨rfl,hb2⟩;have HB2:=I hb2;clear hb2))
    go_ret
    exact⟨zH HO3.out.symm,HBW.out.trans (HB2.out.mono HBW.out.size)⟩
  ·have HO2:=I (HO.out.trans (if_pos hck))
   have t2:(ck !=0)= true:=by simpa using hck
   clear HO hck
   go_wp2_with (first|(go_at_call 197;refine(HCK.out _).mono ?_;rintro e z1 ⟨rfl,rfl⟩))
   go_ret
   exact⟨zH HO2.out.symm,HBW.out⟩
end
section
open Go Go.RowKit
mutual
def eqV:VT->VT->Bool
 | .mk k n f s ns its,.mk k' n' f' s' ns' its'=>
  if k≠k' then false else if k= 3 then(fOrd f f' ==some .eq) else if rowV k n n' f f' s s' ns ns'≠0 then false else if leafK k= true then true else eqL its its'
def eqL:List VT->List VT->Bool
 |[],[]=>true
 |a::l,b::r=>eqV a b && eqL l r
 |[],_::_=>false
 |_::_,[]=>false
end
theorem zbV {l r:List VT} {k:Nat} {x y:VT} (hx:l[k]?= some x) (hy:r[k]?= some y):eqL (l.drop k) (r.drop k)=(eqV x y && eqL (l.drop (k+1)) (r.drop (k+1))):=by
 rw[z08 hx,z08 hy,eqL]
theorem zbS {l r:List VT} {k:Nat} (hl:l.length<=k) (hr:r.length<=k):eqL (l.drop k) (r.drop k)= true:=by
 rw[List.drop_eq_nil_of_le hl,List.drop_eq_nil_of_le hr];simp[eqL]
theorem z8M:∀ {l r:List VT},l.length≠r.length->eqL l r= false
 |[],[],h=>absurd rfl h
 |[],_::_,_=>by simp[eqL]
 |_::_,[],_=>by simp[eqL]
 |a::l,b::r,h=>by
  rw[eqL,z8M (l:=l) (r:=r) (by simpa using h),Bool.and_false]
def z73 (b:Bool) (w:World) (e:Ending) (w':World):Prop:=e= .returned (.bool b)/\Below w.heap.size w w'
theorem zdS (l r:List VT) (u v:Value) (w:World) (hu:SlAt w w.heap.size 6 (ValAt w w.heap.size) u l) (hv:SlAt w w.heap.size 6 (ValAt w w.heap.size) v r)
  (hF:∀ x∈l,∀ y cs cs' z,ValAt z z.heap.size cs x->ValAt z z.heap.size cs' y->Calls Tryz.prog 120 #[.agg ⟨cs⟩,.agg ⟨cs'⟩] z (z73 (eqV x y) z)):
  Calls Tryz.prog 156 #[u,v,.func (.func 120) #[] #[]] w (z73 (eqL l r) w):=by
 obtain⟨A,ca,rfl,hl,ha⟩:=z0F hu
 obtain⟨D,cb,rfl,hr,hb⟩:=z0F hv
 by_cases hlen:l.length= r.length
 case neg=>
  have HR:=I (z8M hlen)
  have t1:((l.length:Int) !=(r.length:Int))= true:=by rw[bne_iff_ne];omega
  clear hlen ha hb hu hv hF
  go_enter Tryz.func156,Tryz.ntmps156
  go_wp2
  go_ret
  exact⟨za HR.out.symm,Below.refl _ w⟩
 have t1:((l.length:Int) !=(r.length:Int))= false:=by rw[hlen];exact bne_self_eq_false _
 have HLEN:=I hlen
 have HA:=I ha
 have HB:=I hb
 have HF:=I hF
 have HS:=I (fun k x y=>zbV (l:=l) (r:=r) (k:=k) (x:=x) (y:=y))
 have HT:=I (fun k=>zbS (l:=l) (r:=r) (k:=k))
 have H0:Hid (eqL (l.drop 0) (r.drop 0)= eqL l r):=I rfl
 have hl2:(l.length:Int)<=9223372036854775807:=by omega
 have hr2:(r.length:Int)<=9223372036854775807:=by omega
 clear ha hb hu hv hF hlen
 generalize eqL l r= res at*
 go_enter Tryz.func156,Tryz.ntmps156
 go_wp2
 go_loopg [17] l.length (fun q x u=>∃ k:Nat,k+q= l.length/\x= .int .i64 k/\Below w.heap.size w u/\eqL (l.drop k) (r.drop k)= res)
 case atStart=>exact⟨0,by omega,rfl,Below.refl _ _,H0.out⟩
 case round=>
  obtain⟨k,hk,rfl,hb,hres⟩:=hrel
  have HR:=I hres
  have HBK:=I hb
  clear hres hb
  cases gk with
  |zero=>
   obtain rfl:k= l.length:=by omega
   have hge: ¬ ((l.length:Int) <(l.length:Int)):=by omega
   have HV:=I ((HR.out).symm.trans (HT.out l.length (Nat.le_refl _) (by have:=HLEN.out;omega)))
   clear HR
   go_wp2
   go_ret
   exact⟨za HV.out.symm,HBK.out⟩
  |succ q=>
   have hlt:(k:Int) <(l.length:Int):=by omega
   have hkr:k < r.length:=by have:=HLEN.out;omega
   obtain⟨x,hx⟩:∃ x,l[k]?= some x:=⟨_,List.getElem?_eq_getElem (by omega)⟩
   obtain⟨b1,o1,rfl,hb1,c1⟩:=HA.out (by omega)
   obtain⟨cs,hcs,hvx⟩:=c1 k x hx
   have HR1:=I (zd hcs HBK.out hb1)
   have HVX:=I (ValAt.next hvx HBK.out)
   have HCL:=I (zi hvx)
   have HMX:=I (List.mem_of_getElem? hx)
   have HKX:=I hx
   clear c1 hcs hvx hx
   go_upto_region 6 with (first|((with_reducible refine zc 26 _ rfl ?hwa b1 (o1+k*6) cs _ rfl HR1.out Tryz.underlying26 rfl ?hia ?_);(case hwa=>exact wantA rfl);(case hia=>rw[HCL.out.1];kernel_rfl))|((with_reducible refine z09 26 _ _ rfl ?hwb wr ?znb cs ?hwldb ?hzb ?hxb ?hyb ?hib ?h1b ?_);(case hwldb=>rfl);(case hxb=>rfl);(case hyb=>rfl);(case hwb=>exact wantA rfl);(case hzb=>rw[HCL.out.1];rfl);(case hib=>rw[HCL.out.1];kernel_rfl);(case h1b=>exact HCL.out.2);intro Z hbx;have HX:=I hbx;clear hbx))
   have HBZ:=I (HBK.out.trans (HX.out.below.mono HBK.out.size))
   have HRA:=I HX.out.range
   have HVX2:=I (ValAt.next HVX.out HX.out.below)
   obtain⟨pa,hpa⟩:∃ pa,wr.heap.size= pa:=⟨_,rfl⟩
   rw[hpa] at HRA
   have HPA:Hid (pa < Z.heap.size):=I (hpa▸HX.out.size)
   rw[hpa]
   clear hpa HR1 HVX HX
   obtain⟨y,hy⟩:∃ y,r[k]?= some y:=⟨_,List.getElem?_eq_getElem hkr⟩
   obtain⟨b2,o2,rfl,hb2,c2⟩:=HB.out (by omega)
   obtain⟨cs',hcs,hvy⟩:=c2 k y hy
   have HR2:=I (zd hcs HBZ.out hb2)
   have HVY:=I (ValAt.next hvy HBZ.out)
   have HCM:=I (zi hvy)
   have hlt2:(k:Int) <(r.length:Int):=by omega
   have HV:=I ((HR.out).symm.trans (HS.out k x y HKX.out hy))
   clear c2 hcs hvy hy hkr
   go_upto_region 7 with (first|((with_reducible refine zc 26 _ rfl ?hwc b2 (o2+k*6) cs' _ rfl HR2.out Tryz.underlying26 rfl ?hic ?_);(case hwc=>exact wantA rfl);(case hic=>rw[HCM.out.1];kernel_rfl))|((with_reducible refine z09 26 _ _ rfl ?hwd Z ?znd cs' ?hwldd ?hzd ?hxd ?hyd ?I ?h1d ?_);(case hwldd=>rfl);(case hxd=>rfl);(case hyd=>rfl);(case hwd=>exact wantA rfl);(case hzd=>rw[HCM.out.1];rfl);(case I=>rw[HCM.out.1];kernel_rfl);(case h1d=>exact HCM.out.2);intro Z2 hbx;have HX2:=I hbx;clear hbx))
   have HBZ2:=I (HBZ.out.trans (HX2.out.below.mono HBZ.out.size))
   have HRA2:=I (zd HRA.out HX2.out.below HPA.out)
   have HRB2:=I HX2.out.range
   have HVX3:=I (ValAt.next HVX2.out HX2.out.below)
   have HVY3:=I (ValAt.next HVY.out HX2.out.below)
   obtain⟨pb,hpb⟩:∃ pb,Z.heap.size= pb:=⟨_,rfl⟩
   rw[hpb] at HRB2
   rw[hpb]
   have HC:=I (HF.out x HMX.out y cs cs' Z2 HVX3.out HVY3.out)
   clear hpb HX2 HR2 HVX2 HVY HRA HPA HVX3 HVY3
   generalize eqV x y= cv at*
   cases cv with
   |true=>
    have HV2:Hid (res= eqL (l.drop (k+1)) (r.drop (k+1))):=I (HV.out.trans (Bool.true_and _))
    clear HV
    go_wp2_with (first|((with_reducible refine zc 26 _ rfl ?hwe pa 0 cs _ rfl HRA2.out Tryz.underlying26 rfl ?hie ?_);(case hwe=>exact wantA rfl);(case hie=>rw[HCL.out.1];kernel_rfl))|((with_reducible refine zc 26 _ rfl ?hwf pb 0 cs' _ rfl HRB2.out Tryz.underlying26 rfl ?hif ?_);(case hwf=>exact wantA rfl);(case hif=>rw[HCM.out.1];kernel_rfl))|(go_at_call 120;refine HC.out.mono ?_;rintro e z ⟨rfl,hbz⟩;have HB3:=I hbz;clear hbz))
    go_roundg q
    case measure=>omega
    case rel=>exact⟨k+1,by omega,by go_num,HBZ2.out.trans (HB3.out.mono HBZ2.out.size),HV2.out.symm⟩
   |false=>
    have HV2:Hid (res= false):=I (HV.out.trans (Bool.false_and _))
    clear HV
    go_wp2_with (first|((with_reducible refine zc 26 _ rfl ?hwe pa 0 cs _ rfl HRA2.out Tryz.underlying26 rfl ?hie ?_);(case hwe=>exact wantA rfl);(case hie=>rw[HCL.out.1];kernel_rfl))|((with_reducible refine zc 26 _ rfl ?hwf pb 0 cs' _ rfl HRB2.out Tryz.underlying26 rfl ?hif ?_);(case hwf=>exact wantA rfl);(case hif=>rw[HCM.out.1];kernel_rfl))|(go_at_call 120;refine HC.out.mono ?_;rintro e z ⟨rfl,hbz⟩;have HB3:=I hbz;clear hbz))
    go_ret
    exact⟨za HV2.out.symm,HBZ2.out.trans (HB3.out.mono HBZ2.out.size)⟩
theorem zew:∀ (t t':VT) (cs cs':List Value) (w:World),ValAt w w.heap.size cs t->ValAt w w.heap.size cs' t'->Calls Tryz.prog 120 #[.agg ⟨cs⟩,.agg ⟨cs'⟩] w (z73 (eqV t t') w):=by
 intro t
 induction t using VT.ind with
 |h k n f s ns its ih=>
  intro t' cs cs' w hv hv'
  cases t' with
  |mk k' n' f' s' ns' its'=>
  have IH:=I ih
  have HVA:=I hv
  have HVB:=I hv'
  obtain⟨vn,vi,rfl,_,_,hf,_,hn,_,hi⟩:=hv.inv
  obtain⟨vn',vi',rfl,_,_,hf',_,hn',_,hi'⟩:=hv'.inv
  have HF:=I (And.intro (wf64 hf) (wf64 hf'))
  have HN:=I hn
  have HN':=I hn'
  have HI:=I hi
  have HI':=I hi'
  have HO:Hid (eqV (.mk k n f s ns its) (.mk k' n' f' s' ns' its')= if k≠k' then false else if k= 3 then(fOrd f f' ==some .eq) else if rowV k n n' f f' s s' ns ns'≠0 then false else if leafK k= true then true else eqL its its'):=I (by rw[eqV])
  clear ih hv hv' hf hf' hn hn' hi hi'
  generalize hres:eqV (.mk k n f s ns its) (.mk k' n' f' s' ns' its')= res at*
  clear hres
  go_enter Tryz.func120,Tryz.ntmps120
  go_upto_region 1 with (fail)
  have HA:=I (zq w [.int .i64 k,.int .i64 n,.float .f64 f,.string s,vn,vi] 26)
  have HB1:=I (ze w (.cells ⟨[.int .i64 k,.int .i64 n,.float .f64 f,.string s,vn,vi]⟩ 26))
  have HS1:=I (zt w (.cells ⟨[.int .i64 k,.int .i64 n,.float .f64 f,.string s,vn,vi]⟩ 26))
  have HSE:Hid ((w.alloc (.cells ⟨[.int .i64 k,.int .i64 n,.float .f64 f,.string s,vn,vi]⟩ 26)).heap.size= w.heap.size+1):=I (by simp)
  generalize w.alloc (.cells ⟨[.int .i64 k,.int .i64 n,.float .f64 f,.string s,vn,vi]⟩ 26)= W1 at*
  have HB:=I (zq W1 [.int .i64 k',.int .i64 n',.float .f64 f',.string s',vn',vi'] 26)
  have HB2:=I (ze W1 (.cells ⟨[.int .i64 k',.int .i64 n',.float .f64 f',.string s',vn',vi']⟩ 26))
  have HS2:=I (zt W1 (.cells ⟨[.int .i64 k',.int .i64 n',.float .f64 f',.string s',vn',vi']⟩ 26))
  generalize W1.alloc (.cells ⟨[.int .i64 k',.int .i64 n',.float .f64 f',.string s',vn',vi']⟩ 26)= W at*
  have HAW:=I (zd HA.out HB2.out HS1.out)
  have HBW:=I (HB1.out.trans (HB2.out.mono HB1.out.size))
  have HLT:=I (Nat.lt_of_lt_of_le HS1.out HB2.out.size)
  rw[HSE.out] at HB HS2
  obtain⟨pb,hpb⟩:∃ pb,w.heap.size+1= pb:=⟨_,rfl⟩
  rw[hpb] at HB HS2
  rw[hpb]
  have d0:W.cell? ⟨w.heap.size,0,none⟩= some (.int .i64 k):=by have:=HAW.out 0 _ rfl;simpa using this
  have e0:W.cell? ⟨pb,0,none⟩= some (.int .i64 k'):=by have:=HB.out 0 _ rfl;simpa using this
  have HRW:=I (z92 k k' n n' f f' s s' ns ns' vn vn' vi vi' w.heap.size pb W HAW.out HB.out ⟨HLT.out,HS2.out⟩ HF.out.1 HF.out.2 ((HN.out.below HBW.out fun _ _ _ h=>h).more HBW.out.size) ((HN'.out.below HBW.out fun _ _ _ h=>h).more HBW.out.size))
  have HLF:=I (fun w=>z7U k w)
  clear HA HB1 HS1 HSE HB2 hpb
  by_cases hck:k= k'
  ·subst hck
   have HO2:=I (HO.out.trans (if_neg (fun h=>h rfl)))
   clear HO
   by_cases hk3:k= 3
   ·subst hk3
    have HO3:Hid (res=(FloatKind.f64.format.order f f' ==some .eq)):=I (HO2.out.trans (if_pos rfl))
    have d2:W.cell? ⟨w.heap.size,2,none⟩= some (.float .f64 f):=by have:=HAW.out 2 _ rfl;simpa using this
    have e2:W.cell? ⟨pb,2,none⟩= some (.float .f64 f'):=by have:=HB.out 2 _ rfl;simpa using this
    clear HO2
    go_wp2_with (go_in)
    go_ret
    exact⟨za HO3.out.symm,HBW.out⟩
   have HO3:=I (HO2.out.trans (if_neg hk3))
   have t3:(k ==3)= false:=by simpa using hk3
   clear HO2 hk3
   generalize rowV k n n' f f' s s' ns ns'= rv at*
   by_cases hrv:rv= 0
   ·subst hrv
    have HO4:=I (HO3.out.trans (if_neg (fun h=>h rfl)))
    cases hlf:leafK k with
    |true=>
     have HO5:=I (HO4.out.trans (if_pos hlf))
     rw[hlf] at HLF
     clear HO3 HO4 hlf
     go_wp2_with (first|(go_at_call 154;refine HRW.out.mono ?_;rintro e w2 ⟨rfl,hb2⟩;have HB2:=I hb2;have d0':=(hb2.cell (p:=⟨w.heap.size,0,none⟩) HLT.out).trans d0;clear hb2)|(go_at_call 155;refine(HLF.out _).mono ?_;rintro e z1 ⟨rfl,rfl⟩))
     go_ret
     exact⟨za HO5.out.symm,HBW.out.trans (HB2.out.mono HBW.out.size)⟩
    |false=>
     have HO5:=I (HO4.out.trans (if_neg (fun h=>by rw[hlf] at h;cases h)))
     rw[hlf] at HLF
     clear HO3 HO4 hlf
     go_upto_region 7 with (first|(go_at_call 154;refine HRW.out.mono ?_;rintro e w2 ⟨rfl,hb2⟩;have HB2:=I hb2;have d0':=(hb2.cell (p:=⟨w.heap.size,0,none⟩) HLT.out).trans d0;clear hb2))
     have HBT:=I (HBW.out.trans (HB2.out.mono HBW.out.size))
     have d5:w2.cell? ⟨w.heap.size,5,none⟩= some vi:=by have:=HAW.out 5 vi rfl;rw[Nat.zero_add] at this;exact(HB2.out.cell (p:=⟨w.heap.size,5,none⟩) HLT.out).trans this
     have e5:w2.cell? ⟨pb,5,none⟩= some vi':=by have:=HB.out 5 vi' rfl;rw[Nat.zero_add] at this;exact(HB2.out.cell (p:=⟨pb,5,none⟩) HS2.out).trans this
     have HCF:=I (zdS its its' vi vi' w2 ((HI.out.below HBT.out fun _ _ _ h=>ValAt.under h HBT.out).more HBT.out.size|>.weak fun _ _ h=>h.more HBT.out.size) ((HI'.out.below HBT.out fun _ _ _ h=>ValAt.under h HBT.out).more HBT.out.size|>.weak fun _ _ h=>h.more HBT.out.size) (fun x hx y cs cs' z h1 h2=>IH.out x hx y cs cs' z h1 h2))
     clear d0 e0 HRW HAW HB
     go_wp2_with (first|(go_at_call 155;refine(HLF.out _).mono ?_;rintro e z1 ⟨rfl,rfl⟩)|(go_at_call 156;refine HCF.out.mono ?_;rintro e z1 ⟨rfl,hb3⟩;have HB3:=I hb3;clear hb3))
     go_ret
     exact⟨za HO5.out.symm,HBT.out.trans (HB3.out.mono HBT.out.size)⟩
   ·have HO4:=I (HO3.out.trans (if_pos hrv))
    have t2:(rv !=0)= true:=by simpa using hrv
    clear HO3 hrv
    go_wp2_with (first|(go_at_call 154;refine HRW.out.mono ?_;rintro e w2 ⟨rfl,hb2⟩;have HB2:=I hb2;clear hb2))
    go_ret
    exact⟨za HO4.out.symm,HBW.out.trans (HB2.out.mono HBW.out.size)⟩
  ·have HO2:=I (HO.out.trans (if_pos hck))
   have t2:(k !=k')= true:=by simpa using hck
   clear HO hck
   go_wp2
   go_ret
   exact⟨za HO2.out.symm,HBW.out⟩
end
section
open Go
theorem z8V {fab fbc fac gab gbc gac:Int} (p0:fab<=0->fbc<=0->fac<=0) (p1:fab < 0->fbc<=0->fac < 0) (p2:fab<=0->fbc < 0->fac < 0) (hg:fab= 0->fbc= 0->gab<=0->gbc<=0->gac<=0)
  (h1:(if fab≠0 then fab else gab)<=0) (h2:(if fbc≠0 then fbc else gbc)<=0):(if fac≠0 then fac else gac)<=0:=by
 by_cases e1:fab= 0
 ·rw[if_neg (by omega)] at h1
  by_cases e2:fbc= 0
  ·rw[if_neg (by omega)] at h2
   have h3:=p0 (by omega) (by omega)
   by_cases e3:fac= 0
   ·rw[if_neg (by omega)];exact hg e1 e2 h1 h2
   ·rw[if_pos e3];exact h3
  ·rw[if_pos e2] at h2
   have:=p2 (by omega) (by omega)
   rw[if_pos (by omega)];omega
 ·rw[if_pos e1] at h1
  have h4:fbc<=0:=by
   by_cases e2:fbc= 0
   ·omega
   ·rw[if_pos e2] at h2;exact h2
  have:=p1 (by omega) h4
  rw[if_pos (by omega)];omega
structure Lone where
 n:Int
 f:Nat
 s:ByteArray
 ns:List ByteArray
def rowL (k:Int) (a b:Lone):Int:=rowV k a.n b.n a.f b.f a.s b.s a.ns b.ns
theorem z2A (k:Int):Cmp (rowL k):=by
 by_cases h1:k= 1\/k= 2
 ·have:rowL k= fun a b=>cmpI a.n b.n:=funext fun a=>funext fun b=>by unfold rowL rowV;rw[if_pos h1]
  rw[this];exact cmpI_good.on Lone.n
 by_cases h3:k= 3
 ·have:rowL k= fun a b=>cmpF a.f b.f:=funext fun a=>funext fun b=>by unfold rowL rowV;rw[if_neg h1,if_pos h3]
  rw[this];exact cmpF_good.on Lone.f
 by_cases h4:k= 4
 ·have:rowL k= fun a b=>cmpS a.s b.s:=funext fun a=>funext fun b=>by unfold rowL rowV;rw[if_neg h1,if_neg h3,if_pos h4]
  rw[this];exact cmpS_good.on Lone.s
 by_cases h5:k= 5
 ·have:rowL k= fun a b=>0:=funext fun a=>funext fun b=>by unfold rowL rowV;rw[if_neg h1,if_neg h3,if_neg h4,if_pos h5]
  rw[this];exact⟨fun _ _=>rfl,fun _ _ _ _ _=>Int.le_refl 0⟩
 by_cases h6:k= 6
 ·have:rowL k= fun a b=>listC cmpS a.ns b.ns:=funext fun a=>funext fun b=>by unfold rowL rowV;rw[if_neg h1,if_neg h3,if_neg h4,if_neg h5,if_pos h6]
  rw[this];exact cmpS_good.list.on Lone.ns
 ·have:rowL k= fun a b=>if cmpI a.n b.n≠0 then cmpI a.n b.n else if cmpS a.s b.s≠0 then cmpS a.s b.s else listC cmpS a.ns b.ns:=funext fun a=>funext fun b=>by unfold rowL rowV or3;rw[if_neg h1,if_neg h3,if_neg h4,if_neg h5,if_neg h6]
  rw[this];exact(cmpI_good.on Lone.n).then ((cmpS_good.on Lone.s).then (cmpS_good.list.on Lone.ns))
def VT.kind:VT->Int| .mk k _ _ _ _ _=>k
def VT.lone:VT->Lone| .mk _ n f s ns _=>⟨n,f,s,ns⟩
def restV (k:Int) (l r:List VT):Int:=if leafK k= true then 0 else listC ordV l r
theorem z5Z (a b:VT):ordV a b= if cmpI a.kind b.kind≠0 then cmpI a.kind b.kind else if rowL a.kind a.lone b.lone≠0 then rowL a.kind a.lone b.lone else restV a.kind a.items b.items:=by
 cases a with
 |mk k n f s ns its=>
  cases b with
  |mk k' n' f' s' ns' its'=>
   rw[ordV,z4a]
   show _= if cmpI k k'≠0 then cmpI k k' else if rowV k n n' f f' s s' ns ns'≠0 then rowV k n n' f f' s s' ns ns' else if leafK k= true then 0 else listC ordV its its'
   by_cases h:cmpI k k'≠0
   ·rw[if_pos h,if_pos h]
   ·rw[if_neg h,if_neg h]
    by_cases h2:rowV k n n' f f' s s' ns ns'≠0
    ·rw[if_pos (.inl h2),if_pos h2]
    ·rw[if_neg h2]
     by_cases h3:leafK k= true
     ·rw[if_pos (.inr h3),if_pos h3];omega
     ·rw[if_neg (by rintro(h|h);exact h2 h;exact h3 h),if_neg h3]
theorem z54 {a b:Int} (h:cmpI a b= 0):a= b:=by
 have:=z00 a b
 omega
theorem z2w (a:VT):∀ b,ordV b a= - ordV a b:=by
 induction a using VT.ind with
 |h k n f s ns its ih=>
  intro b
  generalize ha:VT.mk k n f s ns its= a
  have hit:a.items= its:=by rw[← ha];rfl
  rw[z5Z b a,z5Z a b]
  have h1:=cmpI_good.anti a.kind b.kind
  by_cases h0:cmpI a.kind b.kind= 0
  ·have hk:=z54 h0
   rw[if_neg (show ¬ cmpI b.kind a.kind≠0 by omega),if_neg (show ¬ cmpI a.kind b.kind≠0 by omega),← hk]
   have h2:=(z2A a.kind).anti a.lone b.lone
   by_cases h3:rowL a.kind a.lone b.lone= 0
   ·rw[if_neg (show ¬ rowL a.kind b.lone a.lone≠0 by omega),if_neg (show ¬ rowL a.kind a.lone b.lone≠0 by omega)]
    unfold restV
    split
    ·rfl
    ·rw[hit];exact z3i its b.items fun x hx y _=>ih x hx y
   ·rw[if_pos (show rowL a.kind b.lone a.lone≠0 by omega),if_pos h3];exact h2
  ·rw[if_pos (show cmpI b.kind a.kind≠0 by omega),if_pos h0];exact h1
theorem z4P {a x:VT} (h:x∈a.items):SizeOf.sizeOf x < SizeOf.sizeOf a:=by
 cases a with
 |mk k n f s ns its=>
  have:=List.sizeOf_lt_of_mem (show x∈its from h)
  simp
  omega
theorem z5H:∀ (m:Nat) (a b c:VT),SizeOf.sizeOf a+SizeOf.sizeOf b+SizeOf.sizeOf c<=m->ordV a b<=0->ordV b c<=0->ordV a c<=0
 |0,a,b,c,hm,_,_=>by
  have:0 < SizeOf.sizeOf a:=by cases a;simp;omega
  omega
 |m+1,a,b,c,hm,h1,h2=>by
  have ih:=z5H m
  rw[z5Z] at h1 h2 ⊢
  refine z8V (cmpI_good.trans _ _ _) cmpI_good.lt_le cmpI_good.le_lt (fun e1 e2=> ?_) h1 h2
  have k1:=z54 e1
  have k2:=z54 e2
  rw[← k1]
  refine z8V ((z2A a.kind).trans _ _ _) (z2A a.kind).lt_le (z2A a.kind).le_lt fun _ _=> ?_
  unfold restV
  split
  ·intro _ _;omega
  ·refine z2E a.items b.items c.items fun x hx y hy z hz=> ?_
   have s1:=z4P hx
   have s2:=z4P hy
   have s3:=z4P hz
   have t1:=ih x y z (by omega)
   have t2:=ih y z x (by omega)
   have t3:=ih z x y (by omega)
   have a1:=z2w x y
   have a2:=z2w y z
   have a3:=z2w x z
   refine⟨t1,fun h h'=> ?_,fun h h'=> ?_⟩
   ·rcases Int.lt_or_le (ordV x z) 0 with h3|h3
    ·exact h3
    ·have:=t2 h' (by omega);omega
   ·rcases Int.lt_or_le (ordV x z) 0 with h3|h3
    ·exact h3
    ·have:=t3 (by omega) h;omega
theorem ordV_good:Cmp ordV:=⟨z2w,fun a b c=>z5H _ a b c (Nat.le_refl _)⟩
end
end Go.Proofs.YtmpbepjjbaeebaaGreatDoor
