/- Parts of a proof: ECnt, VisP, Levels, Levels2, Lex1, Lex2, Lex3, Lex4, Lex5, Lex6, Parse. -/
import Derived.Test.YteolfamhmfidbaaGreatDoorPackJ7
set_option maxHeartbeats 8000000
set_option maxRecDepth 100000
set_option linter.unusedVariables false
set_option linter.unusedSimpArgs false
namespace Go.Proofs.YteolfamhmfidbaaGreatDoor
section
open Go Go.RowKit
mutual
def cntE:ET->Nat->Nat
 | .mk _ _ _ _ its,n=>cntEL its (n+1)
def cntEL:List ET->Nat->Nat
 |[],n=>n
 |a::l,n=>if 500<=n then n else cntEL l (cntE a n)
end
theorem z8c:∀ (l:List ET) (n:Nat),(∀ x∈l,∀ m,m < 500->cntE x m<=500)->n<=500->cntEL l n<=500
 |[],n,_,h=>by rw[cntEL];exact h
 |a::l,n,h,hn=>by
  rw[cntEL]
  by_cases h5:500<=n
  ·rw[if_pos h5];exact hn
  ·rw[if_neg h5];exact z8c l _ (fun x hx=>h x (List.mem_cons_of_mem _ hx)) (h a (List.mem_cons_self ..) n (by omega))
theorem z1i (t:ET):∀ m,m < 500->cntE t m<=500:=by
 induction t using ET.ind with
 |h k s v ns its ih=>exact fun m hm=>by rw[cntE];exact z8c its _ ih (by omega)
theorem z3D {l:List ET} {k:Nat} {x:ET} (h:l[k]?= some x):l.drop k= x::l.drop (k+1):=by
 obtain⟨h1,h2⟩:=List.getElem?_eq_some_iff.1 h
 rw[List.drop_eq_getElem_cons h1,h2]
theorem z22 {l:List ET} {k m:Nat} {x:ET} (h:l[k]?= some x):cntEL (l.drop k) m= if 500<=m then m else cntEL (l.drop (k+1)) (cntE x m):=by
 rw[z3D h,cntEL]
theorem z2H {l:List ET} {m:Nat}:cntEL (l.drop l.length) m= m:=by
 rw[List.drop_eq_nil_of_le (Nat.le_refl _),cntEL]
theorem eslen {w:World} {B:Nat} {cs:List Value} {x:ET} (h:ExpAt w B cs x):cs.length= 10:=by
 cases h;rfl
theorem z7K:∀ (t:ET) (m:Nat) (cs:List Value) (p o:Nat) (w:World),m < 500->w.rangeAt p o cs->ExpAt w w.heap.size cs t->
  Calls Tryz.prog 92 #[.pointer (some ⟨p,o,none⟩),.int .i64 m] w fun e w'=>e= .returned (.int .i64 (cntE t m:Nat))/\w'= w:=by
 intro t
 induction t using ET.ind with
 |h k s t ns its ih=>
  intro m cs p o w hm hr hv
  have IH:=I ih
  obtain⟨v0,v1,v2,v3,v4,v5,vn,vi,rfl,_,_,_,_,hil,hi⟩:=hv.inv
  obtain⟨_,A,c,rfl,hA⟩:=hi
  unfold maxLen at hil
  have HA:=I hA
  have d5:=hr 9 _ rfl
  have HS:=I (fun k m x=>z22 (l:=its) (k:=k) (m:=m) (x:=x))
  have HE:=I (fun m=>z2H (l:=its) (m:=m))
  have HLE:=I (fun x m hm=>z1i x m hm)
  have H0:Hid (cntEL (its.drop 0) (m+1)= cntE (.mk k s t ns its) m):=I (by rw[cntE];rfl)
  have hm2:(m:Int) < 500:=by omega
  clear ih hA hr hv
  generalize cntE (.mk k s t ns its) m= res at*
  go_enter Tryz.func92,Tryz.ntmps92
  go_wp2
  go_loopg [1,13] its.length (fun q n x u=>∃ (j m:Nat),j+q= its.length/\x= .int .i64 j/\n= .int .i64 m/\m<=500/\u= w/\cntEL (its.drop j) m= res)
  case atStart=>exact⟨0,m+1,by omega,rfl,by go_num,by omega,rfl,H0.o⟩
  case round=>
   obtain⟨j,m,hj,rfl,rfl,hm5,rfl,hres⟩:=hrel
   have HR:=I hres
   clear hres
   cases gk with
   |zero=>
    obtain rfl:j= its.length:=by omega
    have hge: ¬ ((its.length:Int) <(its.length:Int)):=by omega
    have HV:=I (HR.o.symm.trans (HE.o m))
    go_wp2
    go_ret
    exact⟨by rw[HV.o];rfl,rfl⟩
   |succ q=>
    have hlt:(j:Int) <(its.length:Int):=by omega
    obtain⟨x,hx⟩:∃ x,its[j]?= some x:=⟨_,List.getElem?_eq_getElem (by omega)⟩
    obtain⟨b,o',rfl,hbl,hc⟩:=HA.o (by omega)
    obtain⟨ks,hkl,hks,hvx⟩:=hc j x hx
    have HV:=I (HR.o.symm.trans (HS.o j m x hx))
    by_cases h5:500<=m
    ·have HV2:=I (HV.o.trans (if_pos h5))
     have t1:(500:Int)<=(m:Int):=by omega
     clear hc hks hvx hx HV
     go_wp2
     go_ret
     exact⟨by rw[HV2.o];rfl,rfl⟩
    ·have HV2:=I (HV.o.trans (if_neg h5))
     have t1: ¬ ((500:Int)<=(m:Int)):=by omega
     have HC:=I (IH.o x (List.mem_of_getElem? hx) m ks b (o'+j*10) wr (by omega) hks hvx)
     have hle:=HLE.o x m (by omega)
     clear hc hks hvx hx HV h5
     go_wp2_with (go_at_call 92;refine HC.o.mono ?_;rintro e z ⟨rfl,rfl⟩)
     go_roundg q
     case measure=>omega
     case rel=>exact⟨j+1,_,by omega,by go_num,rfl,hle,rfl,HV2.o.symm⟩
theorem zab (t:ET) (cs:List Value) (w:World) (hv:ExpAt w w.heap.size cs t):Calls Tryz.prog 56 #[.agg ⟨cs⟩] w fun e w'=>e= .returned (.int .i64 (cntE t 0:Nat))/\Below w.heap.size w w':=by
 have HB1:=I (zc w (.cells ⟨cs⟩ 30))
 have HC:=I (z7K t 0 cs w.heap.size 0 (w.alloc (.cells ⟨cs⟩ 30)) (by decide) (zm w cs 30) ((hv.under HB1.o).more HB1.o.size))
 go_enter Tryz.func56,Tryz.ntmps56
 go_wp2_with (go_at_call 92;refine HC.o.mono ?_;rintro e z ⟨rfl,rfl⟩)
 go_ret
 exact⟨rfl,HB1.o⟩
theorem z9j:∀ (t:ET) (m:Nat) (cs:List Value) (w:World),m < 500->ExpAt w w.heap.size cs t->
  Calls Tryz.prog 53 #[.agg ⟨cs⟩,.int .i64 m] w fun e w'=>e= .returned (.int .i64 (cntE t m:Nat))/\Below w.heap.size w w':=by
 intro t
 induction t using ET.ind with
 |h k s t ns its ih=>
  intro m cs w hm hv
  have IH:=I ih
  obtain⟨v0,v1,v2,v3,v4,v5,vn,vi,rfl,_,_,_,_,hil,hi⟩:=hv.inv
  obtain⟨_,A,c,rfl,hA⟩:=hi
  unfold maxLen at hil
  have HA:=I hA
  have HS:=I (fun k m x=>z22 (l:=its) (k:=k) (m:=m) (x:=x))
  have HE:=I (fun m=>z2H (l:=its) (m:=m))
  have HLE:=I (fun x m hm=>z1i x m hm)
  have HCE:Hid (∀ k m,500<=m->cntEL (its.drop k) m= m):=I (fun k m h=>by
   cases its.drop k with
   |nil=>rw[cntEL]
   |cons a l=>rw[cntEL,if_pos h])
  have H0:Hid (cntEL (its.drop 0) (m+1)= cntE (.mk k s t ns its) m):=I (by rw[cntE];rfl)
  clear ih hA hv
  generalize cntE (.mk k s t ns its) m= res at*
  go_enter Tryz.func53,Tryz.ntmps53
  go_upto_region 1 with (fail)
  have hb0:=zc w (.cells ⟨[.int .i64 k,.string s,v0,v1,v2,v3,v4,v5,vn,.slice A its.length c]⟩ 30)
  have hz0:=zw w (.cells ⟨[.int .i64 k,.string s,v0,v1,v2,v3,v4,v5,vn,.slice A its.length c]⟩ 30)
  have c5:=zp w ⟨[.int .i64 k,.string s,v0,v1,v2,v3,v4,v5,vn,.slice A its.length c]⟩ 30 9
  generalize w.alloc (.cells ⟨[.int .i64 k,.string s,v0,v1,v2,v3,v4,v5,vn,.slice A its.length c]⟩ 30)= W at*
  have HB:=I hb0
  have C5:=I c5
  have HSZ:=I hz0
  clear hb0 c5 hz0
  have hm2:(m:Int) < 500:=by omega
  go_wp2
  go_loopg [1,5] its.length (fun g u i wr=>∃ (j m:Nat),j+g= its.length/\i= .int .i64 j/\u= .int .i64 m/\m<=500/\Below W.heap.size W wr/\cntEL (its.drop j) m= res)
  case atStart=>exact⟨0,m+1,by omega,rfl,by go_num,by omega,Below.refl _ _,H0.o⟩
  case round=>
   obtain⟨j,m,hj,rfl,rfl,hm5,hb,hres⟩:=hrel
   have HB1:=I hb
   have HR:=I hres
   have d5:=(hb.cell (p:=⟨w.heap.size,9,none⟩) HSZ.o).trans C5.o
   clear hb hres
   simp only[List.getElem?_toArray,List.getElem?_cons_succ,List.getElem?_cons_zero] at d5
   have hm5':(m:Int)<=500:=by omega
   cases gk with
   |zero=>
    obtain rfl:j= its.length:=by omega
    have hge: ¬ ((its.length:Int) <(its.length:Int)):=by omega
    have HV:=I (HR.o.symm.trans (HE.o m))
    go_wp2
    go_ret
    exact⟨by rw[HV.o];go_num,HB.o.trans (HB1.o.mono HB.o.size)⟩
   |succ g=>
    have hlt:(j:Int) <(its.length:Int):=by omega
    by_cases h0:m < 500
    ·have hz2:w.heap.size<=wr.heap.size:=Nat.le_trans HB.o.size HB1.o.size
     obtain⟨y,hy⟩:∃ y,its[j]?= some y:=⟨_,List.getElem?_eq_getElem (by omega)⟩
     obtain⟨b,o,rfl,hbb,hc⟩:=HA.o (by omega)
     obtain⟨cs,hcl,hr,hR⟩:=hc j y hy
     have hB2:=HB.o.trans (HB1.o.mono HB.o.size)
     have HV:=I (HR.o.symm.trans (HS.o j m y hy))
     have HV2:=I (HV.o.trans (if_neg (by omega)))
     have HR1:=I (za hr hB2 hbb)
     have HC:=I (IH.o y (List.mem_of_getElem? hy) m cs wr h0 ((hR.under hB2).more hB2.size))
     have HCL:=I hcl
     have hle:=HLE.o y m h0
     have h0':(m:Int) < 500:=by omega
     clear hc hr hR hB2 hy HV h0
     go_wp2_with (first|((with_reducible refine z7 30 _ rfl ?_ b (o+j*10) cs _ rfl HR1.o Tryz.underlying30 rfl ?_ ?_);(exact wA rfl);rw[HCL.o];kernel_rfl)|(go_at_call 53;refine HC.o.mono ?_;rintro e w' ⟨rfl,hb⟩;have HB2:=I hb;clear hb))
     go_roundg g
     case measure=>omega
     case rel=>exact⟨j+1,_,by omega,by go_num,rfl,hle,HB1.o.trans (HB2.o.mono HB1.o.size),HV2.o.symm⟩
    ·have HV:=I (HR.o.symm.trans (HCE.o j m (by omega)))
     have h0': ¬ ((m:Int) < 500):=by omega
     have hm500:m= 500:=by omega
     go_wp2
     all_goals
      go_ret
      exact⟨by rw[HV.o,hm500];rfl,HB.o.trans (HB1.o.mono HB.o.size)⟩
theorem z4Q (t:ET) (cs:List Value) (w:World) (hv:ExpAt w w.heap.size cs t):Calls Tryz.prog 26 #[.agg ⟨cs⟩] w fun e w'=>e= .returned (.int .i64 (cntE t 0:Nat))/\Below w.heap.size w w':=by
 have HCL:=I (eslen hv)
 have HV:=I hv
 clear hv
 go_enter Tryz.func26,Tryz.ntmps26
 go_upto_region 1 with (fail)
 have HB:=I (zc w (.cells ⟨cs⟩ 30))
 have HR:=I (zm w cs 30)
 generalize w.alloc (.cells ⟨cs⟩ 30)= W at*
 have HC:=I (z9j t 0 cs W (by omega) ((HV.o.under HB.o).more HB.o.size))
 go_wp2_with (first|((with_reducible refine z7 30 _ rfl ?_ w.heap.size 0 cs _ rfl HR.o Tryz.underlying30 rfl ?_ ?_);(exact wA rfl);rw[HCL.o];kernel_rfl)|(go_at_call 53;refine HC.o.mono ?_;rintro e w' ⟨rfl,hb⟩;have HB2:=I hb;clear hb))
 go_ret
 exact⟨rfl,HB.o.trans (HB2.o.mono HB.o.size)⟩
end
section
open Go Go.RowKit
mutual
def visE:ET->Nat->List ByteArray
 | .mk k s v ns its,n=>(if k= 2 then[s] else[]) ++ visEL its (n+1)
def visEL:List ET->Nat->List ByteArray
 |[],_=>[]
 |a::l,n=>if 500<=n then[] else visE a n ++ visEL l (cntE a n)
end
theorem z5n {l:List ET} {j n:Nat} {x:ET} (h:l[j]?= some x):visEL (l.drop j) n= if 500<=n then[] else visE x n ++ visEL (l.drop (j+1)) (cntE x n):=by
 rw[z3D h,visEL]
theorem z77 {l:List ET} {n:Nat}:visEL (l.drop l.length) n=[]:=by
 rw[List.drop_eq_nil_of_le (Nat.le_refl _),visEL]
theorem z7h {l:List ET} {n:Nat} (h:500<=n):visEL l n=[]:=by
 cases l with
 |nil=>rw[visEL]
 |cons a l=>rw[visEL,if_pos h]
end
section
open Go Go.RowKit
section
variable {P:Program} {ops:Array Oper} {rest:List Oper} {o:Oper} {a:Act} {w:World} {Q:Exit->Act->World->Prop}
theorem z0x (T:TypeId) (x y:Operand) (ho:o.op= .store T x y) (hn:o.dst= none) (hw:Region.wanted o (yielded ops a.tmps)= true) (w0:World) (z:Array Value) (cs:List Value) (hwld:w= w0.alloc (.cells z T)) (hz:z.size= cs.length)
  (hx:a.eval x= .pointer (some ⟨w0.heap.size,0,none⟩)) (hy:a.eval y= .agg cs.toArray) (hi:(P.info? T).map (·.size)= some cs.length) (h1:∀ v∈cs,v.oneCell'= true)
  (h:∀ Z,Whole T Z w0.heap.size cs->Below w0.heap.size w0 Z->w0.heap.size < Z.heap.size->wpList P ops Q rest a Z):wpList P ops Q (o::rest) a w:=by
 subst hwld
 refine zd T x y ho hn hw w0.heap.size z.toList cs (by simpa using Whole.new w0 z.toList T) (by simpa using hz) hx hy hi h1 fun Z hZ hb=>h Z hZ ((zc w0 _).trans (hb.below (by simp) (Nat.le_refl _) (Nat.le_refl _))) hZ.lt
end
section
variable {pb tb c:Nat} {E:Int} {toks:List Tok}
theorem z5p {i j k h:Nat} {x z:ET} (hsub:PCon pb tb c E toks 235 i j h x) (hl:PL 235 [(⟨#[43]⟩,5),(⟨#[45]⟩,6)] h pb tb c E toks x j z k):PCon pb tb c E toks 221 i k h z:=by
 intro w d h h0 hd
 have HSUB:=I hsub
 have HPL:=I hl
 clear hsub hl
 go_enter Tryz.func221,Tryz.ntmps221
 go_upto_region 1 with (fail)
 have HR0:=I (Whole.new w zEc 30)
 have HB0:=I (zc w (.cells zEc.toArray 30))
 have hz:=z0v
 rw[hz]
 clear hz
 have HRW:Hid (w.heap.size <(w.alloc (.cells zEc.toArray 30)).heap.size):=I (by simp)
 generalize w.alloc (.cells zEc.toArray 30)= W at*
 obtain⟨p,hp⟩:∃ p,w.heap.size= p:=⟨_,rfl⟩
 rw[hp] at HR0 HRW
 rw[hp]
 have HP:=I hp
 have HS0:=I (h.keep HB0.o)
 have HPN:Hid (p≠pb/\p≠tb):=I ⟨by have:=h.lt;omega,by have:=h.lt;omega⟩
 have H:=I h
 have HD:=I (And.intro h0 hd)
 clear hp h h0 hd
 go_upto_region 2 with (first
  |(go_at_call 235;refine(HSUB.o W d HS0.o HD.o.1 HD.o.2).mono ?_;rintro e w1 ⟨cs0,rfl,hk,h1,h2⟩;have hl:=hk.len;have HL0:=I hl;have HK0:=I hk;have HS1:=I h1;have HB1:=I h2;clear hl hk h1 h2)
  |((with_reducible refine z0x 30 _ _ rfl rfl ?hwe w1 ?zne cs0 ?hz1 ?hz2 ?hz3 ?hz4 ?hz5 ?hz6 ?_);(case hwe=>exact wA rfl);(case hz1=>rfl);(case hz2=>rw[HL0.o];rfl);(case hz3=>rfl);(case hz4=>rfl);(case hz5=>rw[HL0.o];kernel_rfl);(case hz6=>exact HK0.o.one);intro W2 hz hb hlt;have HX2:=I hz;have HB2:=I hb;have HLT2:=I hlt;clear hz hb hlt))
 obtain⟨X,hX⟩:∃ X,w1.heap.size= X:=⟨_,rfl⟩
 rw[hX] at HX2 HB2 HLT2
 rw[hX]
 have hXX:=hX
 have HXG:Hid (p < X/\X≠pb/\X≠tb):=I ⟨by have:=HRW.o;have:=HB1.o.size;omega,by have:=HS1.o.lt;omega,by have:=HS1.o.lt;omega⟩
 have hB12:Below w1.heap.size w1 W2:=by rw[hX];exact HB2.o
 have HR2:=I ((HR0.o.keep (HB1.o.block p HRW.o HPN.o.1 HPN.o.1)).keep (hB12.block p (by rw[hX];exact HXG.o.1)))
 have HS2:=I (HS1.o.keep hB12)
 have HK2:Hid (KeptP (fun b=>p < b/\b≠X) W2 cs0 x):=I (HK0.o.to (fun b h1 h2=>⟨⟨by have:=HRW.o;omega,by omega⟩,hB12.block b h2⟩) hB12.size)
 have HBW2:Hid (But w W2 pb pb):=I ((But.of_below HB0.o pb pb).trans (HB1.o.trans (But.of_below hB12 pb pb)))
 clear hX hXX hB12 HB1 HB2 HLT2 HK0 HS1 HS0 HR0
 go_wp2
 go_loopg [] (toks.length - j) (fun q u=>∃ (x:ET) (i:Nat) (cs:List Value),PL 235 [(⟨#[43]⟩,5),(⟨#[45]⟩,6)] h pb tb c E toks x i z k/\q= toks.length - i/\Whole 30 u X cs/\Whole 30 u p zEc/\KeptP (fun b=>p < b/\b≠X) u cs x/\PSt pb tb c E toks u i d/\But w u pb pb)
 case atStart=>exact⟨x,j,cs0,HPL.o,rfl,HX2.o,HR2.o,HK2.o,HS2.o,HBW2.o⟩
 case round=>
  clear HX2 HR2 HK2 HS2 HBW2 HL0 HPL
  obtain⟨x,i,cs,hpl,hq,hx,hr,hk,hs,hb⟩:=hrel
  have HX:=I hx
  have HR:=I hr
  have HK:=I hk
  have HS:=I hs
  have HB:=I hb
  have HGQ:=I hq
  clear hx hr hk hs hb hq
  cases hpl with
  |done _ _ hno=>
   have HNO:=I hno
   clear hno
   go_upto_region 4 with (go_at_call 125;refine(zN HS.o (HNO.o (⟨#[43]⟩,5) (by simp))).mono ?_;rintro e v0 ⟨rfl,h1,h2⟩;have HT0:=I h1;have HTB0:=I h2;clear h1 h2)
   go_upto_region 6 with (go_at_call 125;refine(zN HT0.o (HNO.o (⟨#[45]⟩,6) (by simp))).mono ?_;rintro e v1 ⟨rfl,h1,h2⟩;have HT1:=I h1;have HTB1:=I h2;clear h1 h2)
   have HTB:=I (HTB0.o.trans HTB1.o)
   have HXv:=I (HX.o.keep (HTB.o.block X HX.o.lt HXG.o.2.1 HXG.o.2.1))
   have HRv:=I (HR.o.keep (HTB.o.block p HR.o.lt HPN.o.1 HPN.o.1))
   have HKv:Hid (KeptP (fun b=>p < b/\b≠X) v1 cs z):=I (HK.o.to (fun b h1 h2=>⟨h1,HTB.o.block b h2 (by have:=h1.1;have:=HPN.o;have:=HP.o;have:=H.o.lt;omega) (by have:=h1.1;have:=HPN.o;have:=HP.o;have:=H.o.lt;omega)⟩) HTB.o.size)
   have HBv:=I (HB.o.trans HTB.o)
   clear HX HR HK
   have HX:=HXv
   have HK:=HKv
   have HXR:=I (HX.o.range)
   have HLX:=I (HK.o.len)
   go_wp2_with (first
    |((with_reducible refine z7 30 _ rfl ?_ X 0 cs _ rfl HXR.o Tryz.underlying30 rfl ?_ ?_);exact wA rfl;rw[HLX.o];kernel_rfl)
    |((with_reducible refine zd 30 _ _ rfl rfl ?_ p zEc cs HRv.o ?_ ?_ ?_ ?_ ?_ ?_);exact wA rfl;rw[HLX.o];rfl;rfl;rfl;rw[HLX.o];kernel_rfl;exact HK.o.one;intro Z hz hb;have HZ:=I hz;have HZB:=I hb;clear hz hb))
   (try simp only[Exit.inBlock,Exit.then])
   refine bodyPost_ret (zH rfl _ _ p cs HLX.o rfl HZ.o) rfl ?_
   have hp:=HP.o
   refine⟨cs,rfl,?_,HT1.o.under p HPN.o.1 HPN.o.2 HZB.o,zT HBv.o HZB.o (by omega)⟩
   exact KeptP.to (q:=fun b=>w.heap.size<=b) HK.o (fun b h1 h2=>⟨by have:=h1.1;show w.heap.size<=b;omega,HZB.o.block b h2 (by have:=h1.1;omega) (by have:=h1.1;omega)⟩) HZB.o.size
  |step _ _ y j z _ sg hmem his hsub hlt hrest=>
   have HSUB2:=I hsub
   have HREST:=I hrest
   have HLT:=I hlt
   have HIS:=I his
   clear hsub hrest hlt his
   simp only[List.mem_cons,List.not_mem_nil,or_false] at hmem
   rcases hmem with rfl|rfl
   ·go_upto_region 3 with (go_at_call 125;refine(z0H HS.o HIS.o).mono ?_;rintro e v0 ⟨rfl,h1,h2⟩;have HT0:=I h1;have HTB0:=I h2;clear h1 h2)
    have HTB:=I HTB0.o
    have HXv:=I (HX.o.keep (HTB.o.block X HX.o.lt HXG.o.2.1 HXG.o.2.1))
    have HRv:=I (HR.o.keep (HTB.o.block p HR.o.lt HPN.o.1 HPN.o.1))
    have HKv:Hid (KeptP (fun b=>p < b/\b≠X) v0 cs x):=I (HK.o.to (fun b h1 h2=>⟨h1,HTB.o.block b h2 (by have:=h1.1;have:=HPN.o;have:=HP.o;have:=H.o.lt;omega) (by have:=h1.1;have:=HPN.o;have:=HP.o;have:=H.o.lt;omega)⟩) HTB.o.size)
    have HBv:=I (HB.o.trans HTB.o)
    have hs:Whole 30 v0.drew X cs:=HXv.o
    refine zG 4 [(0,true),(1,true),(2,false),(3,false)]
     (fun z=>Whole 30 z X cs) (by kernel_rfl) (by kernel_rfl) rfl (by intro c a d v w h;cases d<;>exact h) ?_
    refine z8 (some 8) (.agg ⟨cs⟩) _ rfl rfl (by exact wA rfl) hs (fun z hz=>zD 30 rfl X 0 cs _ rfl hz.range Tryz.underlying30 rfl (by rw[HK.o.len];kernel_rfl)) ?_
    go_frame
    refine zh (some 9) (.pointer (some ⟨pb,0,none⟩)) _ _ rfl rfl rfl (by exact wA rfl) hs rfl ?_
    go_frame
    refine zx (some 10) 235 Tryz.func235 (by kernel_rfl) (by kernel_rfl) [.pointer (some ⟨pb,0,none⟩)] _ _ _ rfl rfl rfl (by exact wA rfl) rfl ?_
    refine(HSUB2.o v0.drew d (HT0.o.keep (Below.refl _ v0).drew) HD.o.1 HD.o.2).mono ?_
    rintro e w5 ⟨cb,rfl,hkb,h1,h2⟩
    have hlb:=hkb.len
    have hb5:But v0 w5 pb pb:=(But.of_below (Below.refl _ v0).drew pb pb).trans h2
    have hs5:Whole 30 w5 X cs:=HXv.o.keep (hb5.block X HXv.o.lt HXG.o.2.1 HXG.o.2.1)
    refine⟨_,rfl,hs5,?_⟩
    go_frame
    have hka:KeptP (fun b=>p < b/\b≠X) w5 cs x:=HKv.o.to (fun b h1 h2=>⟨h1,hb5.block b h2 (by have:=h1.1;have:=HPN.o;have:=HP.o;have:=H.o.lt;omega) (by have:=h1.1;have:=HPN.o;have:=HP.o;have:=H.o.lt;omega)⟩) hb5.size
    have hkb2:KeptP (fun b=>p < b/\b≠X) w5 cb y:=hkb.to (fun b h1 h2=>⟨⟨by have h3:v0.heap.size<=b:=h1;have:=HRv.o.lt;omega,by have h3:v0.heap.size<=b:=h1;have:=HXv.o.lt;omega⟩,rfl⟩) (Nat.le_refl _)
    refine zx (some 11) 164 Tryz.func164 (by kernel_rfl) (by kernel_rfl) [.int .i64 5,.agg ⟨cs⟩,.agg ⟨cb⟩] _ _ _ rfl rfl rfl (by exact wA rfl) rfl ?_
    refine(z1c 5 cs cb hka.len hlb hka.one hkb2.one w5).mono ?_
    rintro e w6 ⟨g,rfl,hg,hwg,hb6⟩
    have hs6:Whole 30 w6 X cs:=hs5.keep (hb6.block X hs5.lt)
    refine⟨_,rfl,hs6,?_⟩
    go_frame
    refine z0o ?_
    simp only[List.drop_succ_cons,List.drop_zero]
    have hpg:p < g/\g≠X:=⟨by have:=HRv.o.lt;have:=hb5.size;omega,by have:=hs5.lt;omega⟩
    have hkt:KeptP (fun b=>p < b/\b≠X) w6 (twoC 5 g) (twoE 5 x y):=z0Q (zI 5 (by decide +kernel)) hwg hpg (hka.to (fun b h1 h2=>⟨h1,hb6.block b h2⟩) hb6.size) (hkb2.to (fun b h1 h2=>⟨h1,hb6.block b h2⟩) hb6.size)
    have HKT:=I hkt
    have HX6:=I hs6
    have HR6:=I ((HRv.o.keep (hb5.block p HRv.o.lt HPN.o.1 HPN.o.1)).keep (hb6.block p (by have:=HRv.o.lt;have:=hb5.size;omega)))
    have HS6:=I (h1.keep hb6)
    have HB6:=I (HBv.o.trans (hb5.trans (But.of_below hb6 pb pb)))
    have HLX:=I hka.len
    clear hs hs5 hs6 hb5 hka hkb hkb2 hlb hwg hb6 hkt hg hpg h1 h2
    go_wp2_with ((with_reducible refine zd 30 _ _ rfl rfl ?_ X cs (twoC 5 g) HX6.o ?_ ?_ ?_ ?_ ?_ ?_);exact wA rfl;rw[HLX.o];rfl;rfl;rfl;rw[HKT.o.len];kernel_rfl;exact HKT.o.one;intro Z hz hb;have HZ:=I hz;have HZB:=I hb;clear hz hb)
    go_roundg (toks.length - j)
    case measure=>have:=HLT.o;have h2:=z1s HIS.o;have:=HGQ.o;omega
    case rel=>
     refine⟨_,j,_,HREST.o,rfl,HZ.o,HR6.o.keep (HZB.o.block p HR6.o.lt (by have:=HXG.o.1;omega) (by have:=HXG.o.1;omega)),HKT.o.to (fun b h1 h2=>⟨h1,HZB.o.block b h2 h1.2 h1.2⟩) HZB.o.size,HS6.o.under X HXG.o.2.1 HXG.o.2.2 HZB.o,zT HB6.o HZB.o (by have:=HXG.o.1;have:=HP.o;omega)⟩
   ·have hno0:isB toks i ⟨#[43]⟩= false:=z1S HIS.o (by decide +kernel)
    have HNO0:=I hno0
    clear hno0
    go_upto_region 4 with (go_at_call 125;refine(zN HS.o HNO0.o).mono ?_;rintro e v0 ⟨rfl,h1,h2⟩;have HT0:=I h1;have HTB0:=I h2;clear h1 h2)
    go_upto_region 5 with (go_at_call 125;refine(z0H HT0.o HIS.o).mono ?_;rintro e v1 ⟨rfl,h1,h2⟩;have HT1:=I h1;have HTB1:=I h2;clear h1 h2)
    have HTB:=I (HTB0.o.trans HTB1.o)
    have HXv:=I (HX.o.keep (HTB.o.block X HX.o.lt HXG.o.2.1 HXG.o.2.1))
    have HRv:=I (HR.o.keep (HTB.o.block p HR.o.lt HPN.o.1 HPN.o.1))
    have HKv:Hid (KeptP (fun b=>p < b/\b≠X) v1 cs x):=I (HK.o.to (fun b h1 h2=>⟨h1,HTB.o.block b h2 (by have:=h1.1;have:=HPN.o;have:=HP.o;have:=H.o.lt;omega) (by have:=h1.1;have:=HPN.o;have:=HP.o;have:=H.o.lt;omega)⟩) HTB.o.size)
    have HBv:=I (HB.o.trans HTB.o)
    have hs:Whole 30 v1.drew X cs:=HXv.o
    refine zG 4 [(0,true),(1,true),(2,false),(3,false)]
     (fun z=>Whole 30 z X cs) (by kernel_rfl) (by kernel_rfl) rfl (by intro c a d v w h;cases d<;>exact h) ?_
    refine z8 (some 14) (.agg ⟨cs⟩) _ rfl rfl (by exact wA rfl) hs (fun z hz=>zD 30 rfl X 0 cs _ rfl hz.range Tryz.underlying30 rfl (by rw[HK.o.len];kernel_rfl)) ?_
    go_frame
    refine zh (some 15) (.pointer (some ⟨pb,0,none⟩)) _ _ rfl rfl rfl (by exact wA rfl) hs rfl ?_
    go_frame
    refine zx (some 16) 235 Tryz.func235 (by kernel_rfl) (by kernel_rfl) [.pointer (some ⟨pb,0,none⟩)] _ _ _ rfl rfl rfl (by exact wA rfl) rfl ?_
    refine(HSUB2.o v1.drew d (HT1.o.keep (Below.refl _ v1).drew) HD.o.1 HD.o.2).mono ?_
    rintro e w5 ⟨cb,rfl,hkb,h1,h2⟩
    have hlb:=hkb.len
    have hb5:But v1 w5 pb pb:=(But.of_below (Below.refl _ v1).drew pb pb).trans h2
    have hs5:Whole 30 w5 X cs:=HXv.o.keep (hb5.block X HXv.o.lt HXG.o.2.1 HXG.o.2.1)
    refine⟨_,rfl,hs5,?_⟩
    go_frame
    have hka:KeptP (fun b=>p < b/\b≠X) w5 cs x:=HKv.o.to (fun b h1 h2=>⟨h1,hb5.block b h2 (by have:=h1.1;have:=HPN.o;have:=HP.o;have:=H.o.lt;omega) (by have:=h1.1;have:=HPN.o;have:=HP.o;have:=H.o.lt;omega)⟩) hb5.size
    have hkb2:KeptP (fun b=>p < b/\b≠X) w5 cb y:=hkb.to (fun b h1 h2=>⟨⟨by have h3:v1.heap.size<=b:=h1;have:=HRv.o.lt;omega,by have h3:v1.heap.size<=b:=h1;have:=HXv.o.lt;omega⟩,rfl⟩) (Nat.le_refl _)
    refine zx (some 17) 164 Tryz.func164 (by kernel_rfl) (by kernel_rfl) [.int .i64 6,.agg ⟨cs⟩,.agg ⟨cb⟩] _ _ _ rfl rfl rfl (by exact wA rfl) rfl ?_
    refine(z1c 6 cs cb hka.len hlb hka.one hkb2.one w5).mono ?_
    rintro e w6 ⟨g,rfl,hg,hwg,hb6⟩
    have hs6:Whole 30 w6 X cs:=hs5.keep (hb6.block X hs5.lt)
    refine⟨_,rfl,hs6,?_⟩
    go_frame
    refine z0o ?_
    simp only[List.drop_succ_cons,List.drop_zero]
    have hpg:p < g/\g≠X:=⟨by have:=HRv.o.lt;have:=hb5.size;omega,by have:=hs5.lt;omega⟩
    have hkt:KeptP (fun b=>p < b/\b≠X) w6 (twoC 6 g) (twoE 6 x y):=z0Q (zI 6 (by decide +kernel)) hwg hpg (hka.to (fun b h1 h2=>⟨h1,hb6.block b h2⟩) hb6.size) (hkb2.to (fun b h1 h2=>⟨h1,hb6.block b h2⟩) hb6.size)
    have HKT:=I hkt
    have HX6:=I hs6
    have HR6:=I ((HRv.o.keep (hb5.block p HRv.o.lt HPN.o.1 HPN.o.1)).keep (hb6.block p (by have:=HRv.o.lt;have:=hb5.size;omega)))
    have HS6:=I (h1.keep hb6)
    have HB6:=I (HBv.o.trans (hb5.trans (But.of_below hb6 pb pb)))
    have HLX:=I hka.len
    clear hs hs5 hs6 hb5 hka hkb hkb2 hlb hwg hb6 hkt hg hpg h1 h2
    go_wp2_with ((with_reducible refine zd 30 _ _ rfl rfl ?_ X cs (twoC 6 g) HX6.o ?_ ?_ ?_ ?_ ?_ ?_);exact wA rfl;rw[HLX.o];rfl;rfl;rfl;rw[HKT.o.len];kernel_rfl;exact HKT.o.one;intro Z hz hb;have HZ:=I hz;have HZB:=I hb;clear hz hb)
    go_roundg (toks.length - j)
    case measure=>have:=HLT.o;have h2:=z1s HIS.o;have:=HGQ.o;omega
    case rel=>
     refine⟨_,j,_,HREST.o,rfl,HZ.o,HR6.o.keep (HZB.o.block p HR6.o.lt (by have:=HXG.o.1;omega) (by have:=HXG.o.1;omega)),HKT.o.to (fun b h1 h2=>⟨h1,HZB.o.block b h2 h1.2 h1.2⟩) HZB.o.size,HS6.o.under X HXG.o.2.1 HXG.o.2.2 HZB.o,zT HB6.o HZB.o (by have:=HXG.o.1;have:=HP.o;omega)⟩
theorem zfM {i j k h:Nat} {x z:ET} (hsub:PCon pb tb c E toks 243 i j h x) (hl:PL 243 [(⟨#[42]⟩,7),(⟨#[47]⟩,8),(⟨#[37]⟩,9)] h pb tb c E toks x j z k):PCon pb tb c E toks 235 i k h z:=by
 intro w d h h0 hd
 have HSUB:=I hsub
 have HPL:=I hl
 clear hsub hl
 go_enter Tryz.func235,Tryz.ntmps235
 go_upto_region 1 with (fail)
 have HR0:=I (Whole.new w zEc 30)
 have HB0:=I (zc w (.cells zEc.toArray 30))
 have hz:=z0v
 rw[hz]
 clear hz
 have HRW:Hid (w.heap.size <(w.alloc (.cells zEc.toArray 30)).heap.size):=I (by simp)
 generalize w.alloc (.cells zEc.toArray 30)= W at*
 obtain⟨p,hp⟩:∃ p,w.heap.size= p:=⟨_,rfl⟩
 rw[hp] at HR0 HRW
 rw[hp]
 have HP:=I hp
 have HS0:=I (h.keep HB0.o)
 have HPN:Hid (p≠pb/\p≠tb):=I ⟨by have:=h.lt;omega,by have:=h.lt;omega⟩
 have H:=I h
 have HD:=I (And.intro h0 hd)
 clear hp h h0 hd
 go_upto_region 2 with (first
  |(go_at_call 243;refine(HSUB.o W d HS0.o HD.o.1 HD.o.2).mono ?_;rintro e w1 ⟨cs0,rfl,hk,h1,h2⟩;have hl:=hk.len;have HL0:=I hl;have HK0:=I hk;have HS1:=I h1;have HB1:=I h2;clear hl hk h1 h2)
  |((with_reducible refine z0x 30 _ _ rfl rfl ?hwe w1 ?zne cs0 ?hz1 ?hz2 ?hz3 ?hz4 ?hz5 ?hz6 ?_);(case hwe=>exact wA rfl);(case hz1=>rfl);(case hz2=>rw[HL0.o];rfl);(case hz3=>rfl);(case hz4=>rfl);(case hz5=>rw[HL0.o];kernel_rfl);(case hz6=>exact HK0.o.one);intro W2 hz hb hlt;have HX2:=I hz;have HB2:=I hb;have HLT2:=I hlt;clear hz hb hlt))
 obtain⟨X,hX⟩:∃ X,w1.heap.size= X:=⟨_,rfl⟩
 rw[hX] at HX2 HB2 HLT2
 rw[hX]
 have hXX:=hX
 have HXG:Hid (p < X/\X≠pb/\X≠tb):=I ⟨by have:=HRW.o;have:=HB1.o.size;omega,by have:=HS1.o.lt;omega,by have:=HS1.o.lt;omega⟩
 have hB12:Below w1.heap.size w1 W2:=by rw[hX];exact HB2.o
 have HR2:=I ((HR0.o.keep (HB1.o.block p HRW.o HPN.o.1 HPN.o.1)).keep (hB12.block p (by rw[hX];exact HXG.o.1)))
 have HS2:=I (HS1.o.keep hB12)
 have HK2:Hid (KeptP (fun b=>p < b/\b≠X) W2 cs0 x):=I (HK0.o.to (fun b h1 h2=>⟨⟨by have:=HRW.o;omega,by omega⟩,hB12.block b h2⟩) hB12.size)
 have HBW2:Hid (But w W2 pb pb):=I ((But.of_below HB0.o pb pb).trans (HB1.o.trans (But.of_below hB12 pb pb)))
 clear hX hXX hB12 HB1 HB2 HLT2 HK0 HS1 HS0 HR0
 go_wp2
 go_loopg [] (toks.length - j) (fun q u=>∃ (x:ET) (i:Nat) (cs:List Value),PL 243 [(⟨#[42]⟩,7),(⟨#[47]⟩,8),(⟨#[37]⟩,9)] h pb tb c E toks x i z k/\q= toks.length - i/\Whole 30 u X cs/\Whole 30 u p zEc/\KeptP (fun b=>p < b/\b≠X) u cs x/\PSt pb tb c E toks u i d/\But w u pb pb)
 case atStart=>exact⟨x,j,cs0,HPL.o,rfl,HX2.o,HR2.o,HK2.o,HS2.o,HBW2.o⟩
 case round=>
  clear HX2 HR2 HK2 HS2 HBW2 HL0 HPL
  obtain⟨x,i,cs,hpl,hq,hx,hr,hk,hs,hb⟩:=hrel
  have HX:=I hx
  have HR:=I hr
  have HK:=I hk
  have HS:=I hs
  have HB:=I hb
  have HGQ:=I hq
  clear hx hr hk hs hb hq
  cases hpl with
  |done _ _ hno=>
   have HNO:=I hno
   clear hno
   go_upto_region 4 with (go_at_call 125;refine(zN HS.o (HNO.o (⟨#[42]⟩,7) (by simp))).mono ?_;rintro e v0 ⟨rfl,h1,h2⟩;have HT0:=I h1;have HTB0:=I h2;clear h1 h2)
   go_upto_region 6 with (go_at_call 125;refine(zN HT0.o (HNO.o (⟨#[47]⟩,8) (by simp))).mono ?_;rintro e v1 ⟨rfl,h1,h2⟩;have HT1:=I h1;have HTB1:=I h2;clear h1 h2)
   go_upto_region 8 with (go_at_call 125;refine(zN HT1.o (HNO.o (⟨#[37]⟩,9) (by simp))).mono ?_;rintro e v2 ⟨rfl,h1,h2⟩;have HT2:=I h1;have HTB2:=I h2;clear h1 h2)
   have HTB:=I (HTB0.o.trans (HTB1.o.trans HTB2.o))
   have HXv:=I (HX.o.keep (HTB.o.block X HX.o.lt HXG.o.2.1 HXG.o.2.1))
   have HRv:=I (HR.o.keep (HTB.o.block p HR.o.lt HPN.o.1 HPN.o.1))
   have HKv:Hid (KeptP (fun b=>p < b/\b≠X) v2 cs z):=I (HK.o.to (fun b h1 h2=>⟨h1,HTB.o.block b h2 (by have:=h1.1;have:=HPN.o;have:=HP.o;have:=H.o.lt;omega) (by have:=h1.1;have:=HPN.o;have:=HP.o;have:=H.o.lt;omega)⟩) HTB.o.size)
   have HBv:=I (HB.o.trans HTB.o)
   clear HX HR HK
   have HX:=HXv
   have HK:=HKv
   have HXR:=I (HX.o.range)
   have HLX:=I (HK.o.len)
   go_wp2_with (first
    |((with_reducible refine z7 30 _ rfl ?_ X 0 cs _ rfl HXR.o Tryz.underlying30 rfl ?_ ?_);exact wA rfl;rw[HLX.o];kernel_rfl)
    |((with_reducible refine zd 30 _ _ rfl rfl ?_ p zEc cs HRv.o ?_ ?_ ?_ ?_ ?_ ?_);exact wA rfl;rw[HLX.o];rfl;rfl;rfl;rw[HLX.o];kernel_rfl;exact HK.o.one;intro Z hz hb;have HZ:=I hz;have HZB:=I hb;clear hz hb))
   (try simp only[Exit.inBlock,Exit.then])
   refine bodyPost_ret (zH rfl _ _ p cs HLX.o rfl HZ.o) rfl ?_
   have hp:=HP.o
   refine⟨cs,rfl,?_,HT2.o.under p HPN.o.1 HPN.o.2 HZB.o,zT HBv.o HZB.o (by omega)⟩
   exact KeptP.to (q:=fun b=>w.heap.size<=b) HK.o (fun b h1 h2=>⟨by have:=h1.1;show w.heap.size<=b;omega,HZB.o.block b h2 (by have:=h1.1;omega) (by have:=h1.1;omega)⟩) HZB.o.size
  |step _ _ y j z _ sg hmem his hsub hlt hrest=>
   have HSUB2:=I hsub
   have HREST:=I hrest
   have HLT:=I hlt
   have HIS:=I his
   clear hsub hrest hlt his
   simp only[List.mem_cons,List.not_mem_nil,or_false] at hmem
   rcases hmem with rfl|rfl|rfl
   ·go_upto_region 3 with (go_at_call 125;refine(z0H HS.o HIS.o).mono ?_;rintro e v0 ⟨rfl,h1,h2⟩;have HT0:=I h1;have HTB0:=I h2;clear h1 h2)
    have HTB:=I HTB0.o
    have HXv:=I (HX.o.keep (HTB.o.block X HX.o.lt HXG.o.2.1 HXG.o.2.1))
    have HRv:=I (HR.o.keep (HTB.o.block p HR.o.lt HPN.o.1 HPN.o.1))
    have HKv:Hid (KeptP (fun b=>p < b/\b≠X) v0 cs x):=I (HK.o.to (fun b h1 h2=>⟨h1,HTB.o.block b h2 (by have:=h1.1;have:=HPN.o;have:=HP.o;have:=H.o.lt;omega) (by have:=h1.1;have:=HPN.o;have:=HP.o;have:=H.o.lt;omega)⟩) HTB.o.size)
    have HBv:=I (HB.o.trans HTB.o)
    have hs:Whole 30 v0.drew X cs:=HXv.o
    refine zG 4 [(0,true),(1,true),(2,false),(3,false)]
     (fun z=>Whole 30 z X cs) (by kernel_rfl) (by kernel_rfl) rfl (by intro c a d v w h;cases d<;>exact h) ?_
    refine z8 (some 8) (.agg ⟨cs⟩) _ rfl rfl (by exact wA rfl) hs (fun z hz=>zD 30 rfl X 0 cs _ rfl hz.range Tryz.underlying30 rfl (by rw[HK.o.len];kernel_rfl)) ?_
    go_frame
    refine zh (some 9) (.pointer (some ⟨pb,0,none⟩)) _ _ rfl rfl rfl (by exact wA rfl) hs rfl ?_
    go_frame
    refine zx (some 10) 243 Tryz.func243 (by kernel_rfl) (by kernel_rfl) [.pointer (some ⟨pb,0,none⟩)] _ _ _ rfl rfl rfl (by exact wA rfl) rfl ?_
    refine(HSUB2.o v0.drew d (HT0.o.keep (Below.refl _ v0).drew) HD.o.1 HD.o.2).mono ?_
    rintro e w5 ⟨cb,rfl,hkb,h1,h2⟩
    have hlb:=hkb.len
    have hb5:But v0 w5 pb pb:=(But.of_below (Below.refl _ v0).drew pb pb).trans h2
    have hs5:Whole 30 w5 X cs:=HXv.o.keep (hb5.block X HXv.o.lt HXG.o.2.1 HXG.o.2.1)
    refine⟨_,rfl,hs5,?_⟩
    go_frame
    have hka:KeptP (fun b=>p < b/\b≠X) w5 cs x:=HKv.o.to (fun b h1 h2=>⟨h1,hb5.block b h2 (by have:=h1.1;have:=HPN.o;have:=HP.o;have:=H.o.lt;omega) (by have:=h1.1;have:=HPN.o;have:=HP.o;have:=H.o.lt;omega)⟩) hb5.size
    have hkb2:KeptP (fun b=>p < b/\b≠X) w5 cb y:=hkb.to (fun b h1 h2=>⟨⟨by have h3:v0.heap.size<=b:=h1;have:=HRv.o.lt;omega,by have h3:v0.heap.size<=b:=h1;have:=HXv.o.lt;omega⟩,rfl⟩) (Nat.le_refl _)
    refine zx (some 11) 164 Tryz.func164 (by kernel_rfl) (by kernel_rfl) [.int .i64 7,.agg ⟨cs⟩,.agg ⟨cb⟩] _ _ _ rfl rfl rfl (by exact wA rfl) rfl ?_
    refine(z1c 7 cs cb hka.len hlb hka.one hkb2.one w5).mono ?_
    rintro e w6 ⟨g,rfl,hg,hwg,hb6⟩
    have hs6:Whole 30 w6 X cs:=hs5.keep (hb6.block X hs5.lt)
    refine⟨_,rfl,hs6,?_⟩
    go_frame
    refine z0o ?_
    simp only[List.drop_succ_cons,List.drop_zero]
    have hpg:p < g/\g≠X:=⟨by have:=HRv.o.lt;have:=hb5.size;omega,by have:=hs5.lt;omega⟩
    have hkt:KeptP (fun b=>p < b/\b≠X) w6 (twoC 7 g) (twoE 7 x y):=z0Q (zI 7 (by decide +kernel)) hwg hpg (hka.to (fun b h1 h2=>⟨h1,hb6.block b h2⟩) hb6.size) (hkb2.to (fun b h1 h2=>⟨h1,hb6.block b h2⟩) hb6.size)
    have HKT:=I hkt
    have HX6:=I hs6
    have HR6:=I ((HRv.o.keep (hb5.block p HRv.o.lt HPN.o.1 HPN.o.1)).keep (hb6.block p (by have:=HRv.o.lt;have:=hb5.size;omega)))
    have HS6:=I (h1.keep hb6)
    have HB6:=I (HBv.o.trans (hb5.trans (But.of_below hb6 pb pb)))
    have HLX:=I hka.len
    clear hs hs5 hs6 hb5 hka hkb hkb2 hlb hwg hb6 hkt hg hpg h1 h2
    go_wp2_with ((with_reducible refine zd 30 _ _ rfl rfl ?_ X cs (twoC 7 g) HX6.o ?_ ?_ ?_ ?_ ?_ ?_);exact wA rfl;rw[HLX.o];rfl;rfl;rfl;rw[HKT.o.len];kernel_rfl;exact HKT.o.one;intro Z hz hb;have HZ:=I hz;have HZB:=I hb;clear hz hb)
    go_roundg (toks.length - j)
    case measure=>have:=HLT.o;have h2:=z1s HIS.o;have:=HGQ.o;omega
    case rel=>
     refine⟨_,j,_,HREST.o,rfl,HZ.o,HR6.o.keep (HZB.o.block p HR6.o.lt (by have:=HXG.o.1;omega) (by have:=HXG.o.1;omega)),HKT.o.to (fun b h1 h2=>⟨h1,HZB.o.block b h2 h1.2 h1.2⟩) HZB.o.size,HS6.o.under X HXG.o.2.1 HXG.o.2.2 HZB.o,zT HB6.o HZB.o (by have:=HXG.o.1;have:=HP.o;omega)⟩
   ·have hno0:isB toks i ⟨#[42]⟩= false:=z1S HIS.o (by decide +kernel)
    have HNO0:=I hno0
    clear hno0
    go_upto_region 4 with (go_at_call 125;refine(zN HS.o HNO0.o).mono ?_;rintro e v0 ⟨rfl,h1,h2⟩;have HT0:=I h1;have HTB0:=I h2;clear h1 h2)
    go_upto_region 5 with (go_at_call 125;refine(z0H HT0.o HIS.o).mono ?_;rintro e v1 ⟨rfl,h1,h2⟩;have HT1:=I h1;have HTB1:=I h2;clear h1 h2)
    have HTB:=I (HTB0.o.trans HTB1.o)
    have HXv:=I (HX.o.keep (HTB.o.block X HX.o.lt HXG.o.2.1 HXG.o.2.1))
    have HRv:=I (HR.o.keep (HTB.o.block p HR.o.lt HPN.o.1 HPN.o.1))
    have HKv:Hid (KeptP (fun b=>p < b/\b≠X) v1 cs x):=I (HK.o.to (fun b h1 h2=>⟨h1,HTB.o.block b h2 (by have:=h1.1;have:=HPN.o;have:=HP.o;have:=H.o.lt;omega) (by have:=h1.1;have:=HPN.o;have:=HP.o;have:=H.o.lt;omega)⟩) HTB.o.size)
    have HBv:=I (HB.o.trans HTB.o)
    have hs:Whole 30 v1.drew X cs:=HXv.o
    refine zG 4 [(0,true),(1,true),(2,false),(3,false)]
     (fun z=>Whole 30 z X cs) (by kernel_rfl) (by kernel_rfl) rfl (by intro c a d v w h;cases d<;>exact h) ?_
    refine z8 (some 14) (.agg ⟨cs⟩) _ rfl rfl (by exact wA rfl) hs (fun z hz=>zD 30 rfl X 0 cs _ rfl hz.range Tryz.underlying30 rfl (by rw[HK.o.len];kernel_rfl)) ?_
    go_frame
    refine zh (some 15) (.pointer (some ⟨pb,0,none⟩)) _ _ rfl rfl rfl (by exact wA rfl) hs rfl ?_
    go_frame
    refine zx (some 16) 243 Tryz.func243 (by kernel_rfl) (by kernel_rfl) [.pointer (some ⟨pb,0,none⟩)] _ _ _ rfl rfl rfl (by exact wA rfl) rfl ?_
    refine(HSUB2.o v1.drew d (HT1.o.keep (Below.refl _ v1).drew) HD.o.1 HD.o.2).mono ?_
    rintro e w5 ⟨cb,rfl,hkb,h1,h2⟩
    have hlb:=hkb.len
    have hb5:But v1 w5 pb pb:=(But.of_below (Below.refl _ v1).drew pb pb).trans h2
    have hs5:Whole 30 w5 X cs:=HXv.o.keep (hb5.block X HXv.o.lt HXG.o.2.1 HXG.o.2.1)
    refine⟨_,rfl,hs5,?_⟩
    go_frame
    have hka:KeptP (fun b=>p < b/\b≠X) w5 cs x:=HKv.o.to (fun b h1 h2=>⟨h1,hb5.block b h2 (by have:=h1.1;have:=HPN.o;have:=HP.o;have:=H.o.lt;omega) (by have:=h1.1;have:=HPN.o;have:=HP.o;have:=H.o.lt;omega)⟩) hb5.size
    have hkb2:KeptP (fun b=>p < b/\b≠X) w5 cb y:=hkb.to (fun b h1 h2=>⟨⟨by have h3:v1.heap.size<=b:=h1;have:=HRv.o.lt;omega,by have h3:v1.heap.size<=b:=h1;have:=HXv.o.lt;omega⟩,rfl⟩) (Nat.le_refl _)
    refine zx (some 17) 164 Tryz.func164 (by kernel_rfl) (by kernel_rfl) [.int .i64 8,.agg ⟨cs⟩,.agg ⟨cb⟩] _ _ _ rfl rfl rfl (by exact wA rfl) rfl ?_
    refine(z1c 8 cs cb hka.len hlb hka.one hkb2.one w5).mono ?_
    rintro e w6 ⟨g,rfl,hg,hwg,hb6⟩
    have hs6:Whole 30 w6 X cs:=hs5.keep (hb6.block X hs5.lt)
    refine⟨_,rfl,hs6,?_⟩
    go_frame
    refine z0o ?_
    simp only[List.drop_succ_cons,List.drop_zero]
    have hpg:p < g/\g≠X:=⟨by have:=HRv.o.lt;have:=hb5.size;omega,by have:=hs5.lt;omega⟩
    have hkt:KeptP (fun b=>p < b/\b≠X) w6 (twoC 8 g) (twoE 8 x y):=z0Q (zI 8 (by decide +kernel)) hwg hpg (hka.to (fun b h1 h2=>⟨h1,hb6.block b h2⟩) hb6.size) (hkb2.to (fun b h1 h2=>⟨h1,hb6.block b h2⟩) hb6.size)
    have HKT:=I hkt
    have HX6:=I hs6
    have HR6:=I ((HRv.o.keep (hb5.block p HRv.o.lt HPN.o.1 HPN.o.1)).keep (hb6.block p (by have:=HRv.o.lt;have:=hb5.size;omega)))
    have HS6:=I (h1.keep hb6)
    have HB6:=I (HBv.o.trans (hb5.trans (But.of_below hb6 pb pb)))
    have HLX:=I hka.len
    clear hs hs5 hs6 hb5 hka hkb hkb2 hlb hwg hb6 hkt hg hpg h1 h2
    go_wp2_with ((with_reducible refine zd 30 _ _ rfl rfl ?_ X cs (twoC 8 g) HX6.o ?_ ?_ ?_ ?_ ?_ ?_);exact wA rfl;rw[HLX.o];rfl;rfl;rfl;rw[HKT.o.len];kernel_rfl;exact HKT.o.one;intro Z hz hb;have HZ:=I hz;have HZB:=I hb;clear hz hb)
    go_roundg (toks.length - j)
    case measure=>have:=HLT.o;have h2:=z1s HIS.o;have:=HGQ.o;omega
    case rel=>
     refine⟨_,j,_,HREST.o,rfl,HZ.o,HR6.o.keep (HZB.o.block p HR6.o.lt (by have:=HXG.o.1;omega) (by have:=HXG.o.1;omega)),HKT.o.to (fun b h1 h2=>⟨h1,HZB.o.block b h2 h1.2 h1.2⟩) HZB.o.size,HS6.o.under X HXG.o.2.1 HXG.o.2.2 HZB.o,zT HB6.o HZB.o (by have:=HXG.o.1;have:=HP.o;omega)⟩
   ·have hno0:isB toks i ⟨#[42]⟩= false:=z1S HIS.o (by decide +kernel)
    have HNO0:=I hno0
    clear hno0
    go_upto_region 4 with (go_at_call 125;refine(zN HS.o HNO0.o).mono ?_;rintro e v0 ⟨rfl,h1,h2⟩;have HT0:=I h1;have HTB0:=I h2;clear h1 h2)
    have hno1:isB toks i ⟨#[47]⟩= false:=z1S HIS.o (by decide +kernel)
    have HNO1:=I hno1
    clear hno1
    go_upto_region 6 with (go_at_call 125;refine(zN HT0.o HNO1.o).mono ?_;rintro e v1 ⟨rfl,h1,h2⟩;have HT1:=I h1;have HTB1:=I h2;clear h1 h2)
    go_upto_region 7 with (go_at_call 125;refine(z0H HT1.o HIS.o).mono ?_;rintro e v2 ⟨rfl,h1,h2⟩;have HT2:=I h1;have HTB2:=I h2;clear h1 h2)
    have HTB:=I (HTB0.o.trans (HTB1.o.trans HTB2.o))
    have HXv:=I (HX.o.keep (HTB.o.block X HX.o.lt HXG.o.2.1 HXG.o.2.1))
    have HRv:=I (HR.o.keep (HTB.o.block p HR.o.lt HPN.o.1 HPN.o.1))
    have HKv:Hid (KeptP (fun b=>p < b/\b≠X) v2 cs x):=I (HK.o.to (fun b h1 h2=>⟨h1,HTB.o.block b h2 (by have:=h1.1;have:=HPN.o;have:=HP.o;have:=H.o.lt;omega) (by have:=h1.1;have:=HPN.o;have:=HP.o;have:=H.o.lt;omega)⟩) HTB.o.size)
    have HBv:=I (HB.o.trans HTB.o)
    have hs:Whole 30 v2.drew X cs:=HXv.o
    refine zG 4 [(0,true),(1,true),(2,false),(3,false)]
     (fun z=>Whole 30 z X cs) (by kernel_rfl) (by kernel_rfl) rfl (by intro c a d v w h;cases d<;>exact h) ?_
    refine z8 (some 20) (.agg ⟨cs⟩) _ rfl rfl (by exact wA rfl) hs (fun z hz=>zD 30 rfl X 0 cs _ rfl hz.range Tryz.underlying30 rfl (by rw[HK.o.len];kernel_rfl)) ?_
    go_frame
    refine zh (some 21) (.pointer (some ⟨pb,0,none⟩)) _ _ rfl rfl rfl (by exact wA rfl) hs rfl ?_
    go_frame
    refine zx (some 22) 243 Tryz.func243 (by kernel_rfl) (by kernel_rfl) [.pointer (some ⟨pb,0,none⟩)] _ _ _ rfl rfl rfl (by exact wA rfl) rfl ?_
    refine(HSUB2.o v2.drew d (HT2.o.keep (Below.refl _ v2).drew) HD.o.1 HD.o.2).mono ?_
    rintro e w5 ⟨cb,rfl,hkb,h1,h2⟩
    have hlb:=hkb.len
    have hb5:But v2 w5 pb pb:=(But.of_below (Below.refl _ v2).drew pb pb).trans h2
    have hs5:Whole 30 w5 X cs:=HXv.o.keep (hb5.block X HXv.o.lt HXG.o.2.1 HXG.o.2.1)
    refine⟨_,rfl,hs5,?_⟩
    go_frame
    have hka:KeptP (fun b=>p < b/\b≠X) w5 cs x:=HKv.o.to (fun b h1 h2=>⟨h1,hb5.block b h2 (by have:=h1.1;have:=HPN.o;have:=HP.o;have:=H.o.lt;omega) (by have:=h1.1;have:=HPN.o;have:=HP.o;have:=H.o.lt;omega)⟩) hb5.size
    have hkb2:KeptP (fun b=>p < b/\b≠X) w5 cb y:=hkb.to (fun b h1 h2=>⟨⟨by have h3:v2.heap.size<=b:=h1;have:=HRv.o.lt;omega,by have h3:v2.heap.size<=b:=h1;have:=HXv.o.lt;omega⟩,rfl⟩) (Nat.le_refl _)
    refine zx (some 23) 164 Tryz.func164 (by kernel_rfl) (by kernel_rfl) [.int .i64 9,.agg ⟨cs⟩,.agg ⟨cb⟩] _ _ _ rfl rfl rfl (by exact wA rfl) rfl ?_
    refine(z1c 9 cs cb hka.len hlb hka.one hkb2.one w5).mono ?_
    rintro e w6 ⟨g,rfl,hg,hwg,hb6⟩
    have hs6:Whole 30 w6 X cs:=hs5.keep (hb6.block X hs5.lt)
    refine⟨_,rfl,hs6,?_⟩
    go_frame
    refine z0o ?_
    simp only[List.drop_succ_cons,List.drop_zero]
    have hpg:p < g/\g≠X:=⟨by have:=HRv.o.lt;have:=hb5.size;omega,by have:=hs5.lt;omega⟩
    have hkt:KeptP (fun b=>p < b/\b≠X) w6 (twoC 9 g) (twoE 9 x y):=z0Q (zI 9 (by decide +kernel)) hwg hpg (hka.to (fun b h1 h2=>⟨h1,hb6.block b h2⟩) hb6.size) (hkb2.to (fun b h1 h2=>⟨h1,hb6.block b h2⟩) hb6.size)
    have HKT:=I hkt
    have HX6:=I hs6
    have HR6:=I ((HRv.o.keep (hb5.block p HRv.o.lt HPN.o.1 HPN.o.1)).keep (hb6.block p (by have:=HRv.o.lt;have:=hb5.size;omega)))
    have HS6:=I (h1.keep hb6)
    have HB6:=I (HBv.o.trans (hb5.trans (But.of_below hb6 pb pb)))
    have HLX:=I hka.len
    clear hs hs5 hs6 hb5 hka hkb hkb2 hlb hwg hb6 hkt hg hpg h1 h2
    go_wp2_with ((with_reducible refine zd 30 _ _ rfl rfl ?_ X cs (twoC 9 g) HX6.o ?_ ?_ ?_ ?_ ?_ ?_);exact wA rfl;rw[HLX.o];rfl;rfl;rfl;rw[HKT.o.len];kernel_rfl;exact HKT.o.one;intro Z hz hb;have HZ:=I hz;have HZB:=I hb;clear hz hb)
    go_roundg (toks.length - j)
    case measure=>have:=HLT.o;have h2:=z1s HIS.o;have:=HGQ.o;omega
    case rel=>
     refine⟨_,j,_,HREST.o,rfl,HZ.o,HR6.o.keep (HZB.o.block p HR6.o.lt (by have:=HXG.o.1;omega) (by have:=HXG.o.1;omega)),HKT.o.to (fun b h1 h2=>⟨h1,HZB.o.block b h2 h1.2 h1.2⟩) HZB.o.size,HS6.o.under X HXG.o.2.1 HXG.o.2.2 HZB.o,zT HB6.o HZB.o (by have:=HXG.o.1;have:=HP.o;omega)⟩
theorem zgv {i j k h:Nat} {x z:ET} (hsub:PCon pb tb c E toks 196 i j h x) (hl:PL 196 [(⟨#[38,38]⟩,13)] h pb tb c E toks x j z k):PCon pb tb c E toks 163 i k h z:=by
 intro w d h h0 hd
 have HSUB:=I hsub
 have HPL:=I hl
 clear hsub hl
 go_enter Tryz.func163,Tryz.ntmps163
 go_upto_region 1 with (fail)
 have HR0:=I (Whole.new w zEc 30)
 have HB0:=I (zc w (.cells zEc.toArray 30))
 have hz:=z0v
 rw[hz]
 clear hz
 have HRW:Hid (w.heap.size <(w.alloc (.cells zEc.toArray 30)).heap.size):=I (by simp)
 generalize w.alloc (.cells zEc.toArray 30)= W at*
 obtain⟨p,hp⟩:∃ p,w.heap.size= p:=⟨_,rfl⟩
 rw[hp] at HR0 HRW
 rw[hp]
 have HP:=I hp
 have HS0:=I (h.keep HB0.o)
 have HPN:Hid (p≠pb/\p≠tb):=I ⟨by have:=h.lt;omega,by have:=h.lt;omega⟩
 have H:=I h
 have HD:=I (And.intro h0 hd)
 clear hp h h0 hd
 go_upto_region 2 with (first
  |(go_at_call 196;refine(HSUB.o W d HS0.o HD.o.1 HD.o.2).mono ?_;rintro e w1 ⟨cs0,rfl,hk,h1,h2⟩;have hl:=hk.len;have HL0:=I hl;have HK0:=I hk;have HS1:=I h1;have HB1:=I h2;clear hl hk h1 h2)
  |((with_reducible refine z0x 30 _ _ rfl rfl ?hwe w1 ?zne cs0 ?hz1 ?hz2 ?hz3 ?hz4 ?hz5 ?hz6 ?_);(case hwe=>exact wA rfl);(case hz1=>rfl);(case hz2=>rw[HL0.o];rfl);(case hz3=>rfl);(case hz4=>rfl);(case hz5=>rw[HL0.o];kernel_rfl);(case hz6=>exact HK0.o.one);intro W2 hz hb hlt;have HX2:=I hz;have HB2:=I hb;have HLT2:=I hlt;clear hz hb hlt))
 obtain⟨X,hX⟩:∃ X,w1.heap.size= X:=⟨_,rfl⟩
 rw[hX] at HX2 HB2 HLT2
 rw[hX]
 have hXX:=hX
 have HXG:Hid (p < X/\X≠pb/\X≠tb):=I ⟨by have:=HRW.o;have:=HB1.o.size;omega,by have:=HS1.o.lt;omega,by have:=HS1.o.lt;omega⟩
 have hB12:Below w1.heap.size w1 W2:=by rw[hX];exact HB2.o
 have HR2:=I ((HR0.o.keep (HB1.o.block p HRW.o HPN.o.1 HPN.o.1)).keep (hB12.block p (by rw[hX];exact HXG.o.1)))
 have HS2:=I (HS1.o.keep hB12)
 have HK2:Hid (KeptP (fun b=>p < b/\b≠X) W2 cs0 x):=I (HK0.o.to (fun b h1 h2=>⟨⟨by have:=HRW.o;omega,by omega⟩,hB12.block b h2⟩) hB12.size)
 have HBW2:Hid (But w W2 pb pb):=I ((But.of_below HB0.o pb pb).trans (HB1.o.trans (But.of_below hB12 pb pb)))
 clear hX hXX hB12 HB1 HB2 HLT2 HK0 HS1 HS0 HR0
 go_wp2
 go_loopg [] (toks.length - j) (fun q u=>∃ (x:ET) (i:Nat) (cs:List Value),PL 196 [(⟨#[38,38]⟩,13)] h pb tb c E toks x i z k/\q= toks.length - i/\Whole 30 u X cs/\Whole 30 u p zEc/\KeptP (fun b=>p < b/\b≠X) u cs x/\PSt pb tb c E toks u i d/\But w u pb pb)
 case atStart=>exact⟨x,j,cs0,HPL.o,rfl,HX2.o,HR2.o,HK2.o,HS2.o,HBW2.o⟩
 case round=>
  clear HX2 HR2 HK2 HS2 HBW2 HL0 HPL
  obtain⟨x,i,cs,hpl,hq,hx,hr,hk,hs,hb⟩:=hrel
  have HX:=I hx
  have HR:=I hr
  have HK:=I hk
  have HS:=I hs
  have HB:=I hb
  have HGQ:=I hq
  clear hx hr hk hs hb hq
  cases hpl with
  |done _ _ hno=>
   have HNO:=I hno
   clear hno
   go_upto_region 4 with (go_at_call 125;refine(zN HS.o (HNO.o (⟨#[38,38]⟩,13) (by simp))).mono ?_;rintro e v0 ⟨rfl,h1,h2⟩;have HT0:=I h1;have HTB0:=I h2;clear h1 h2)
   have HTB:=I HTB0.o
   have HXv:=I (HX.o.keep (HTB.o.block X HX.o.lt HXG.o.2.1 HXG.o.2.1))
   have HRv:=I (HR.o.keep (HTB.o.block p HR.o.lt HPN.o.1 HPN.o.1))
   have HKv:Hid (KeptP (fun b=>p < b/\b≠X) v0 cs z):=I (HK.o.to (fun b h1 h2=>⟨h1,HTB.o.block b h2 (by have:=h1.1;have:=HPN.o;have:=HP.o;have:=H.o.lt;omega) (by have:=h1.1;have:=HPN.o;have:=HP.o;have:=H.o.lt;omega)⟩) HTB.o.size)
   have HBv:=I (HB.o.trans HTB.o)
   clear HX HR HK
   have HX:=HXv
   have HK:=HKv
   have HXR:=I (HX.o.range)
   have HLX:=I (HK.o.len)
   go_wp2_with (first
    |((with_reducible refine z7 30 _ rfl ?_ X 0 cs _ rfl HXR.o Tryz.underlying30 rfl ?_ ?_);exact wA rfl;rw[HLX.o];kernel_rfl)
    |((with_reducible refine zd 30 _ _ rfl rfl ?_ p zEc cs HRv.o ?_ ?_ ?_ ?_ ?_ ?_);exact wA rfl;rw[HLX.o];rfl;rfl;rfl;rw[HLX.o];kernel_rfl;exact HK.o.one;intro Z hz hb;have HZ:=I hz;have HZB:=I hb;clear hz hb))
   (try simp only[Exit.inBlock,Exit.then])
   refine bodyPost_ret (zH rfl _ _ p cs HLX.o rfl HZ.o) rfl ?_
   have hp:=HP.o
   refine⟨cs,rfl,?_,HT0.o.under p HPN.o.1 HPN.o.2 HZB.o,zT HBv.o HZB.o (by omega)⟩
   exact KeptP.to (q:=fun b=>w.heap.size<=b) HK.o (fun b h1 h2=>⟨by have:=h1.1;show w.heap.size<=b;omega,HZB.o.block b h2 (by have:=h1.1;omega) (by have:=h1.1;omega)⟩) HZB.o.size
  |step _ _ y j z _ sg hmem his hsub hlt hrest=>
   have HSUB2:=I hsub
   have HREST:=I hrest
   have HLT:=I hlt
   have HIS:=I his
   clear hsub hrest hlt his
   simp only[List.mem_cons,List.not_mem_nil,or_false] at hmem
   rcases hmem with rfl
   ·go_upto_region 3 with (go_at_call 125;refine(z0H HS.o HIS.o).mono ?_;rintro e v0 ⟨rfl,h1,h2⟩;have HT0:=I h1;have HTB0:=I h2;clear h1 h2)
    have HTB:=I HTB0.o
    have HXv:=I (HX.o.keep (HTB.o.block X HX.o.lt HXG.o.2.1 HXG.o.2.1))
    have HRv:=I (HR.o.keep (HTB.o.block p HR.o.lt HPN.o.1 HPN.o.1))
    have HKv:Hid (KeptP (fun b=>p < b/\b≠X) v0 cs x):=I (HK.o.to (fun b h1 h2=>⟨h1,HTB.o.block b h2 (by have:=h1.1;have:=HPN.o;have:=HP.o;have:=H.o.lt;omega) (by have:=h1.1;have:=HPN.o;have:=HP.o;have:=H.o.lt;omega)⟩) HTB.o.size)
    have HBv:=I (HB.o.trans HTB.o)
    have hs:Whole 30 v0.drew X cs:=HXv.o
    refine zG 4 [(0,true),(1,true),(2,false),(3,false)]
     (fun z=>Whole 30 z X cs) (by kernel_rfl) (by kernel_rfl) rfl (by intro c a d v w h;cases d<;>exact h) ?_
    refine z8 (some 8) (.agg ⟨cs⟩) _ rfl rfl (by exact wA rfl) hs (fun z hz=>zD 30 rfl X 0 cs _ rfl hz.range Tryz.underlying30 rfl (by rw[HK.o.len];kernel_rfl)) ?_
    go_frame
    refine zh (some 9) (.pointer (some ⟨pb,0,none⟩)) _ _ rfl rfl rfl (by exact wA rfl) hs rfl ?_
    go_frame
    refine zx (some 10) 196 Tryz.func196 (by kernel_rfl) (by kernel_rfl) [.pointer (some ⟨pb,0,none⟩)] _ _ _ rfl rfl rfl (by exact wA rfl) rfl ?_
    refine(HSUB2.o v0.drew d (HT0.o.keep (Below.refl _ v0).drew) HD.o.1 HD.o.2).mono ?_
    rintro e w5 ⟨cb,rfl,hkb,h1,h2⟩
    have hlb:=hkb.len
    have hb5:But v0 w5 pb pb:=(But.of_below (Below.refl _ v0).drew pb pb).trans h2
    have hs5:Whole 30 w5 X cs:=HXv.o.keep (hb5.block X HXv.o.lt HXG.o.2.1 HXG.o.2.1)
    refine⟨_,rfl,hs5,?_⟩
    go_frame
    have hka:KeptP (fun b=>p < b/\b≠X) w5 cs x:=HKv.o.to (fun b h1 h2=>⟨h1,hb5.block b h2 (by have:=h1.1;have:=HPN.o;have:=HP.o;have:=H.o.lt;omega) (by have:=h1.1;have:=HPN.o;have:=HP.o;have:=H.o.lt;omega)⟩) hb5.size
    have hkb2:KeptP (fun b=>p < b/\b≠X) w5 cb y:=hkb.to (fun b h1 h2=>⟨⟨by have h3:v0.heap.size<=b:=h1;have:=HRv.o.lt;omega,by have h3:v0.heap.size<=b:=h1;have:=HXv.o.lt;omega⟩,rfl⟩) (Nat.le_refl _)
    refine zx (some 11) 164 Tryz.func164 (by kernel_rfl) (by kernel_rfl) [.int .i64 13,.agg ⟨cs⟩,.agg ⟨cb⟩] _ _ _ rfl rfl rfl (by exact wA rfl) rfl ?_
    refine(z1c 13 cs cb hka.len hlb hka.one hkb2.one w5).mono ?_
    rintro e w6 ⟨g,rfl,hg,hwg,hb6⟩
    have hs6:Whole 30 w6 X cs:=hs5.keep (hb6.block X hs5.lt)
    refine⟨_,rfl,hs6,?_⟩
    go_frame
    refine z0o ?_
    simp only[List.drop_succ_cons,List.drop_zero]
    have hpg:p < g/\g≠X:=⟨by have:=HRv.o.lt;have:=hb5.size;omega,by have:=hs5.lt;omega⟩
    have hkt:KeptP (fun b=>p < b/\b≠X) w6 (twoC 13 g) (twoE 13 x y):=z0Q (zI 13 (by decide +kernel)) hwg hpg (hka.to (fun b h1 h2=>⟨h1,hb6.block b h2⟩) hb6.size) (hkb2.to (fun b h1 h2=>⟨h1,hb6.block b h2⟩) hb6.size)
    have HKT:=I hkt
    have HX6:=I hs6
    have HR6:=I ((HRv.o.keep (hb5.block p HRv.o.lt HPN.o.1 HPN.o.1)).keep (hb6.block p (by have:=HRv.o.lt;have:=hb5.size;omega)))
    have HS6:=I (h1.keep hb6)
    have HB6:=I (HBv.o.trans (hb5.trans (But.of_below hb6 pb pb)))
    have HLX:=I hka.len
    clear hs hs5 hs6 hb5 hka hkb hkb2 hlb hwg hb6 hkt hg hpg h1 h2
    go_wp2_with ((with_reducible refine zd 30 _ _ rfl rfl ?_ X cs (twoC 13 g) HX6.o ?_ ?_ ?_ ?_ ?_ ?_);exact wA rfl;rw[HLX.o];rfl;rfl;rfl;rw[HKT.o.len];kernel_rfl;exact HKT.o.one;intro Z hz hb;have HZ:=I hz;have HZB:=I hb;clear hz hb)
    go_roundg (toks.length - j)
    case measure=>have:=HLT.o;have h2:=z1s HIS.o;have:=HGQ.o;omega
    case rel=>
     refine⟨_,j,_,HREST.o,rfl,HZ.o,HR6.o.keep (HZB.o.block p HR6.o.lt (by have:=HXG.o.1;omega) (by have:=HXG.o.1;omega)),HKT.o.to (fun b h1 h2=>⟨h1,HZB.o.block b h2 h1.2 h1.2⟩) HZB.o.size,HS6.o.under X HXG.o.2.1 HXG.o.2.2 HZB.o,zT HB6.o HZB.o (by have:=HXG.o.1;have:=HP.o;omega)⟩
theorem pc_or {i j k h:Nat} {x z:ET} (hsub:PCon pb tb c E toks 163 i j h x) (hl:PL 163 [(⟨#[124,124]⟩,14)] h pb tb c E toks x j z k):PCon pb tb c E toks 124 i k h z:=by
 intro w d h h0 hd
 have HSUB:=I hsub
 have HPL:=I hl
 clear hsub hl
 go_enter Tryz.func124,Tryz.ntmps124
 go_upto_region 1 with (fail)
 have HR0:=I (Whole.new w zEc 30)
 have HB0:=I (zc w (.cells zEc.toArray 30))
 have hz:=z0v
 rw[hz]
 clear hz
 have HRW:Hid (w.heap.size <(w.alloc (.cells zEc.toArray 30)).heap.size):=I (by simp)
 generalize w.alloc (.cells zEc.toArray 30)= W at*
 obtain⟨p,hp⟩:∃ p,w.heap.size= p:=⟨_,rfl⟩
 rw[hp] at HR0 HRW
 rw[hp]
 have HP:=I hp
 have HS0:=I (h.keep HB0.o)
 have HPN:Hid (p≠pb/\p≠tb):=I ⟨by have:=h.lt;omega,by have:=h.lt;omega⟩
 have H:=I h
 have HD:=I (And.intro h0 hd)
 clear hp h h0 hd
 go_upto_region 2 with (first
  |(go_at_call 163;refine(HSUB.o W d HS0.o HD.o.1 HD.o.2).mono ?_;rintro e w1 ⟨cs0,rfl,hk,h1,h2⟩;have hl:=hk.len;have HL0:=I hl;have HK0:=I hk;have HS1:=I h1;have HB1:=I h2;clear hl hk h1 h2)
  |((with_reducible refine z0x 30 _ _ rfl rfl ?hwe w1 ?zne cs0 ?hz1 ?hz2 ?hz3 ?hz4 ?hz5 ?hz6 ?_);(case hwe=>exact wA rfl);(case hz1=>rfl);(case hz2=>rw[HL0.o];rfl);(case hz3=>rfl);(case hz4=>rfl);(case hz5=>rw[HL0.o];kernel_rfl);(case hz6=>exact HK0.o.one);intro W2 hz hb hlt;have HX2:=I hz;have HB2:=I hb;have HLT2:=I hlt;clear hz hb hlt))
 obtain⟨X,hX⟩:∃ X,w1.heap.size= X:=⟨_,rfl⟩
 rw[hX] at HX2 HB2 HLT2
 rw[hX]
 have hXX:=hX
 have HXG:Hid (p < X/\X≠pb/\X≠tb):=I ⟨by have:=HRW.o;have:=HB1.o.size;omega,by have:=HS1.o.lt;omega,by have:=HS1.o.lt;omega⟩
 have hB12:Below w1.heap.size w1 W2:=by rw[hX];exact HB2.o
 have HR2:=I ((HR0.o.keep (HB1.o.block p HRW.o HPN.o.1 HPN.o.1)).keep (hB12.block p (by rw[hX];exact HXG.o.1)))
 have HS2:=I (HS1.o.keep hB12)
 have HK2:Hid (KeptP (fun b=>p < b/\b≠X) W2 cs0 x):=I (HK0.o.to (fun b h1 h2=>⟨⟨by have:=HRW.o;omega,by omega⟩,hB12.block b h2⟩) hB12.size)
 have HBW2:Hid (But w W2 pb pb):=I ((But.of_below HB0.o pb pb).trans (HB1.o.trans (But.of_below hB12 pb pb)))
 clear hX hXX hB12 HB1 HB2 HLT2 HK0 HS1 HS0 HR0
 go_wp2
 go_loopg [] (toks.length - j) (fun q u=>∃ (x:ET) (i:Nat) (cs:List Value),PL 163 [(⟨#[124,124]⟩,14)] h pb tb c E toks x i z k/\q= toks.length - i/\Whole 30 u X cs/\Whole 30 u p zEc/\KeptP (fun b=>p < b/\b≠X) u cs x/\PSt pb tb c E toks u i d/\But w u pb pb)
 case atStart=>exact⟨x,j,cs0,HPL.o,rfl,HX2.o,HR2.o,HK2.o,HS2.o,HBW2.o⟩
 case round=>
  clear HX2 HR2 HK2 HS2 HBW2 HL0 HPL
  obtain⟨x,i,cs,hpl,hq,hx,hr,hk,hs,hb⟩:=hrel
  have HX:=I hx
  have HR:=I hr
  have HK:=I hk
  have HS:=I hs
  have HB:=I hb
  have HGQ:=I hq
  clear hx hr hk hs hb hq
  cases hpl with
  |done _ _ hno=>
   have HNO:=I hno
   clear hno
   go_upto_region 4 with (go_at_call 125;refine(zN HS.o (HNO.o (⟨#[124,124]⟩,14) (by simp))).mono ?_;rintro e v0 ⟨rfl,h1,h2⟩;have HT0:=I h1;have HTB0:=I h2;clear h1 h2)
   have HTB:=I HTB0.o
   have HXv:=I (HX.o.keep (HTB.o.block X HX.o.lt HXG.o.2.1 HXG.o.2.1))
   have HRv:=I (HR.o.keep (HTB.o.block p HR.o.lt HPN.o.1 HPN.o.1))
   have HKv:Hid (KeptP (fun b=>p < b/\b≠X) v0 cs z):=I (HK.o.to (fun b h1 h2=>⟨h1,HTB.o.block b h2 (by have:=h1.1;have:=HPN.o;have:=HP.o;have:=H.o.lt;omega) (by have:=h1.1;have:=HPN.o;have:=HP.o;have:=H.o.lt;omega)⟩) HTB.o.size)
   have HBv:=I (HB.o.trans HTB.o)
   clear HX HR HK
   have HX:=HXv
   have HK:=HKv
   have HXR:=I (HX.o.range)
   have HLX:=I (HK.o.len)
   go_wp2_with (first
    |((with_reducible refine z7 30 _ rfl ?_ X 0 cs _ rfl HXR.o Tryz.underlying30 rfl ?_ ?_);exact wA rfl;rw[HLX.o];kernel_rfl)
    |((with_reducible refine zd 30 _ _ rfl rfl ?_ p zEc cs HRv.o ?_ ?_ ?_ ?_ ?_ ?_);exact wA rfl;rw[HLX.o];rfl;rfl;rfl;rw[HLX.o];kernel_rfl;exact HK.o.one;intro Z hz hb;have HZ:=I hz;have HZB:=I hb;clear hz hb))
   (try simp only[Exit.inBlock,Exit.then])
   refine bodyPost_ret (zH rfl _ _ p cs HLX.o rfl HZ.o) rfl ?_
   have hp:=HP.o
   refine⟨cs,rfl,?_,HT0.o.under p HPN.o.1 HPN.o.2 HZB.o,zT HBv.o HZB.o (by omega)⟩
   exact KeptP.to (q:=fun b=>w.heap.size<=b) HK.o (fun b h1 h2=>⟨by have:=h1.1;show w.heap.size<=b;omega,HZB.o.block b h2 (by have:=h1.1;omega) (by have:=h1.1;omega)⟩) HZB.o.size
  |step _ _ y j z _ sg hmem his hsub hlt hrest=>
   have HSUB2:=I hsub
   have HREST:=I hrest
   have HLT:=I hlt
   have HIS:=I his
   clear hsub hrest hlt his
   simp only[List.mem_cons,List.not_mem_nil,or_false] at hmem
   rcases hmem with rfl
   ·go_upto_region 3 with (go_at_call 125;refine(z0H HS.o HIS.o).mono ?_;rintro e v0 ⟨rfl,h1,h2⟩;have HT0:=I h1;have HTB0:=I h2;clear h1 h2)
    have HTB:=I HTB0.o
    have HXv:=I (HX.o.keep (HTB.o.block X HX.o.lt HXG.o.2.1 HXG.o.2.1))
    have HRv:=I (HR.o.keep (HTB.o.block p HR.o.lt HPN.o.1 HPN.o.1))
    have HKv:Hid (KeptP (fun b=>p < b/\b≠X) v0 cs x):=I (HK.o.to (fun b h1 h2=>⟨h1,HTB.o.block b h2 (by have:=h1.1;have:=HPN.o;have:=HP.o;have:=H.o.lt;omega) (by have:=h1.1;have:=HPN.o;have:=HP.o;have:=H.o.lt;omega)⟩) HTB.o.size)
    have HBv:=I (HB.o.trans HTB.o)
    have hs:Whole 30 v0.drew X cs:=HXv.o
    refine zG 4 [(0,true),(1,true),(2,false),(3,false)]
     (fun z=>Whole 30 z X cs) (by kernel_rfl) (by kernel_rfl) rfl (by intro c a d v w h;cases d<;>exact h) ?_
    refine z8 (some 8) (.agg ⟨cs⟩) _ rfl rfl (by exact wA rfl) hs (fun z hz=>zD 30 rfl X 0 cs _ rfl hz.range Tryz.underlying30 rfl (by rw[HK.o.len];kernel_rfl)) ?_
    go_frame
    refine zh (some 9) (.pointer (some ⟨pb,0,none⟩)) _ _ rfl rfl rfl (by exact wA rfl) hs rfl ?_
    go_frame
    refine zx (some 10) 163 Tryz.func163 (by kernel_rfl) (by kernel_rfl) [.pointer (some ⟨pb,0,none⟩)] _ _ _ rfl rfl rfl (by exact wA rfl) rfl ?_
    refine(HSUB2.o v0.drew d (HT0.o.keep (Below.refl _ v0).drew) HD.o.1 HD.o.2).mono ?_
    rintro e w5 ⟨cb,rfl,hkb,h1,h2⟩
    have hlb:=hkb.len
    have hb5:But v0 w5 pb pb:=(But.of_below (Below.refl _ v0).drew pb pb).trans h2
    have hs5:Whole 30 w5 X cs:=HXv.o.keep (hb5.block X HXv.o.lt HXG.o.2.1 HXG.o.2.1)
    refine⟨_,rfl,hs5,?_⟩
    go_frame
    have hka:KeptP (fun b=>p < b/\b≠X) w5 cs x:=HKv.o.to (fun b h1 h2=>⟨h1,hb5.block b h2 (by have:=h1.1;have:=HPN.o;have:=HP.o;have:=H.o.lt;omega) (by have:=h1.1;have:=HPN.o;have:=HP.o;have:=H.o.lt;omega)⟩) hb5.size
    have hkb2:KeptP (fun b=>p < b/\b≠X) w5 cb y:=hkb.to (fun b h1 h2=>⟨⟨by have h3:v0.heap.size<=b:=h1;have:=HRv.o.lt;omega,by have h3:v0.heap.size<=b:=h1;have:=HXv.o.lt;omega⟩,rfl⟩) (Nat.le_refl _)
    refine zx (some 11) 164 Tryz.func164 (by kernel_rfl) (by kernel_rfl) [.int .i64 14,.agg ⟨cs⟩,.agg ⟨cb⟩] _ _ _ rfl rfl rfl (by exact wA rfl) rfl ?_
    refine(z1c 14 cs cb hka.len hlb hka.one hkb2.one w5).mono ?_
    rintro e w6 ⟨g,rfl,hg,hwg,hb6⟩
    have hs6:Whole 30 w6 X cs:=hs5.keep (hb6.block X hs5.lt)
    refine⟨_,rfl,hs6,?_⟩
    go_frame
    refine z0o ?_
    simp only[List.drop_succ_cons,List.drop_zero]
    have hpg:p < g/\g≠X:=⟨by have:=HRv.o.lt;have:=hb5.size;omega,by have:=hs5.lt;omega⟩
    have hkt:KeptP (fun b=>p < b/\b≠X) w6 (twoC 14 g) (twoE 14 x y):=z0Q (zI 14 (by decide +kernel)) hwg hpg (hka.to (fun b h1 h2=>⟨h1,hb6.block b h2⟩) hb6.size) (hkb2.to (fun b h1 h2=>⟨h1,hb6.block b h2⟩) hb6.size)
    have HKT:=I hkt
    have HX6:=I hs6
    have HR6:=I ((HRv.o.keep (hb5.block p HRv.o.lt HPN.o.1 HPN.o.1)).keep (hb6.block p (by have:=HRv.o.lt;have:=hb5.size;omega)))
    have HS6:=I (h1.keep hb6)
    have HB6:=I (HBv.o.trans (hb5.trans (But.of_below hb6 pb pb)))
    have HLX:=I hka.len
    clear hs hs5 hs6 hb5 hka hkb hkb2 hlb hwg hb6 hkt hg hpg h1 h2
    go_wp2_with ((with_reducible refine zd 30 _ _ rfl rfl ?_ X cs (twoC 14 g) HX6.o ?_ ?_ ?_ ?_ ?_ ?_);exact wA rfl;rw[HLX.o];rfl;rfl;rfl;rw[HKT.o.len];kernel_rfl;exact HKT.o.one;intro Z hz hb;have HZ:=I hz;have HZB:=I hb;clear hz hb)
    go_roundg (toks.length - j)
    case measure=>have:=HLT.o;have h2:=z1s HIS.o;have:=HGQ.o;omega
    case rel=>
     refine⟨_,j,_,HREST.o,rfl,HZ.o,HR6.o.keep (HZB.o.block p HR6.o.lt (by have:=HXG.o.1;omega) (by have:=HXG.o.1;omega)),HKT.o.to (fun b h1 h2=>⟨h1,HZB.o.block b h2 h1.2 h1.2⟩) HZB.o.size,HS6.o.under X HXG.o.2.1 HXG.o.2.2 HZB.o,zT HB6.o HZB.o (by have:=HXG.o.1;have:=HP.o;omega)⟩
end
end
section
open Go Go.RowKit
section
variable {pb tb c:Nat} {E:Int} {toks:List Tok}
theorem zgg {i j h:Nat} {x:ET} (hsub:PCon pb tb c E toks 221 i j h x) (n1:isB toks j ⟨#[61,61]⟩= false) (n2:isB toks j ⟨#[60,61]⟩= false) (n3:isB toks j ⟨#[60]⟩= false):PCon pb tb c E toks 196 i j h x:=by
 intro w d h h0 hd
 have HSUB:=I hsub
 have HN1:=I n1
 have HN2:=I n2
 have HN3:=I n3
 clear hsub n1 n2 n3
 go_enter Tryz.func196,Tryz.ntmps196
 go_upto_region 1 with (fail)
 have HR0:=I (Whole.new w zEc 30)
 have HB0:=I (zc w (.cells zEc.toArray 30))
 have hz:=z0v
 rw[hz]
 clear hz
 have HRW:Hid (w.heap.size <(w.alloc (.cells zEc.toArray 30)).heap.size):=I (by simp)
 generalize w.alloc (.cells zEc.toArray 30)= W at*
 obtain⟨p,hp⟩:∃ p,w.heap.size= p:=⟨_,rfl⟩
 rw[hp] at HR0 HRW
 rw[hp]
 have HP:=I hp
 have HS0:=I (h.keep HB0.o)
 have HPN:Hid (p≠pb/\p≠tb):=I ⟨by have:=h.lt;omega,by have:=h.lt;omega⟩
 have H:=I h
 have HD:=I (And.intro h0 hd)
 clear hp h h0 hd
 go_upto_region 2 with (first
  |(go_at_call 221;refine(HSUB.o W d HS0.o HD.o.1 HD.o.2).mono ?_;rintro e w1 ⟨cs0,rfl,hk,h1,h2⟩;have hl:=hk.len;have HL0:=I hl;have HK0:=I hk;have HS1:=I h1;have HB1:=I h2;clear hl hk h1 h2)
  |((with_reducible refine z0x 30 _ _ rfl rfl ?hwe w1 ?zne cs0 ?hz1 ?hz2 ?hz3 ?hz4 ?hz5 ?hz6 ?_);(case hwe=>exact wA rfl);(case hz1=>rfl);(case hz2=>rw[HL0.o];rfl);(case hz3=>rfl);(case hz4=>rfl);(case hz5=>rw[HL0.o];kernel_rfl);(case hz6=>exact HK0.o.one);intro W2 hz hb hlt;have HX2:=I hz;have HB2:=I hb;have HLT2:=I hlt;clear hz hb hlt))
 obtain⟨X,hX⟩:∃ X,w1.heap.size= X:=⟨_,rfl⟩
 rw[hX] at HX2 HB2 HLT2
 rw[hX]
 have hXX:=hX
 have HXG:Hid (p < X/\X≠pb/\X≠tb):=I ⟨by have:=HRW.o;have:=HB1.o.size;omega,by have:=HS1.o.lt;omega,by have:=HS1.o.lt;omega⟩
 have hB12:Below w1.heap.size w1 W2:=by rw[hX];exact HB2.o
 have HR2:=I ((HR0.o.keep (HB1.o.block p HRW.o HPN.o.1 HPN.o.1)).keep (hB12.block p (by rw[hX];exact HXG.o.1)))
 have HS2:=I (HS1.o.keep hB12)
 have HK2:Hid (KeptP (fun b=>p < b/\b≠X) W2 cs0 x):=I (HK0.o.to (fun b h1 h2=>⟨⟨by have:=HRW.o;omega,by omega⟩,hB12.block b h2⟩) hB12.size)
 have HBW2:Hid (But w W2 pb pb):=I ((But.of_below HB0.o pb pb).trans (HB1.o.trans (But.of_below hB12 pb pb)))
 clear hX hXX hB12 HB1 HB2 HLT2 HK0 HS1 HS0 HR0
 have HX:=HX2
 have HR:=HR2
 have HK:=HK2
 have HS:=HS2
 have HB:=HBW2
 clear HX2 HR2 HK2 HS2 HBW2
 obtain⟨cs,hcs⟩:∃ cs,cs= cs0:=⟨_,rfl⟩
 rw[← hcs] at HX HK HL0
 rw[← hcs]
 clear hcs
 go_upto_region 4 with (go_at_call 125;refine(zN HS.o HN1.o).mono ?_;rintro e v0 ⟨rfl,h1,h2⟩;have HT0:=I h1;have HTB0:=I h2;clear h1 h2)
 go_upto_region 6 with (go_at_call 125;refine(zN HT0.o HN2.o).mono ?_;rintro e v1 ⟨rfl,h1,h2⟩;have HT1:=I h1;have HTB1:=I h2;clear h1 h2)
 go_upto_region 8 with (go_at_call 125;refine(zN HT1.o HN3.o).mono ?_;rintro e v2 ⟨rfl,h1,h2⟩;have HT2:=I h1;have HTB2:=I h2;clear h1 h2)
 have HTB:=I (HTB0.o.trans (HTB1.o.trans HTB2.o))
 have HXv:=I (HX.o.keep (HTB.o.block X HX.o.lt HXG.o.2.1 HXG.o.2.1))
 have HRv:=I (HR.o.keep (HTB.o.block p HR.o.lt HPN.o.1 HPN.o.1))
 have HKv:Hid (KeptP (fun b=>p < b/\b≠X) v2 cs x):=I (HK.o.to (fun b h1 h2=>⟨h1,HTB.o.block b h2 (by have:=h1.1;have:=HPN.o;have:=HP.o;have:=H.o.lt;omega) (by have:=h1.1;have:=HPN.o;have:=HP.o;have:=H.o.lt;omega)⟩) HTB.o.size)
 have HBv:=I (HB.o.trans HTB.o)
 clear HX HR HK
 have HX:=HXv
 have HK:=HKv
 have HXR:=I (HX.o.range)
 have HLX:=I (HK.o.len)
 go_wp2_with (first
  |((with_reducible refine z7 30 _ rfl ?_ X 0 cs _ rfl HXR.o Tryz.underlying30 rfl ?_ ?_);exact wA rfl;rw[HLX.o];kernel_rfl)
  |((with_reducible refine zd 30 _ _ rfl rfl ?_ p zEc cs HRv.o ?_ ?_ ?_ ?_ ?_ ?_);exact wA rfl;rw[HLX.o];rfl;rfl;rfl;rw[HLX.o];kernel_rfl;exact HK.o.one;intro Z hz hb;have HZ:=I hz;have HZB:=I hb;clear hz hb))
 (try simp only[Exit.inBlock,Exit.then])
 refine bodyPost_ret (zH rfl _ _ p cs HLX.o rfl HZ.o) rfl ?_
 have hp:=HP.o
 refine⟨cs,rfl,?_,HT2.o.under p HPN.o.1 HPN.o.2 HZB.o,zT HBv.o HZB.o (by omega)⟩
 exact KeptP.to (q:=fun b=>w.heap.size<=b) HK.o (fun b h1 h2=>⟨by have:=h1.1;show w.heap.size<=b;omega,HZB.o.block b h2 (by have:=h1.1;omega) (by have:=h1.1;omega)⟩) HZB.o.size
theorem zfu {i j h:Nat} {x:ET} (hsub:PCon pb tb c E toks 124 i j h x) (n1:isB toks j ⟨#[63]⟩= false):PCon pb tb c E toks 85 i j (h+1) x:=by
 intro w d h h0 hd
 have HSUB:=I hsub
 have HN1:=I n1
 clear hsub n1
 go_enter Tryz.func85,Tryz.ntmps85
 go_upto_region 1 with (fail)
 have HR0:=I (Whole.new w zEc 30)
 have HB0:=I (zc w (.cells zEc.toArray 30))
 have hz:=z0v
 rw[hz]
 clear hz
 have HRW:Hid (w.heap.size <(w.alloc (.cells zEc.toArray 30)).heap.size):=I (by simp)
 generalize w.alloc (.cells zEc.toArray 30)= W at*
 obtain⟨p,hp⟩:∃ p,w.heap.size= p:=⟨_,rfl⟩
 rw[hp] at HR0 HRW
 rw[hp]
 have HP:=I hp
 have HS0:=I (h.keep HB0.o)
 have HPN:Hid (p≠pb/\p≠tb):=I ⟨by have:=h.lt;omega,by have:=h.lt;omega⟩
 have H:=I h
 have HD:=I (And.intro h0 hd)
 clear hp h h0 hd
 go_upto_region 2 with (go_at_call 123;refine(z8L HS0.o HD.o.1 (by have:=HD.o.2;omega)).mono ?_;rintro e w0 ⟨rfl,h1,h2⟩;have HS00:=I h1;have HB00:=I h2;clear h1 h2)
 have HR00:=I (HR0.o.keep (HB00.o.block p HRW.o HPN.o.1 HPN.o.1))
 have HRW0:Hid (p < w0.heap.size):=I HR00.o.lt
 have HBB0:=I ((But.of_below HB0.o pb pb).trans HB00.o)
 clear HR0 HRW HS0 HB0 HB00
 have HR0:=HR00
 have HRW:=HRW0
 have HS0:=HS00
 clear HR00 HRW0 HS00
 go_upto_region 3 with (first
  |(go_at_call 124;refine(HSUB.o w0 (d+1) HS0.o (by have:=HD.o.1;omega) (by have:=HD.o.2;omega)).mono ?_;rintro e w1 ⟨cs0,rfl,hk,h1,h2⟩;have hl:=hk.len;have HL0:=I hl;have HK0:=I hk;have HS1:=I h1;have HB1:=I h2;clear hl hk h1 h2)
  |((with_reducible refine z0x 30 _ _ rfl rfl ?hwe w1 ?zne cs0 ?hz1 ?hz2 ?hz3 ?hz4 ?hz5 ?hz6 ?_);(case hwe=>exact wA rfl);(case hz1=>rfl);(case hz2=>rw[HL0.o];rfl);(case hz3=>rfl);(case hz4=>rfl);(case hz5=>rw[HL0.o];kernel_rfl);(case hz6=>exact HK0.o.one);intro W2 hz hb hlt;have HX2:=I hz;have HB2:=I hb;have HLT2:=I hlt;clear hz hb hlt))
 obtain⟨X,hX⟩:∃ X,w1.heap.size= X:=⟨_,rfl⟩
 rw[hX] at HX2 HB2 HLT2
 rw[hX]
 have hXX:=hX
 have HXG:Hid (p < X/\X≠pb/\X≠tb):=I ⟨by have:=HRW.o;have:=HB1.o.size;omega,by have:=HS1.o.lt;omega,by have:=HS1.o.lt;omega⟩
 have hB12:Below w1.heap.size w1 W2:=by rw[hX];exact HB2.o
 have HR2:=I ((HR0.o.keep (HB1.o.block p HRW.o HPN.o.1 HPN.o.1)).keep (hB12.block p (by rw[hX];exact HXG.o.1)))
 have HS2:=I (HS1.o.keep hB12)
 have HK2:Hid (KeptP (fun b=>p < b/\b≠X) W2 cs0 x):=I (HK0.o.to (fun b h1 h2=>⟨⟨by have:=HRW.o;omega,by omega⟩,hB12.block b h2⟩) hB12.size)
 have HBW2:Hid (But w W2 pb pb):=I (HBB0.o.trans (HB1.o.trans (But.of_below hB12 pb pb)))
 clear hX hXX hB12 HB1 HB2 HLT2 HK0 HS1 HS0 HR0
 have HX:=HX2
 have HR:=HR2
 have HK:=HK2
 have HS:=HS2
 have HB:=HBW2
 clear HX2 HR2 HK2 HS2 HBW2
 obtain⟨cs,hcs⟩:∃ cs,cs= cs0:=⟨_,rfl⟩
 rw[← hcs] at HX HK HL0
 rw[← hcs]
 clear hcs
 go_upto_region 8 with (go_at_call 125;refine(zN HS.o HN1.o).mono ?_;rintro e v0 ⟨rfl,h1,h2⟩;have HT0:=I h1;have HTB0:=I h2;clear h1 h2)
 have HTB:=I HTB0.o
 have HXv:=I (HX.o.keep (HTB.o.block X HX.o.lt HXG.o.2.1 HXG.o.2.1))
 have HRv:=I (HR.o.keep (HTB.o.block p HR.o.lt HPN.o.1 HPN.o.1))
 have HKv:Hid (KeptP (fun b=>p < b/\b≠X) v0 cs x):=I (HK.o.to (fun b h1 h2=>⟨h1,HTB.o.block b h2 (by have:=h1.1;have:=HPN.o;have:=HP.o;have:=H.o.lt;omega) (by have:=h1.1;have:=HPN.o;have:=HP.o;have:=H.o.lt;omega)⟩) HTB.o.size)
 have HBv:=I (HB.o.trans HTB.o)
 have HSu:=HT0
 have d5:=HSu.o.cell 5
 have f5:=HSu.o.thaw 5
 simp only[List.getElem?_toArray,List.getElem?_cons_succ,List.getElem?_cons_zero] at d5
 have HS9:=I (HSu.o.setD d)
 have HB9:=I (But.setAt v0 pb 5 (.int .i64 d))
 have hd1:d+1 - 1= d:=by omega
 have hd2:wrap64 d= d:=by have:=HD.o;unfold wrap64;omega
 go_upto_region 9 with (fail)
 generalize v0.setCell ⟨pb,5,none⟩ (.int .i64 d)= v9 at*
 have HX9:=I (HXv.o.keep (HB9.o.block X HXv.o.lt HXG.o.2.1 HXG.o.2.1))
 have HR9:=I (HRv.o.keep (HB9.o.block p HRv.o.lt HPN.o.1 HPN.o.1))
 have HK9:Hid (KeptP (fun b=>p < b/\b≠X) v9 cs x):=I (HKv.o.to (fun b h1 h2=>⟨h1,HB9.o.block b h2 (by have:=h1.1;have:=HPN.o;have:=HP.o;have:=H.o.lt;omega) (by have:=h1.1;have:=HPN.o;have:=HP.o;have:=H.o.lt;omega)⟩) HB9.o.size)
 have HB10:=I (HBv.o.trans HB9.o)
 clear HX HR HK HXv HRv HKv d5 f5 hd1 hd2
 have HX:=HX9
 have HK:=HK9
 have HXR:=I (HX.o.range)
 have HLX:=I (HK.o.len)
 go_wp2_with (first
  |((with_reducible refine z7 30 _ rfl ?_ X 0 cs _ rfl HXR.o Tryz.underlying30 rfl ?_ ?_);exact wA rfl;rw[HLX.o];kernel_rfl)
  |((with_reducible refine zd 30 _ _ rfl rfl ?_ p zEc cs HR9.o ?_ ?_ ?_ ?_ ?_ ?_);exact wA rfl;rw[HLX.o];rfl;rfl;rfl;rw[HLX.o];kernel_rfl;exact HK.o.one;intro Z hz hb;have HZ:=I hz;have HZB:=I hb;clear hz hb))
 (try simp only[Exit.inBlock,Exit.then])
 refine bodyPost_ret (zH rfl _ _ p cs HLX.o rfl HZ.o) rfl ?_
 have hp:=HP.o
 refine⟨cs,rfl,?_,HS9.o.under p HPN.o.1 HPN.o.2 HZB.o,zT HB10.o HZB.o (by omega)⟩
 exact KeptP.to (q:=fun b=>w.heap.size<=b) HK.o (fun b h1 h2=>⟨by have:=h1.1;show w.heap.size<=b;omega,HZB.o.block b h2 (by have:=h1.1;omega) (by have:=h1.1;omega)⟩) HZB.o.size
theorem zeC {i j h:Nat} {x:ET} (hsub:PCon pb tb c E toks 247 i j h x) (n1:isB toks i ⟨#[45]⟩= false) (n2:isB toks i ⟨#[33]⟩= false):PCon pb tb c E toks 243 i j (h+1) x:=by
 intro w d h h0 hd
 have HSUB:=I hsub
 have HN1:=I n1
 have HN2:=I n2
 clear hsub n1 n2
 go_enter Tryz.func243,Tryz.ntmps243
 go_upto_region 1 with (fail)
 have HR0:=I (Whole.new w zEc 30)
 have HB0:=I (zc w (.cells zEc.toArray 30))
 have hz:=z0v
 rw[hz]
 clear hz
 have HRW:Hid (w.heap.size <(w.alloc (.cells zEc.toArray 30)).heap.size):=I (by simp)
 generalize w.alloc (.cells zEc.toArray 30)= W at*
 obtain⟨p,hp⟩:∃ p,w.heap.size= p:=⟨_,rfl⟩
 rw[hp] at HR0 HRW
 rw[hp]
 have HP:=I hp
 have HS0:=I (h.keep HB0.o)
 have HPN:Hid (p≠pb/\p≠tb):=I ⟨by have:=h.lt;omega,by have:=h.lt;omega⟩
 have H:=I h
 have HD:=I (And.intro h0 hd)
 clear hp h h0 hd
 go_upto_region 2 with (go_at_call 123;refine(z8L HS0.o HD.o.1 (by have:=HD.o.2;omega)).mono ?_;rintro e w0 ⟨rfl,h1,h2⟩;have HS00:=I h1;have HB00:=I h2;clear h1 h2)
 have HR00:=I (HR0.o.keep (HB00.o.block p HRW.o HPN.o.1 HPN.o.1))
 have HRW0:Hid (p < w0.heap.size):=I HR00.o.lt
 have HBB0:=I ((But.of_below HB0.o pb pb).trans HB00.o)
 clear HR0 HRW HS0 HB0 HB00
 have HR0:=HR00
 have HRW:=HRW0
 have HS0:=HS00
 clear HR00 HRW0 HS00
 go_upto_region 3 with ((with_reducible refine z0x 30 _ _ rfl rfl ?hwe w0 ?zne zEc ?hz1 ?hz2 ?hz3 ?hz4 ?hz5 ?hz6 ?_);(case hwe=>exact wA rfl);(case hz1=>rfl);(case hz2=>rfl);(case hz3=>rfl);(case hz4=>rfl);(case hz5=>kernel_rfl);(case hz6=>intro v hv;simp only[zEc,zVc,List.mem_cons,List.mem_append,List.not_mem_nil,or_false] at hv;rcases hv with rfl|rfl|(rfl|rfl|rfl|rfl|rfl|rfl)|rfl|rfl<;>rfl);intro W2 hz hb hlt;have HX2:=I hz;have HB2:=I hb;have HLT2:=I hlt;clear hz hb hlt)
 obtain⟨X,hX⟩:∃ X,w0.heap.size= X:=⟨_,rfl⟩
 rw[hX] at HX2 HB2 HLT2
 rw[hX]
 have HXG:Hid (p < X/\X≠pb/\X≠tb):=I ⟨by have:=HRW.o;omega,by have:=HS0.o.lt;omega,by have:=HS0.o.lt;omega⟩
 have hB02:Below w0.heap.size w0 W2:=by rw[hX];exact HB2.o
 have HR2:=I (HR0.o.keep (hB02.block p (by rw[hX];exact HXG.o.1)))
 have HS2:=I (HS0.o.keep hB02)
 have HBW2:Hid (But w W2 pb pb):=I (HBB0.o.trans (But.of_below hB02 pb pb))
 clear hX hB02 HB2 HLT2 HS0 HR0 HBB0 HRW
 have HX:=HX2
 have HR:=HR2
 have HS:=HS2
 have HB:=HBW2
 clear HX2 HR2 HS2 HBW2
 go_upto_region 5 with (go_at_call 125;refine(zN HS.o HN1.o).mono ?_;rintro e v0 ⟨rfl,h1,h2⟩;have HT0:=I h1;have HTB0:=I h2;clear h1 h2)
 go_upto_region 7 with (go_at_call 125;refine(zN HT0.o HN2.o).mono ?_;rintro e v1 ⟨rfl,h1,h2⟩;have HT1:=I h1;have HTB1:=I h2;clear h1 h2)
 have HTB:=I (HTB0.o.trans HTB1.o)
 have HX1:=I (HX.o.keep (HTB.o.block X HX.o.lt HXG.o.2.1 HXG.o.2.1))
 have HR1:=I (HR.o.keep (HTB.o.block p HR.o.lt HPN.o.1 HPN.o.1))
 have HB1:=I (HB.o.trans HTB.o)
 clear HX HR HB HS HTB0 HTB1 HT0 HTB
 go_upto_region 8 with (first
  |(go_at_call 247;refine(HSUB.o v1 (d+1) HT1.o (by have:=HD.o.1;omega) (by have:=HD.o.2;omega)).mono ?_;rintro e w3 ⟨cs,rfl,hk,h1,h2⟩;have hl:=hk.len;have HLX:=I hl;have HK3:=I hk;have HS3:=I h1;have HB3:=I h2;have HX3:=I (HX1.o.keep (h2.block X HX1.o.lt HXG.o.2.1 HXG.o.2.1));clear hl hk h1 h2)
  |((with_reducible refine zd 30 _ _ rfl rfl ?_ X zEc cs HX3.o ?_ ?_ ?_ ?_ ?_ ?_);exact wA rfl;rw[HLX.o];rfl;rfl;rfl;rw[HLX.o];kernel_rfl;exact HK3.o.one;intro v0 hz hb;have HX4:=I hz;have HB4:=I hb;clear hz hb))
 have HXv:=HX4
 have HRv:=I ((HR1.o.keep (HB3.o.block p HR1.o.lt HPN.o.1 HPN.o.1)).keep (HB4.o.block p (by have:=HX3.o.lt;have:=HXG.o.1;omega) (by have:=HXG.o.1;omega) (by have:=HXG.o.1;omega)))
 have HKv:Hid (KeptP (fun b=>p < b/\b≠X) v0 cs x):=I (KeptP.to (q:=fun b=>p < b/\b≠X) HK3.o (fun b h1 h2=>by
  have h3:v1.heap.size<=b:=h1
  have h4:=HX1.o.lt
  have h5:=HXG.o.1
  exact⟨⟨by omega,by omega⟩,HB4.o.block b h2 (by omega) (by omega)⟩) HB4.o.size)
 have HBv:=I (zT (HB1.o.trans HB3.o) HB4.o (by have:=HXG.o.1;have:=HP.o;omega))
 have HSu:=I (HS3.o.under X HXG.o.2.1 HXG.o.2.2 HB4.o)
 have HX:=HX4
 have HR:=HRv
 have HK:=HKv
 clear HX1 HR1 HB1 HX3 HB3 HB4 HX4 HK3 HS3
 have d5:=HSu.o.cell 5
 have f5:=HSu.o.thaw 5
 simp only[List.getElem?_toArray,List.getElem?_cons_succ,List.getElem?_cons_zero] at d5
 have HS9:=I (HSu.o.setD d)
 have HB9:=I (But.setAt v0 pb 5 (.int .i64 d))
 have hd1:d+1 - 1= d:=by omega
 have hd2:wrap64 d= d:=by have:=HD.o;unfold wrap64;omega
 go_upto_region 9 with (fail)
 generalize v0.setCell ⟨pb,5,none⟩ (.int .i64 d)= v9 at*
 have HX9:=I (HXv.o.keep (HB9.o.block X HXv.o.lt HXG.o.2.1 HXG.o.2.1))
 have HR9:=I (HRv.o.keep (HB9.o.block p HRv.o.lt HPN.o.1 HPN.o.1))
 have HK9:Hid (KeptP (fun b=>p < b/\b≠X) v9 cs x):=I (HKv.o.to (fun b h1 h2=>⟨h1,HB9.o.block b h2 (by have:=h1.1;have:=HPN.o;have:=HP.o;have:=H.o.lt;omega) (by have:=h1.1;have:=HPN.o;have:=HP.o;have:=H.o.lt;omega)⟩) HB9.o.size)
 have HB10:=I (HBv.o.trans HB9.o)
 clear HX HR HK HXv HRv HKv d5 f5 hd1 hd2
 have HX:=HX9
 have HK:=HK9
 have HXR:=I (HX.o.range)
 go_wp2_with (first
  |((with_reducible refine z7 30 _ rfl ?_ X 0 cs _ rfl HXR.o Tryz.underlying30 rfl ?_ ?_);exact wA rfl;rw[HLX.o];kernel_rfl)
  |((with_reducible refine zd 30 _ _ rfl rfl ?_ p zEc cs HR9.o ?_ ?_ ?_ ?_ ?_ ?_);exact wA rfl;rw[HLX.o];rfl;rfl;rfl;rw[HLX.o];kernel_rfl;exact HK.o.one;intro Z hz hb;have HZ:=I hz;have HZB:=I hb;clear hz hb))
 (try simp only[Exit.inBlock,Exit.then])
 refine bodyPost_ret (zH rfl _ _ p cs HLX.o rfl HZ.o) rfl ?_
 have hp:=HP.o
 refine⟨cs,rfl,?_,HS9.o.under p HPN.o.1 HPN.o.2 HZB.o,zT HB10.o HZB.o (by omega)⟩
 exact KeptP.to (q:=fun b=>w.heap.size<=b) HK.o (fun b h1 h2=>⟨by have:=h1.1;show w.heap.size<=b;omega,HZB.o.block b h2 (by have:=h1.1;omega) (by have:=h1.1;omega)⟩) HZB.o.size
inductive PI (h:Nat) (pb tb c:Nat) (E:Int) (toks:List Tok):ET->Nat->ET->Nat->Prop
 |done (x:ET) (i:Nat):isB toks i ⟨#[46]⟩= false->isB toks i ⟨#[91]⟩= false->PI h pb tb c E toks x i x i
 |step (x:ET) (i:Nat) (y:ET) (j:Nat) (z:ET) (k:Nat):isB toks i ⟨#[91]⟩= true->PCon pb tb c E toks 85 (i+1) j h y->isB toks j ⟨#[93]⟩= true->i < j->PI h pb tb c E toks (twoE 19 x y) (j+1) z k->PI h pb tb c E toks x i z k
theorem zfj {i j k h:Nat} {x z:ET} (hsub:PCon pb tb c E toks 248 i j h x) (hl:PI h pb tb c E toks x j z k):PCon pb tb c E toks 247 i k h z:=by
 intro w d h h0 hd
 have HSUB:=I hsub
 have HPL:=I hl
 clear hsub hl
 go_enter Tryz.func247,Tryz.ntmps247
 go_upto_region 1 with (fail)
 have HR0:=I (Whole.new w zEc 30)
 have HB0:=I (zc w (.cells zEc.toArray 30))
 have hz:=z0v
 rw[hz]
 clear hz
 have HRW:Hid (w.heap.size <(w.alloc (.cells zEc.toArray 30)).heap.size):=I (by simp)
 generalize w.alloc (.cells zEc.toArray 30)= W at*
 obtain⟨p,hp⟩:∃ p,w.heap.size= p:=⟨_,rfl⟩
 rw[hp] at HR0 HRW
 rw[hp]
 have HP:=I hp
 have HS0:=I (h.keep HB0.o)
 have HPN:Hid (p≠pb/\p≠tb):=I ⟨by have:=h.lt;omega,by have:=h.lt;omega⟩
 have H:=I h
 have HD:=I (And.intro h0 hd)
 clear hp h h0 hd
 go_upto_region 2 with (first
  |(go_at_call 248;refine(HSUB.o W d HS0.o HD.o.1 HD.o.2).mono ?_;rintro e w1 ⟨cs0,rfl,hk,h1,h2⟩;have hl:=hk.len;have HL0:=I hl;have HK0:=I hk;have HS1:=I h1;have HB1:=I h2;clear hl hk h1 h2)
  |((with_reducible refine z0x 30 _ _ rfl rfl ?hwe w1 ?zne cs0 ?hz1 ?hz2 ?hz3 ?hz4 ?hz5 ?hz6 ?_);(case hwe=>exact wA rfl);(case hz1=>rfl);(case hz2=>rw[HL0.o];rfl);(case hz3=>rfl);(case hz4=>rfl);(case hz5=>rw[HL0.o];kernel_rfl);(case hz6=>exact HK0.o.one);intro W2 hz hb hlt;have HX2:=I hz;have HB2:=I hb;have HLT2:=I hlt;clear hz hb hlt))
 obtain⟨X,hX⟩:∃ X,w1.heap.size= X:=⟨_,rfl⟩
 rw[hX] at HX2 HB2 HLT2
 rw[hX]
 have hXX:=hX
 have HXG:Hid (p < X/\X≠pb/\X≠tb):=I ⟨by have:=HRW.o;have:=HB1.o.size;omega,by have:=HS1.o.lt;omega,by have:=HS1.o.lt;omega⟩
 have hB12:Below w1.heap.size w1 W2:=by rw[hX];exact HB2.o
 have HR2:=I ((HR0.o.keep (HB1.o.block p HRW.o HPN.o.1 HPN.o.1)).keep (hB12.block p (by rw[hX];exact HXG.o.1)))
 have HS2:=I (HS1.o.keep hB12)
 have HK2:Hid (KeptP (fun b=>p < b/\b≠X) W2 cs0 x):=I (HK0.o.to (fun b h1 h2=>⟨⟨by have:=HRW.o;omega,by omega⟩,hB12.block b h2⟩) hB12.size)
 have HBW2:Hid (But w W2 pb pb):=I ((But.of_below HB0.o pb pb).trans (HB1.o.trans (But.of_below hB12 pb pb)))
 clear hX hXX hB12 HB1 HB2 HLT2 HK0 HS1 HS0 HR0
 go_wp2
 go_loopg [] (toks.length - j) (fun q u=>∃ (x:ET) (i:Nat) (cs:List Value),PI h pb tb c E toks x i z k/\q= toks.length - i/\Whole 30 u X cs/\Whole 30 u p zEc/\KeptP (fun b=>p < b/\b≠X) u cs x/\PSt pb tb c E toks u i d/\But w u pb pb)
 case atStart=>exact⟨x,j,cs0,HPL.o,rfl,HX2.o,HR2.o,HK2.o,HS2.o,HBW2.o⟩
 case round=>
  clear HX2 HR2 HK2 HS2 HBW2 HL0 HPL
  obtain⟨x,i,cs,hpl,hq,hx,hr,hk,hs,hb⟩:=hrel
  have HX:=I hx
  have HR:=I hr
  have HK:=I hk
  have HS:=I hs
  have HB:=I hb
  have HGQ:=I hq
  clear hx hr hk hs hb hq
  cases hpl with
  |done _ _ hno1 hno2=>
   have HN1:=I hno1
   have HN2:=I hno2
   clear hno1 hno2
   go_upto_region 5 with (go_at_call 125;refine(zN HS.o HN1.o).mono ?_;rintro e v0 ⟨rfl,h1,h2⟩;have HT0:=I h1;have HTB0:=I h2;clear h1 h2)
   go_upto_region 8 with (go_at_call 125;refine(zN HT0.o HN2.o).mono ?_;rintro e v1 ⟨rfl,h1,h2⟩;have HT1:=I h1;have HTB1:=I h2;clear h1 h2)
   have HTB:=I (HTB0.o.trans HTB1.o)
   have HXv:=I (HX.o.keep (HTB.o.block X HX.o.lt HXG.o.2.1 HXG.o.2.1))
   have HRv:=I (HR.o.keep (HTB.o.block p HR.o.lt HPN.o.1 HPN.o.1))
   have HKv:Hid (KeptP (fun b=>p < b/\b≠X) v1 cs z):=I (HK.o.to (fun b h1 h2=>⟨h1,HTB.o.block b h2 (by have:=h1.1;have:=HPN.o;have:=HP.o;have:=H.o.lt;omega) (by have:=h1.1;have:=HPN.o;have:=HP.o;have:=H.o.lt;omega)⟩) HTB.o.size)
   have HBv:=I (HB.o.trans HTB.o)
   clear HX HR HK
   have HX:=HXv
   have HK:=HKv
   have HXR:=I (HX.o.range)
   have HLX:=I (HK.o.len)
   go_wp2_with (first
    |((with_reducible refine z7 30 _ rfl ?_ X 0 cs _ rfl HXR.o Tryz.underlying30 rfl ?_ ?_);exact wA rfl;rw[HLX.o];kernel_rfl)
    |((with_reducible refine zd 30 _ _ rfl rfl ?_ p zEc cs HRv.o ?_ ?_ ?_ ?_ ?_ ?_);exact wA rfl;rw[HLX.o];rfl;rfl;rfl;rw[HLX.o];kernel_rfl;exact HK.o.one;intro Z hz hb;have HZ:=I hz;have HZB:=I hb;clear hz hb))
   (try simp only[Exit.inBlock,Exit.then])
   refine bodyPost_ret (zH rfl _ _ p cs HLX.o rfl HZ.o) rfl ?_
   have hp:=HP.o
   refine⟨cs,rfl,?_,HT1.o.under p HPN.o.1 HPN.o.2 HZB.o,zT HBv.o HZB.o (by omega)⟩
   exact KeptP.to (q:=fun b=>w.heap.size<=b) HK.o (fun b h1 h2=>⟨by have:=h1.1;show w.heap.size<=b;omega,HZB.o.block b h2 (by have:=h1.1;omega) (by have:=h1.1;omega)⟩) HZB.o.size
  |step _ _ y j z _ his hsub hbr hlt hrest=>
   have HSUB2:=I hsub
   have HREST:=I hrest
   have HLT:=I hlt
   have HIS:=I his
   have HBR:=I hbr
   have hno0:isB toks i ⟨#[46]⟩= false:=z1S HIS.o (by decide +kernel)
   have HNO0:=I hno0
   clear hsub hrest hlt his hno0 hbr
   go_upto_region 5 with (go_at_call 125;refine(zN HS.o HNO0.o).mono ?_;rintro e v0 ⟨rfl,h1,h2⟩;have HT0:=I h1;have HTB0:=I h2;clear h1 h2)
   go_upto_region 6 with (go_at_call 125;refine(z0H HT0.o HIS.o).mono ?_;rintro e v1 ⟨rfl,h1,h2⟩;have HT1:=I h1;have HTB1:=I h2;clear h1 h2)
   have HTB:=I (HTB0.o.trans HTB1.o)
   have HXv:=I (HX.o.keep (HTB.o.block X HX.o.lt HXG.o.2.1 HXG.o.2.1))
   have HRv:=I (HR.o.keep (HTB.o.block p HR.o.lt HPN.o.1 HPN.o.1))
   have HKv:Hid (KeptP (fun b=>p < b/\b≠X) v1 cs x):=I (HK.o.to (fun b h1 h2=>⟨h1,HTB.o.block b h2 (by have:=h1.1;have:=HPN.o;have:=HP.o;have:=H.o.lt;omega) (by have:=h1.1;have:=HPN.o;have:=HP.o;have:=H.o.lt;omega)⟩) HTB.o.size)
   have HBv:=I (HB.o.trans HTB.o)
   have hs:Whole 30 v1.drew X cs:=HXv.o
   refine zG 4 [(0,true),(1,true),(2,false),(3,false)]
    (fun z=>Whole 30 z X cs) (by kernel_rfl) (by kernel_rfl) rfl (by intro c a d v w h;cases d<;>exact h) ?_
   refine z8 (some 15) (.agg ⟨cs⟩) _ rfl rfl (by exact wA rfl) hs (fun z hz=>zD 30 rfl X 0 cs _ rfl hz.range Tryz.underlying30 rfl (by rw[HK.o.len];kernel_rfl)) ?_
   go_frame
   refine zh (some 16) (.pointer (some ⟨pb,0,none⟩)) _ _ rfl rfl rfl (by exact wA rfl) hs rfl ?_
   go_frame
   refine zx (some 17) 85 Tryz.func85 (by kernel_rfl) (by kernel_rfl) [.pointer (some ⟨pb,0,none⟩)] _ _ _ rfl rfl rfl (by exact wA rfl) rfl ?_
   refine(HSUB2.o v1.drew d (HT1.o.keep (Below.refl _ v1).drew) HD.o.1 HD.o.2).mono ?_
   rintro e w5 ⟨cb,rfl,hkb,h1,h2⟩
   have hlb:=hkb.len
   have hb5:But v1 w5 pb pb:=(But.of_below (Below.refl _ v1).drew pb pb).trans h2
   have hs5:Whole 30 w5 X cs:=HXv.o.keep (hb5.block X HXv.o.lt HXG.o.2.1 HXG.o.2.1)
   refine⟨_,rfl,hs5,?_⟩
   go_frame
   have hka:KeptP (fun b=>p < b/\b≠X) w5 cs x:=HKv.o.to (fun b h1 h2=>⟨h1,hb5.block b h2 (by have:=h1.1;have:=HPN.o;have:=HP.o;have:=H.o.lt;omega) (by have:=h1.1;have:=HPN.o;have:=HP.o;have:=H.o.lt;omega)⟩) hb5.size
   have hkb2:KeptP (fun b=>p < b/\b≠X) w5 cb y:=hkb.to (fun b h1 h2=>⟨⟨by have h3:v1.heap.size<=b:=h1;have:=HRv.o.lt;omega,by have h3:v1.heap.size<=b:=h1;have:=HXv.o.lt;omega⟩,rfl⟩) (Nat.le_refl _)
   refine zx (some 18) 164 Tryz.func164 (by kernel_rfl) (by kernel_rfl) [.int .i64 19,.agg ⟨cs⟩,.agg ⟨cb⟩] _ _ _ rfl rfl rfl (by exact wA rfl) rfl ?_
   refine(z1c 19 cs cb hka.len hlb hka.one hkb2.one w5).mono ?_
   rintro e w6 ⟨g,rfl,hg,hwg,hb6⟩
   have hs6:Whole 30 w6 X cs:=hs5.keep (hb6.block X hs5.lt)
   refine⟨_,rfl,hs6,?_⟩
   go_frame
   refine z0o ?_
   simp only[List.drop_succ_cons,List.drop_zero]
   have hpg:p < g/\g≠X:=⟨by have:=HRv.o.lt;have:=hb5.size;omega,by have:=hs5.lt;omega⟩
   have hkt:KeptP (fun b=>p < b/\b≠X) w6 (twoC 19 g) (twoE 19 x y):=z0Q (zI 19 (by decide +kernel)) hwg hpg (hka.to (fun b h1 h2=>⟨h1,hb6.block b h2⟩) hb6.size) (hkb2.to (fun b h1 h2=>⟨h1,hb6.block b h2⟩) hb6.size)
   have HKT:=I hkt
   have HX6:=I hs6
   have HR6:=I ((HRv.o.keep (hb5.block p HRv.o.lt HPN.o.1 HPN.o.1)).keep (hb6.block p (by have:=HRv.o.lt;have:=hb5.size;omega)))
   have HS6:=I (h1.keep hb6)
   have HB6:=I (HBv.o.trans (hb5.trans (But.of_below hb6 pb pb)))
   have HLX:=I hka.len
   clear hs hs5 hs6 hb5 hka hkb hkb2 hlb hwg hb6 hkt hg hpg h1 h2
   go_upto_region 7 with ((with_reducible refine zd 30 _ _ rfl rfl ?_ X cs (twoC 19 g) HX6.o ?_ ?_ ?_ ?_ ?_ ?_);exact wA rfl;rw[HLX.o];rfl;rfl;rfl;rw[HKT.o.len];kernel_rfl;exact HKT.o.one;intro Z hz hb;have HZ:=I hz;have HZB:=I hb;clear hz hb)
   have HSZ:=I (HS6.o.under X HXG.o.2.1 HXG.o.2.2 HZB.o)
   have HBZ:=I (zT HB6.o HZB.o (by have:=HXG.o.1;have:=HP.o;omega))
   have HRZ:=I (HR6.o.keep (HZB.o.block p HR6.o.lt (by have:=HXG.o.1;omega) (by have:=HXG.o.1;omega)))
   have HKZ:=I (HKT.o.to (fun b h1 h2=>⟨h1,HZB.o.block b h2 h1.2 h1.2⟩) HZB.o.size)
   go_wp2_with (go_at_call 126;refine(zek HSZ.o HBR.o).mono ?_;rintro e v9 ⟨rfl,h1,h2⟩;have HS9:=I h1;have HB9:=I h2;clear h1 h2)
   go_roundg (toks.length - (j+1))
   case measure=>have:=HLT.o;have h2:=z1s HIS.o;have:=HGQ.o;omega
   case rel=>
    refine⟨_,j+1,_,HREST.o,rfl,HZ.o.keep (HB9.o.block X HZ.o.lt HXG.o.2.1 HXG.o.2.1),HRZ.o.keep (HB9.o.block p HRZ.o.lt HPN.o.1 HPN.o.1),HKZ.o.to (fun b h1 h2=>⟨h1,HB9.o.block b h2 (by have:=h1.1;have:=HPN.o;have:=HP.o;have:=H.o.lt;omega) (by have:=h1.1;have:=HPN.o;have:=HP.o;have:=H.o.lt;omega)⟩) HB9.o.size,HS9.o,HBZ.o.trans HB9.o⟩
end
end
section
open Go Go.RowKit
def zQ (c:UInt8):Bool:=decide (48<=(c.toNat:Int)) && decide ((c.toNat:Int)<=57)
def z13 (c:UInt8):Bool:=decide (97<=(c.toNat:Int)) && decide ((c.toNat:Int)<=122)
def z0g (c:UInt8):Bool:=((c.toNat:Int) ==32) ||(((c.toNat:Int) ==9) ||(((c.toNat:Int) ==10) ||((c.toNat:Int) ==13)))
theorem z07 {s:ByteArray} {k:Nat} {c:UInt8} (h:s.data.toList[k]?= some c) (hk:k < s.size):s[k]'hk= c:=by
 have h2:s.data[k]?= some c:=by simpa using h
 obtain⟨h3,h4⟩:=Array.getElem?_eq_some_iff.1 h2
 exact h4
theorem z2o (c:UInt8) (w:World):Calls Tryz.prog 157 #[.int .u8 (c.toNat:Int)] w fun e w'=>e= .returned (.bool (zQ c))/\w'= w:=by
 have HC:Hid (zQ c=(decide (48<=(c.toNat:Int)) && decide ((c.toNat:Int)<=57))):=I rfl
 by_cases h1:48<=(c.toNat:Int)
 ·have d1:=decide_eq_true h1
  by_cases h2:(c.toNat:Int)<=57
  ·have d2:=decide_eq_true h2
   go_enter Tryz.func157,Tryz.ntmps157
   go_wp2
   go_ret
   exact⟨by rw[HC.o,d1,d2];rfl,rfl⟩
  ·have d2:=decide_eq_false h2
   go_enter Tryz.func157,Tryz.ntmps157
   go_wp2
   go_ret
   exact⟨by rw[HC.o,d1,d2];rfl,rfl⟩
 ·have d1:=decide_eq_false h1
  go_enter Tryz.func157,Tryz.ntmps157
  go_wp2
  go_ret
  exact⟨by rw[HC.o,d1];rfl,rfl⟩
theorem z4S (c:UInt8) (w:World):Calls Tryz.prog 159 #[.int .u8 (c.toNat:Int)] w fun e w'=>e= .returned (.bool (z13 c))/\w'= w:=by
 have HC:Hid (z13 c=(decide (97<=(c.toNat:Int)) && decide ((c.toNat:Int)<=122))):=I rfl
 by_cases h1:97<=(c.toNat:Int)
 ·have d1:=decide_eq_true h1
  by_cases h2:(c.toNat:Int)<=122
  ·have d2:=decide_eq_true h2
   go_enter Tryz.func159,Tryz.ntmps159
   go_wp2
   go_ret
   exact⟨by rw[HC.o,d1,d2];rfl,rfl⟩
  ·have d2:=decide_eq_false h2
   go_enter Tryz.func159,Tryz.ntmps159
   go_wp2
   go_ret
   exact⟨by rw[HC.o,d1,d2];rfl,rfl⟩
 ·have d1:=decide_eq_false h1
  go_enter Tryz.func159,Tryz.ntmps159
  go_wp2
  go_ret
  exact⟨by rw[HC.o,d1];rfl,rfl⟩
theorem z3a (c:UInt8) (w:World):Calls Tryz.prog 156 #[.int .u8 (c.toNat:Int)] w fun e w'=>e= .returned (.bool (z0g c))/\w'= w:=by
 have HC:Hid (z0g c=(((c.toNat:Int) ==32) ||(((c.toNat:Int) ==9) ||(((c.toNat:Int) ==10) ||((c.toNat:Int) ==13))))):=I rfl
 generalize (c.toNat:Int)= x at*
 cases h1:x ==32<;>cases h2:x ==9<;>cases h3:x ==10<;>cases h4:x ==13
 all_goals
  have HX:Hid (z0g c= _):=I (by rw[HC.o,h1,h2,h3,h4])
  clear HC
  go_enter Tryz.func156,Tryz.ntmps156
  go_wp2
  go_ret
  exact⟨by rw[HX.o];rfl,rfl⟩
def z0h (P:UInt8->Bool) (L:List UInt8) (i e:Nat):Prop:=∀ k,i<=k->k < e->∃ c,L[k]?= some c/\P c= true
def z1t (P:UInt8->Bool) (L:List UInt8) (e:Nat):Prop:=∀ c,L[e]?= some c->P c= false
theorem zbk (s:ByteArray) (i e:Nat) (hie:i<=e) (he:e<=s.size) (hsz:(s.size:Int)<=2000) (hc:z0h zQ s.data.toList i e) (hs:z1t zQ s.data.toList e) (w:World):
  Calls Tryz.prog 194 #[.string s,.int .i64 (i:Nat)] w fun r w'=>r= .returned (.int .i64 (e:Nat))/\w'= w:=by
 have HC:=I hc
 have HS:=I hs
 have HL:Hid (s.data.toList.length= s.size):=I (by cases s;rfl)
 have HE:=I he
 have HD:=I (fun c w=>z2o c w)
 clear hc hs he
 go_enter Tryz.func194,Tryz.ntmps194
 go_wp2
 go_loopg [1] (e - i) (fun q x u=>∃ k:Nat,k<=e/\k+q= e/\i<=k/\x= .int .i64 (k:Nat)/\u= w)
 case atStart=>exact⟨i,hie,by omega,Nat.le_refl _,rfl,rfl⟩
 case round=>
  obtain⟨k,hke,hkq,hik,rfl,rfl⟩:=hrel
  cases gk with
  |zero=>
   obtain rfl:k= e:=by omega
   by_cases hend:k < s.size
   ·obtain⟨c,hc⟩:∃ c,s.data.toList[k]?= some c:=⟨_,List.getElem?_eq_getElem (by rw[HL.o];exact hend)⟩
    have dk:=fun h=>z07 (k:=k) (c:=c) hc h
    have HB:Hid (zQ c= false):=I (HS.o c hc)
    have hlt:(k:Int) <(s.size:Int):=by omega
    clear hc
    go_wp2_with (go_at_call 157;refine(HD.o c _).mono ?_;rw[HB.o];rintro e z ⟨rfl,rfl⟩)
    go_ret
    exact⟨rfl,rfl⟩
   ·have hlt: ¬ ((k:Int) <(s.size:Int)):=by omega
    go_wp2
    go_ret
    exact⟨rfl,rfl⟩
  |succ q=>
   have he:=HE.o
   obtain⟨c,hc,hd⟩:=HC.o k hik (by omega)
   have dk:=fun h=>z07 (k:=k) (c:=c) hc h
   have HB:=I hd
   have hlt:(k:Int) <(s.size:Int):=by omega
   clear hc hd
   go_wp2_with (go_at_call 157;refine(HD.o c _).mono ?_;rw[HB.o];rintro e z ⟨rfl,rfl⟩)
   go_roundg q
   case measure=>omega
   case rel=>exact⟨k+1,by omega,by omega,by omega,by go_num,rfl⟩
end
section
open Go Go.RowKit
theorem z1J (s nm:ByteArray) (a e:Nat) (hae:a<=e) (he:e<=s.size) (hx:s.extract a e= nm) (W:World):
  (Instr.sliceAt 9 (.string s) (some (.int .i64 (a:Nat))) (some (.int .i64 (e:Nat))) none).run Tryz.prog W= .ok (.string nm) W:=by
 have hul:=Tryz.underlying9
 have h0:(Instr.slice 9 (.string s) (some (.int .i64 (a:Nat))) (some (.int .i64 (e:Nat))) none).run Tryz.prog W= .ok (.string (s.extract a e)) W:=by
  simp[Instr.slice,Instr.sliceBounds,run_sliceBound, *,(by omega:(0:Int)<=(a:Int)),(by omega:(0:Int)<=(e:Int)),(by omega:((a:Int))<=(e:Int))]
 rw[run_sliceAt_string (w:=W) (t:=9) (h:=hul),h0,hx]
theorem z0m (w:World) (A B:Obj):Below w.heap.size w ((w.alloc A).alloc B):=(zc w A).trans ((zc (w.alloc A) B).mono (by simp))
theorem z0n {fn:Func} {p u:Tmp} (h:fn.results= #[.cell p 165,.tmp u]) (tmps:Array Value) (w:World) (g:Nat) (cs:Array Value) (hs:cs.size= 6) (v:Value)
  (hp:tmps.getD p undef= .pointer (some ⟨g,0,none⟩)) (hg:w.heap[g]?= some (.cells cs 165 (0,0))) (hu:tmps.getD u undef= v):(results fn tmps).run Tryz.prog w= .ok (.tuple #[.agg cs,v]) w:=by
 rw[results_cell_tmp h,hp,hu]
 simp[asAddr,run_loadVar_row w g 165 165 cs (0,0) _ hg Tryz.underlying165 rfl (by rw[hs];kernel_rfl)]
def lxidC (c:UInt8):Bool:=z13 c ||(zQ c ||(c.toNat:Int) ==95)
@[reducible] def zgm (w:World) (i:Nat):World:=(w.alloc (.cells #[.int .i64 1,.int .i64 (i:Nat),.int .i64 (i:Nat),.int .i64 0,.float .f64 0,.string ⟨#[]⟩] 165)).alloc (.cells #[.int .i64 0,.int .i64 0,.int .i64 0,.int .i64 0,.float .f64 0,.string ⟨#[]⟩] 165)
theorem zaM (s nm:ByteArray) (i e:Nat) (hie:i < e) (he:e<=s.size) (hsz:(s.size:Int)<=2000) (hc:z0h lxidC s.data.toList i e) (hs:z1t lxidC s.data.toList e) (hx:s.extract i e= nm) (hl:(nm.size:Int)<=30)
  (hn1:(nm.toList ==[110,97,110])= false) (hn2:(nm.toList ==[105,110,102])= false) (w:World):
  Calls Tryz.prog 160 #[.string s,.agg #[.int .i64 1,.int .i64 (i:Nat),.int .i64 (i:Nat),.int .i64 0,.float .f64 0,.string ⟨#[]⟩]] w fun r w'=>
   r= .returned (.tuple #[.agg #[.int .i64 5,.int .i64 (i:Nat),.int .i64 (e:Nat),.int .i64 0,.float .f64 0,.string nm],.int .i64 0])/\Below w.heap.size w w':=by
 have HC:=I hc
 have HS:=I hs
 have HL:Hid (s.data.toList.length= s.size):=I (by cases s;rfl)
 have HE:=I he
 have HD:=I (fun c w=>z2o c w)
 have HLT:=I (fun c w=>z4S c w)
 have hsl:=fun W=>z1J s nm i e (by omega) he hx W
 have hx2: ¬ ((nm.size:Int) > 30):=by omega
 have hsf:∀ (W:World) (a:Addr),(store a (.float .f64 0)).run Tryz.prog W= stored Tryz.prog W a (.float .f64 0) .plain:=fun W a=>run_store _ _ _ _ _ rfl
 have HIE:=I hie
 clear hc hs he hx hie
 go_enter Tryz.func160,Tryz.ntmps160
 go_upto_region 2 with (fail)
 go_loopg [6] (e - i) (fun q x u=>∃ k:Nat,k<=e/\k+q= e/\i<=k/\x= .int .i64 (k:Nat)/\u= zgm w i)
 case atStart=>exact⟨i,(by have:=HIE.o;omega),(by have:=HIE.o;omega),Nat.le_refl _,rfl,rfl⟩
 case round=>
  obtain⟨k,hke,hkq,hik,rfl,rfl⟩:=hrel
  cases gk with
  |zero=>
   obtain rfl:k= e:=by omega
   by_cases hend:k < s.size
   ·obtain⟨c,hc⟩:∃ c,s.data.toList[k]?= some c:=⟨_,List.getElem?_eq_getElem (by rw[HL.o];exact hend)⟩
    have dk:=fun h=>z07 (k:=k) (c:=c) hc h
    have hB:=HS.o c hc
    have hB1:Hid (z13 c= false):=I (by unfold lxidC at hB;cases h:z13 c<;>simp_all)
    have hB2:Hid (zQ c= false):=I (by unfold lxidC at hB;cases h:zQ c<;>simp_all)
    have hB3:((c.toNat:Int) ==95)= false:=by unfold lxidC at hB;cases h:((c.toNat:Int) ==95)<;>simp_all
    have hlt:(k:Int) <(s.size:Int):=by omega
    clear hc hB
    go_wp2_with (first
     |(go_at_call 159;refine(HLT.o c _).mono ?_;rw[hB1.o];rintro e z ⟨rfl,rfl⟩)
     |(go_at_call 157;refine(HD.o c _).mono ?_;rw[hB2.o];rintro e z ⟨rfl,rfl⟩))
    (try simp only[Exit.inBlock,Exit.then])
    refine bodyPost_ret (z0n rfl _ _ (w.heap.size+1) #[.int .i64 5,.int .i64 (i:Nat),.int .i64 (k:Nat),.int .i64 0,.float .f64 0,.string nm] rfl (.int .i64 0) rfl (heap_alloc2_new w _ _) rfl) rfl ?_
    exact⟨rfl,z0m w _ _⟩
   ·have hlt: ¬ ((k:Int) <(s.size:Int)):=by omega
    go_wp2
    (try simp only[Exit.inBlock,Exit.then])
    refine bodyPost_ret (z0n rfl _ _ (w.heap.size+1) #[.int .i64 5,.int .i64 (i:Nat),.int .i64 (k:Nat),.int .i64 0,.float .f64 0,.string nm] rfl (.int .i64 0) rfl (heap_alloc2_new w _ _) rfl) rfl ?_
    exact⟨rfl,z0m w _ _⟩
  |succ q=>
   have he:=HE.o
   obtain⟨c,hc,hd⟩:=HC.o k hik (by omega)
   have dk:=fun h=>z07 (k:=k) (c:=c) hc h
   have hlt:(k:Int) <(s.size:Int):=by omega
   cases h1:z13 c with
   |true=>
    have HB1:=I h1
    clear hc hd h1
    go_wp2_with (go_at_call 159;refine(HLT.o c _).mono ?_;rw[HB1.o];rintro e z ⟨rfl,rfl⟩)
    go_roundg q
    case measure=>omega
    case rel=>exact⟨k+1,by omega,by omega,by omega,by go_num,rfl⟩
   |false=>
    cases h2:zQ c with
    |true=>
     have HB1:=I h1
     have HB2:=I h2
     clear hc hd h1 h2
     go_wp2_with (first
      |(go_at_call 159;refine(HLT.o c _).mono ?_;rw[HB1.o];rintro e z ⟨rfl,rfl⟩)
      |(go_at_call 157;refine(HD.o c _).mono ?_;rw[HB2.o];rintro e z ⟨rfl,rfl⟩))
     go_roundg q
     case measure=>omega
     case rel=>exact⟨k+1,by omega,by omega,by omega,by go_num,rfl⟩
    |false=>
     have hB3:((c.toNat:Int) ==95)= true:=by unfold lxidC at hd;rw[h1,h2] at hd;simpa using hd
     have HB1:=I h1
     have HB2:=I h2
     clear hc hd h1 h2
     go_wp2_with (first
      |(go_at_call 159;refine(HLT.o c _).mono ?_;rw[HB1.o];rintro e z ⟨rfl,rfl⟩)
      |(go_at_call 157;refine(HD.o c _).mono ?_;rw[HB2.o];rintro e z ⟨rfl,rfl⟩))
     go_roundg q
     case measure=>omega
     case rel=>exact⟨k+1,by omega,by omega,by omega,by go_num,rfl⟩
end
section
open Go Go.RowKit
def dvalN (L:List UInt8) (i:Nat):Nat->Nat
 |0=>0
 |n+1=>10*dvalN L i n+ ((L[i+n]?.getD 48).toNat - 48)
theorem z5e {c:UInt8} (h:zQ c= true):48<=c.toNat/\c.toNat<=57:=by
 unfold zQ at h
 simp only[Bool.and_eq_true,decide_eq_true_eq] at h
 omega
theorem z8p {L:List UInt8} {i e:Nat} (h:z0h zQ L i e):∀ n,i+n<=e->dvalN L i n < 10 ^ n
 |0,_=>by simp[dvalN]
 |n+1,hn=>by
  have ih:=z8p h n (by omega)
  obtain⟨c,hc,hd⟩:=h (i+n) (by omega) (by omega)
  have h2:=z5e hd
  unfold dvalN
  rw[hc,Nat.pow_succ]
  show 10*_+ (c.toNat - 48) < _
  omega
theorem z2P {L:List UInt8} {i e:Nat} (h:z0h zQ L i e) {n:Nat} (hn:i+n<=e) (h18:n<=18):dvalN L i n < 1000000000000000000:=
 Nat.lt_of_lt_of_le (z8p h n hn) (by rw[show(1000000000000000000:Nat)= 10 ^ 18 from rfl];exact Nat.pow_le_pow_right (by omega) h18)
theorem zbn (s:ByteArray) (i e:Nat) (hie:i < e) (h18:e<=i+19) (hv63:dvalN s.data.toList i (e - i) < 9223372036854775808) (he:e<=s.size) (hsz:(s.size:Int)<=2000) (hc:z0h zQ s.data.toList i e) (hs:z1t (fun c=>zQ c ||(c.toNat:Int) ==112) s.data.toList e) (w:World):
  Calls Tryz.prog 158 #[.string s,.agg #[.int .i64 1,.int .i64 (i:Nat),.int .i64 (i:Nat),.int .i64 0,.float .f64 0,.string ⟨#[]⟩]] w fun r w'=>
   r= .returned (.tuple #[.agg #[.int .i64 2,.int .i64 (i:Nat),.int .i64 (e:Nat),.int .i64 (dvalN s.data.toList i (e - i):Nat),.float .f64 0,.string ⟨#[]⟩],.int .i64 0])/\Below w.heap.size w w':=by
 have HC:=I hc
 have HS:Hid (z1t zQ s.data.toList e):=I fun c h=>by have:=hs c h;cases hd:zQ c<;>simp_all
 have HL:Hid (s.data.toList.length= s.size):=I (by cases s;rfl)
 have HE:=I he
 have HR:=I (fun w=>zbk s i e (by omega) he hsz hc HS.o w)
 have HIE:=I hie
 have H18:=I h18
 have HP:Hid (∀ c,s.data.toList[e]?= some c->((c.toNat:Int) ==112)= false):=I fun c h=>by have:=hs c h;cases hd:((c.toNat:Int) ==112)<;>simp_all
 have hsf:∀ (W:World) (a:Addr),(store a (.float .f64 0)).run Tryz.prog W= stored Tryz.prog W a (.float .f64 0) .plain:=fun W a=>run_store _ _ _ _ _ rfl
 have hwr:wrap64 ((e:Int) - (i:Int))=(e:Int) - (i:Int):=by unfold wrap64;omega
 have h19: ¬ ((e:Int) - (i:Int) > 19):=by omega
 have HV:=I hv63
 clear hc hs he hie hv63
 have key:∃ b:Bool,True:=⟨true,trivial⟩
 by_cases hend:e < s.size
 ·obtain⟨c,hc⟩:∃ c,s.data.toList[e]?= some c:=⟨_,List.getElem?_eq_getElem (by rw[HL.o];exact hend)⟩
  have dk:=fun h=>z07 (k:=e) (c:=c) hc h
  have hp:=HP.o c hc
  have hlt:(e:Int) <(s.size:Int):=by omega
  clear hc key
  go_enter Tryz.func158,Tryz.ntmps158
  go_upto_region 2 with (go_at_call 194;refine(HR.o _).mono ?_;rintro r z ⟨rfl,rfl⟩)
  go_upto_region 19 with (fail)
  go_loopg [10,11] (e - i) (fun q x y u=>∃ k:Nat,k<=e/\k+q= e/\i<=k/\x= .int .u64 (dvalN s.data.toList i (k - i):Nat)/\y= .int .i64 (k:Nat)/\u=(w.alloc (.cells #[.int .i64 2,.int .i64 (i:Nat),.int .i64 (e:Nat),.int .i64 0,.float .f64 0,.string ⟨#[]⟩] 165)).alloc (.cells #[.int .i64 0,.int .i64 0,.int .i64 0,.int .i64 0,.float .f64 0,.string ⟨#[]⟩] 165))
  case atStart=>exact⟨i,(by have:=HIE.o;omega),(by have:=HIE.o;omega),Nat.le_refl _,(by rw[Nat.sub_self];rfl),rfl,rfl⟩
  case round=>
   obtain⟨k,hke,hkq,hik,rfl,rfl,rfl⟩:=hrel
   cases gk with
   |zero=>
    obtain rfl:k= e:=by omega
    have hv:=HV.o
    obtain⟨v,hve⟩:∃ v,dvalN s.data.toList i (k - i)= v:=⟨_,rfl⟩
    have HVE:=I hve
    rw[hve] at hv
    rw[hve]
    clear hve
    have hge: ¬ ((v:Int)>=9223372036854775808):=by omega
    have hvw:wrap64 (v:Int)=(v:Int):=by unfold wrap64;omega
    clear hv HV
    clear hke hkq hik
    go_wp2
    (try simp only[Exit.inBlock,Exit.then])
    refine bodyPost_ret (z0n rfl _ _ (w.heap.size+1) #[.int .i64 2,.int .i64 (i:Nat),.int .i64 (k:Nat),.int .i64 (v:Nat),.float .f64 0,.string ⟨#[]⟩] rfl (.int .i64 0) rfl (heap_alloc2_new w _ _) rfl) rfl ?_
    exact⟨by rw[HVE.o],z0m w _ _⟩
   |succ q=>
    have he:=HE.o
    have h18:=H18.o
    obtain⟨c2,hc2,hd2⟩:=HC.o k hik (by omega)
    have dk2:=fun h=>z07 (k:=k) (c:=c2) hc2 h
    have hdig:=z5e hd2
    have hv:=z2P HC.o (n:=k - i) (by omega) (by omega)
    have hnext:Hid (((dvalN s.data.toList i (k+1 - i):Nat):Int)=(dvalN s.data.toList i (k - i):Nat) *10+ ((c2.toNat:Int) - 48)):=I (by
     rw[show k+1 - i=(k - i)+1 by omega]
     show((10*dvalN s.data.toList i (k - i)+ ((s.data.toList[i+ (k - i)]?.getD 48).toNat - 48):Nat):Int)= _
     rw[show i+ (k - i)= k by omega,hc2]
     show((10*dvalN s.data.toList i (k - i)+ (c2.toNat - 48):Nat):Int)= _
     omega)
    generalize dvalN s.data.toList i (k - i)= v at*
    have hlt2:(k:Int) <(e:Int):=by omega
    have hlt3:(k:Int) <(s.size:Int):=by omega
    clear hc2 hd2
    go_wp2
    go_roundg q
    case measure=>omega
    case rel=>exact⟨k+1,by omega,by omega,by omega,(by rw[hnext.o]),by go_num,rfl⟩
 ·have hlt: ¬ ((e:Int) <(s.size:Int)):=by omega
  clear key
  go_enter Tryz.func158,Tryz.ntmps158
  go_upto_region 2 with (go_at_call 194;refine(HR.o _).mono ?_;rintro r z ⟨rfl,rfl⟩)
  go_upto_region 19 with (fail)
  go_loopg [10,11] (e - i) (fun q x y u=>∃ k:Nat,k<=e/\k+q= e/\i<=k/\x= .int .u64 (dvalN s.data.toList i (k - i):Nat)/\y= .int .i64 (k:Nat)/\u=(w.alloc (.cells #[.int .i64 2,.int .i64 (i:Nat),.int .i64 (e:Nat),.int .i64 0,.float .f64 0,.string ⟨#[]⟩] 165)).alloc (.cells #[.int .i64 0,.int .i64 0,.int .i64 0,.int .i64 0,.float .f64 0,.string ⟨#[]⟩] 165))
  case atStart=>exact⟨i,(by have:=HIE.o;omega),(by have:=HIE.o;omega),Nat.le_refl _,(by rw[Nat.sub_self];rfl),rfl,rfl⟩
  case round=>
   obtain⟨k,hke,hkq,hik,rfl,rfl,rfl⟩:=hrel
   cases gk with
   |zero=>
    obtain rfl:k= e:=by omega
    have hv:=HV.o
    obtain⟨v,hve⟩:∃ v,dvalN s.data.toList i (k - i)= v:=⟨_,rfl⟩
    have HVE:=I hve
    rw[hve] at hv
    rw[hve]
    clear hve
    have hge: ¬ ((v:Int)>=9223372036854775808):=by omega
    have hvw:wrap64 (v:Int)=(v:Int):=by unfold wrap64;omega
    clear hv HV
    clear hke hkq hik
    go_wp2
    (try simp only[Exit.inBlock,Exit.then])
    refine bodyPost_ret (z0n rfl _ _ (w.heap.size+1) #[.int .i64 2,.int .i64 (i:Nat),.int .i64 (k:Nat),.int .i64 (v:Nat),.float .f64 0,.string ⟨#[]⟩] rfl (.int .i64 0) rfl (heap_alloc2_new w _ _) rfl) rfl ?_
    exact⟨by rw[HVE.o],z0m w _ _⟩
   |succ q=>
    have he:=HE.o
    have h18:=H18.o
    obtain⟨c2,hc2,hd2⟩:=HC.o k hik (by omega)
    have dk2:=fun h=>z07 (k:=k) (c:=c2) hc2 h
    have hdig:=z5e hd2
    have hv:=z2P HC.o (n:=k - i) (by omega) (by omega)
    have hnext:Hid (((dvalN s.data.toList i (k+1 - i):Nat):Int)=(dvalN s.data.toList i (k - i):Nat) *10+ ((c2.toNat:Int) - 48)):=I (by
     rw[show k+1 - i=(k - i)+1 by omega]
     show((10*dvalN s.data.toList i (k - i)+ ((s.data.toList[i+ (k - i)]?.getD 48).toNat - 48):Nat):Int)= _
     rw[show i+ (k - i)= k by omega,hc2]
     show((10*dvalN s.data.toList i (k - i)+ (c2.toNat - 48):Nat):Int)= _
     omega)
    generalize dvalN s.data.toList i (k - i)= v at*
    have hlt2:(k:Int) <(e:Int):=by omega
    have hlt3:(k:Int) <(s.size:Int):=by omega
    clear hc2 hd2
    go_wp2
    go_roundg q
    case measure=>omega
    case rel=>exact⟨k+1,by omega,by omega,by omega,(by rw[hnext.o]),by go_num,rfl⟩
theorem zbs (s:ByteArray) (i e:Nat) (hie:i < e) (h18:e<=i+18) (he:e<=s.size) (hsz:(s.size:Int)<=2000) (hc:z0h zQ s.data.toList i e) (hs:z1t (fun c=>zQ c ||(c.toNat:Int) ==112) s.data.toList e) (w:World):
  Calls Tryz.prog 158 #[.string s,.agg #[.int .i64 1,.int .i64 (i:Nat),.int .i64 (i:Nat),.int .i64 0,.float .f64 0,.string ⟨#[]⟩]] w fun r w'=>
   r= .returned (.tuple #[.agg #[.int .i64 2,.int .i64 (i:Nat),.int .i64 (e:Nat),.int .i64 (dvalN s.data.toList i (e - i):Nat),.float .f64 0,.string ⟨#[]⟩],.int .i64 0])/\Below w.heap.size w w':=
 zbn s i e hie (by omega) (by have:=z2P hc (n:=e - i) (by omega) (by omega);omega) he hsz hc hs w
end
section
open Go Go.RowKit
def sigs:ByteArray:=⟨#[40,41,91,93,123,125,44,58,46,63,43,45,42,47,37,33,60]⟩
def pk (k:Nat):ByteArray:=sigs.extract k (k+1)
theorem zdA (k:Nat) (hk:k < 17) (W:World):
  (Instr.sliceAt 9 (.string ⟨#[40,41,91,93,123,125,44,58,46,63,43,45,42,47,37,33,60]⟩) (some (.int .i64 (k:Nat))) (some (.int .i64 ((k:Int)+1))) none).run Tryz.prog W= .ok (.string (pk k)) W:=
 z1J sigs (pk k) k (k+1) (by omega) (by show k+1<=17;omega) rfl W
theorem zc9 (s one t2:ByteArray) (i j:Nat) (hi:i < s.size) (hsz:(s.size:Int)<=2000) (h1:s.extract i (i+1)= one) (h2:s.extract i (min (i+2) s.size)= t2)
  (n1:(t2.toList ==[61,61])= false) (n2:(t2.toList ==[60,61])= false) (n3:(t2.toList ==[38,38])= false) (n4:(t2.toList ==[124,124])= false)
  (hj:j < 17) (hno:∀ k,k < j->((pk k).toList ==one.toList)= false) (hyes:((pk j).toList ==one.toList)= true) (w:World):
  Calls Tryz.prog 162 #[.string s,.agg #[.int .i64 1,.int .i64 (i:Nat),.int .i64 (i:Nat),.int .i64 0,.float .f64 0,.string ⟨#[]⟩]] w fun r w'=>
   r= .returned (.tuple #[.agg #[.int .i64 6,.int .i64 (i:Nat),.int .i64 ((i:Int)+1),.int .i64 0,.float .f64 0,.string one],.int .i64 0])/\Below w.heap.size w w':=by
 have HN:=I hno
 have HY:=I hyes
 have HJ:=I hj
 have HPK:=I (fun k hk W=>zdA k hk W)
 have hsl1:∀ W,(Instr.sliceAt 9 (.string s) (some (.int .i64 (i:Nat))) (some (.int .i64 ((i:Int)+1))) none).run Tryz.prog W= .ok (.string one) W:=fun W=>z1J s one i (i+1) (by omega) (by omega) h1 W
 have hsf:∀ (W:World) (a:Addr),(store a (.float .f64 0)).run Tryz.prog W= stored Tryz.prog W a (.float .f64 0) .plain:=fun W a=>run_store _ _ _ _ _ rfl
 by_cases h3:i+2<=s.size
 ·have hsl2:∀ W,(Instr.sliceAt 9 (.string s) (some (.int .i64 (i:Nat))) (some (.int .i64 ((i:Int)+2))) none).run Tryz.prog W= .ok (.string t2) W:=fun W=>z1J s t2 i (i+2) (by omega) (by omega) (by rw[← h2,Nat.min_eq_left h3]) W
  have hm:((i:Int)+2)<=(s.size:Int):=by omega
  clear hno hyes hj h1 h2
  go_enter Tryz.func162,Tryz.ntmps162
  go_upto_region 10 with (fail)
  go_loopg [9] j (fun q x u=>∃ k:Nat,k+q= j/\x= .int .i64 (k:Nat)/\u=(w.alloc (.cells #[.int .i64 6,.int .i64 (i:Nat),.int .i64 (i:Nat),.int .i64 0,.float .f64 0,.string ⟨#[]⟩] 165)).alloc (.cells #[.int .i64 0,.int .i64 0,.int .i64 0,.int .i64 0,.float .f64 0,.string ⟨#[]⟩] 165))
  case atStart=>exact⟨0,by omega,rfl,rfl⟩
  case round=>
   obtain⟨k,hkq,rfl,rfl⟩:=hrel
   have hj:=HJ.o
   have hpk:=fun W=>HPK.o k (by omega) W
   have hlt:(k:Int) < 17:=by omega
   cases gk with
   |zero=>
    obtain rfl:k= j:=by omega
    have hy:=HY.o
    clear hkq hj
    go_wp2
    (try simp only[Exit.inBlock,Exit.then])
    refine bodyPost_ret (z0n rfl _ _ (w.heap.size+1) #[.int .i64 6,.int .i64 (i:Nat),.int .i64 ((i:Int)+1),.int .i64 0,.float .f64 0,.string one] rfl (.int .i64 0) rfl (heap_alloc2_new w _ _) rfl) rfl ?_
    exact⟨rfl,z0m w _ _⟩
   |succ q=>
    have hn:=HN.o k (by omega)
    go_wp2
    go_roundg q
    case measure=>omega
    case rel=>exact⟨k+1,by omega,by go_num,rfl⟩
 ·have hsl2:∀ W,(Instr.sliceAt 9 (.string s) (some (.int .i64 (i:Nat))) (some (.int .i64 (s.size:Nat))) none).run Tryz.prog W= .ok (.string t2) W:=fun W=>z1J s t2 i s.size (by omega) (by omega) (by rw[← h2,Nat.min_eq_right (by omega)]) W
  have hm: ¬ (((i:Int)+2)<=(s.size:Int)):=by omega
  clear hno hyes hj h1 h2
  go_enter Tryz.func162,Tryz.ntmps162
  go_upto_region 10 with (fail)
  go_loopg [9] j (fun q x u=>∃ k:Nat,k+q= j/\x= .int .i64 (k:Nat)/\u=(w.alloc (.cells #[.int .i64 6,.int .i64 (i:Nat),.int .i64 (i:Nat),.int .i64 0,.float .f64 0,.string ⟨#[]⟩] 165)).alloc (.cells #[.int .i64 0,.int .i64 0,.int .i64 0,.int .i64 0,.float .f64 0,.string ⟨#[]⟩] 165))
  case atStart=>exact⟨0,by omega,rfl,rfl⟩
  case round=>
   obtain⟨k,hkq,rfl,rfl⟩:=hrel
   have hj:=HJ.o
   have hpk:=fun W=>HPK.o k (by omega) W
   have hlt:(k:Int) < 17:=by omega
   cases gk with
   |zero=>
    obtain rfl:k= j:=by omega
    have hy:=HY.o
    clear hkq hj
    go_wp2
    (try simp only[Exit.inBlock,Exit.then])
    refine bodyPost_ret (z0n rfl _ _ (w.heap.size+1) #[.int .i64 6,.int .i64 (i:Nat),.int .i64 ((i:Int)+1),.int .i64 0,.float .f64 0,.string one] rfl (.int .i64 0) rfl (heap_alloc2_new w _ _) rfl) rfl ?_
    exact⟨rfl,z0m w _ _⟩
   |succ q=>
    have hn:=HN.o k (by omega)
    go_wp2
    go_roundg q
    case measure=>omega
    case rel=>exact⟨k+1,by omega,by go_num,rfl⟩
end
section
open Go Go.RowKit
theorem z0Z {fn:Func} {p u v:Tmp} (h:fn.results= #[.cell p 165,.tmp u,.tmp v]) (tmps:Array Value) (w:World) (g:Nat) (cs:List Value) (hs:cs.length= 6) (x y:Value)
  (hp:tmps.getD p undef= .pointer (some ⟨g,0,none⟩)) (hg:Whole 165 w g cs) (hu:tmps.getD u undef= x) (hv:tmps.getD v undef= y):(results fn tmps).run Tryz.prog w= .ok (.tuple #[.agg ⟨cs⟩,x,y]) w:=by
 have hp':tmps[p]?.getD undef= .pointer (some ⟨g,0,none⟩):=by simpa using hp
 have hu':tmps[u]?.getD undef= x:=by simpa using hu
 have hv':tmps[v]?.getD undef= y:=by simpa using hv
 have hl:=run_loadVar_mid (P:=Tryz.prog) w g 0 165 cs _ hg.range Tryz.underlying165 rfl (by rw[hs];kernel_rfl)
 simp[results,h,hp',hu',hv',asAddr,hl]
@[reducible] def z2f (w:World) (i:Nat):World:=(w.alloc (.cells #[.int .i64 0,.int .i64 0,.int .i64 0,.int .i64 0,.float .f64 0,.string ⟨#[]⟩] 165)).alloc (.cells #[.int .i64 1,.int .i64 (i:Nat),.int .i64 (i:Nat),.int .i64 0,.float .f64 0,.string ⟨#[]⟩] 165)
def LexC (f:FuncId) (s:ByteArray) (b:Nat) (t:Tok):Prop:=∀ w,Calls Tryz.prog f #[.string s,.agg #[.int .i64 1,.int .i64 (b:Nat),.int .i64 (b:Nat),.int .i64 0,.float .f64 0,.string ⟨#[]⟩]] w fun r w'=>
 r= .returned (.tuple #[.agg ⟨tokC t⟩,.int .i64 0])/\Below w.heap.size w w'
def NextC (s:ByteArray) (p:Nat) (b:Nat) (t:Tok):Prop:=∀ w,Calls Tryz.prog 122 #[.string s,.int .i64 (p:Nat)] w fun r w'=>
 r= .returned (.tuple #[.agg ⟨tokC t⟩,.int .i64 (b:Nat),.int .i64 0])/\Below w.heap.size w w'
theorem zdF (s:ByteArray) (p b:Nat) (c:UInt8) (t:Tok) (hpb:p<=b) (hb:b < s.size) (hsz:(s.size:Int)<=2000) (hbl:z0h z0g s.data.toList p b) (hc:s.data.toList[b]?= some c)
  (hk0:z0g c= false) (hk1:zQ c= true) (hcall:LexC 158 s b t):NextC s p b t:=fun w=>by
 have HC:=I hbl
 have HE:=I hb
 have HCC:=I hc
 have HK0:=I hk0
 have HK1:=I hk1
 have HCALL:=I hcall
 have HB:=I (fun c w=>z3a c w)
 have HD:=I (fun c w=>z2o c w)
 have hne: ¬ ((b:Int)=(s.size:Int)):=by omega
 have hp0: ¬ ((p:Int) < 0):=by omega
 have hp1: ¬ ((p:Int) >(s.size:Int)):=by omega
 have hs1: ¬ ((s.size:Int) > 2000):=by omega
 have dk:=fun h=>z07 (k:=b) (c:=c) hc h
 have hbs:(b:Int) <(s.size:Int):=by omega
 have hsf:∀ (W:World) (a:Addr),(store a (.float .f64 0)).run Tryz.prog W= stored Tryz.prog W a (.float .f64 0) .plain:=fun W a=>run_store _ _ _ _ _ rfl
 clear hbl hc hk0 hk1 hcall hb
 have HPB:=I hpb
 clear hpb
 go_enter Tryz.func122,Tryz.ntmps122
 go_upto_region 3 with (fail)
 go_loopg [1] (b - p) (fun q x u=>∃ k:Nat,k<=b/\k+q= b/\p<=k/\x= .int .i64 (k:Nat)/\u= w.alloc (.cells #[.int .i64 0,.int .i64 0,.int .i64 0,.int .i64 0,.float .f64 0,.string ⟨#[]⟩] 165))
 case atStart=>exact⟨p,(by have:=HPB.o;omega),(by have:=HPB.o;omega),Nat.le_refl _,rfl,rfl⟩
 case round=>
  obtain⟨k,hke,hkq,hik,rfl,rfl⟩:=hrel
  cases gk with
  |zero=>
   obtain rfl:k= b:=by omega
   go_upto_region 12 with (first
    |(go_at_call 156;refine(HB.o c _).mono ?_;rw[HK0.o];rintro e z ⟨rfl,rfl⟩)
    |(go_at_call 157;refine(HD.o c _).mono ?_;rw[HK1.o];rintro e z ⟨rfl,rfl⟩))
   have HR7:Hid (Whole 165 (z2f w k) (w.heap.size+1) (tokC ⟨1,k,k,0,0,⟨#[]⟩⟩)):=I (heap_alloc2_new w _ _)
   have HR4:Hid (Whole 165 (z2f w k) w.heap.size (tokC ⟨0,0,0,0,0,⟨#[]⟩⟩)):=I ((Lib.alloc_old _ _ _ (by simp)).trans (heap_alloc_new w _))
   go_wp2_with (first
    |(go_at_call 158;refine(HCALL.o _).mono ?_;rintro e z ⟨rfl,hb⟩;have HZ7:=I (HR7.o.keep (hb.block _ (by simp)));have HZ4:=I (HR4.o.keep (hb.block _ (by simp;omega)));have HZB:=I hb;clear hb)
    |((with_reducible refine zd 165 _ _ rfl rfl ?_ (w.heap.size+1) (tokC ⟨1,k,k,0,0,⟨#[]⟩⟩) (tokC t) HZ7.o ?_ ?_ ?_ ?_ ?_ ?_);exact wA rfl;rfl;rfl;rfl;kernel_rfl;exact z0A t;intro Z hz hb;have HS7:=I hz;have HSB:=I hb;have HS4:=I (HZ4.o.keep (hb.block2 HZ4.o.lt (by omega) (by omega)));clear hz hb)
    |((with_reducible refine z7 165 _ rfl ?_ (w.heap.size+1) 0 (tokC t) _ ?_ HS7.o.range Tryz.underlying165 rfl ?_ ?_);exact wA rfl;rfl;kernel_rfl)
    |((with_reducible refine zd 165 _ _ rfl rfl ?_ w.heap.size (tokC ⟨0,0,0,0,0,⟨#[]⟩⟩) (tokC t) HS4.o ?_ ?_ ?_ ?_ ?_ ?_);exact wA rfl;rfl;rfl;rfl;kernel_rfl;exact z0A t;intro Z2 hz hb;have HT4:=I hz;have HTB:=I hb;clear hz hb))
   (try simp only[Exit.inBlock,Exit.then])
   refine bodyPost_ret (z0Z rfl _ _ w.heap.size (tokC t) rfl (.int .i64 (k:Nat)) (.int .i64 0) rfl HT4.o rfl rfl) rfl ?_
   have h1:=z0m w (.cells (tokC ⟨0,0,0,0,0,⟨#[]⟩⟩).toArray 165) (.cells (tokC ⟨1,k,k,0,0,⟨#[]⟩⟩).toArray 165)
   have h2:Below w.heap.size _ z:=HZB.o.mono (by simp;omega)
   have h12:=h1.trans h2
   have h3:=HSB.o.below (B:=w.heap.size) h12.size (by omega) (by omega)
   have h4:=HTB.o.below (B:=w.heap.size) (Nat.le_trans h12.size h3.size) (Nat.le_refl _) (Nat.le_refl _)
   exact⟨rfl,(h12.trans h3).trans h4⟩
  |succ q=>
   have he:=HE.o
   obtain⟨c2,hc2,hd2⟩:=HC.o k hik (by omega)
   have dk2:=fun h=>z07 (k:=k) (c:=c2) hc2 h
   have HB2:=I hd2
   have hlt:(k:Int) <(s.size:Int):=by omega
   clear hc2 hd2
   go_wp2_with (go_at_call 156;refine(HB.o c2 _).mono ?_;rw[HB2.o];rintro e z ⟨rfl,rfl⟩)
   go_roundg q
   case measure=>omega
   case rel=>exact⟨k+1,by omega,by omega,by omega,by go_num,rfl⟩
theorem zbw (s:ByteArray) (p b:Nat) (c:UInt8) (t:Tok) (hpb:p<=b) (hb:b < s.size) (hsz:(s.size:Int)<=2000) (hbl:z0h z0g s.data.toList p b) (hc:s.data.toList[b]?= some c)
  (hk0:z0g c= false) (hk1:zQ c= false) (hk2:z13 c= true) (hcall:LexC 160 s b t):NextC s p b t:=fun w=>by
 have HC:=I hbl
 have HE:=I hb
 have HCC:=I hc
 have HK0:=I hk0
 have HK1:=I hk1
 have HK2:=I hk2
 have HLE:=I (fun c w=>z4S c w)
 have HCALL:=I hcall
 have HB:=I (fun c w=>z3a c w)
 have HD:=I (fun c w=>z2o c w)
 have hne: ¬ ((b:Int)=(s.size:Int)):=by omega
 have hp0: ¬ ((p:Int) < 0):=by omega
 have hp1: ¬ ((p:Int) >(s.size:Int)):=by omega
 have hs1: ¬ ((s.size:Int) > 2000):=by omega
 have dk:=fun h=>z07 (k:=b) (c:=c) hc h
 have hbs:(b:Int) <(s.size:Int):=by omega
 have hsf:∀ (W:World) (a:Addr),(store a (.float .f64 0)).run Tryz.prog W= stored Tryz.prog W a (.float .f64 0) .plain:=fun W a=>run_store _ _ _ _ _ rfl
 clear hbl hc hk0 hk1 hk2 hcall hb
 have HPB:=I hpb
 clear hpb
 go_enter Tryz.func122,Tryz.ntmps122
 go_upto_region 3 with (fail)
 go_loopg [1] (b - p) (fun q x u=>∃ k:Nat,k<=b/\k+q= b/\p<=k/\x= .int .i64 (k:Nat)/\u= w.alloc (.cells #[.int .i64 0,.int .i64 0,.int .i64 0,.int .i64 0,.float .f64 0,.string ⟨#[]⟩] 165))
 case atStart=>exact⟨p,(by have:=HPB.o;omega),(by have:=HPB.o;omega),Nat.le_refl _,rfl,rfl⟩
 case round=>
  obtain⟨k,hke,hkq,hik,rfl,rfl⟩:=hrel
  cases gk with
  |zero=>
   obtain rfl:k= b:=by omega
   go_upto_region 14 with (first
    |(go_at_call 156;refine(HB.o c _).mono ?_;rw[HK0.o];rintro e z ⟨rfl,rfl⟩)
    |(go_at_call 157;refine(HD.o c _).mono ?_;rw[HK1.o];rintro e z ⟨rfl,rfl⟩)
    |(go_at_call 159;refine(HLE.o c _).mono ?_;rw[HK2.o];rintro e z ⟨rfl,rfl⟩))
   have HR7:Hid (Whole 165 (z2f w k) (w.heap.size+1) (tokC ⟨1,k,k,0,0,⟨#[]⟩⟩)):=I (heap_alloc2_new w _ _)
   have HR4:Hid (Whole 165 (z2f w k) w.heap.size (tokC ⟨0,0,0,0,0,⟨#[]⟩⟩)):=I ((Lib.alloc_old _ _ _ (by simp)).trans (heap_alloc_new w _))
   go_wp2_with (first
    |(go_at_call 160;refine(HCALL.o _).mono ?_;rintro e z ⟨rfl,hb⟩;have HZ7:=I (HR7.o.keep (hb.block _ (by simp)));have HZ4:=I (HR4.o.keep (hb.block _ (by simp;omega)));have HZB:=I hb;clear hb)
    |((with_reducible refine zd 165 _ _ rfl rfl ?_ (w.heap.size+1) (tokC ⟨1,k,k,0,0,⟨#[]⟩⟩) (tokC t) HZ7.o ?_ ?_ ?_ ?_ ?_ ?_);exact wA rfl;rfl;rfl;rfl;kernel_rfl;exact z0A t;intro Z hz hb;have HS7:=I hz;have HSB:=I hb;have HS4:=I (HZ4.o.keep (hb.block2 HZ4.o.lt (by omega) (by omega)));clear hz hb)
    |((with_reducible refine z7 165 _ rfl ?_ (w.heap.size+1) 0 (tokC t) _ ?_ HS7.o.range Tryz.underlying165 rfl ?_ ?_);exact wA rfl;rfl;kernel_rfl)
    |((with_reducible refine zd 165 _ _ rfl rfl ?_ w.heap.size (tokC ⟨0,0,0,0,0,⟨#[]⟩⟩) (tokC t) HS4.o ?_ ?_ ?_ ?_ ?_ ?_);exact wA rfl;rfl;rfl;rfl;kernel_rfl;exact z0A t;intro Z2 hz hb;have HT4:=I hz;have HTB:=I hb;clear hz hb))
   (try simp only[Exit.inBlock,Exit.then])
   refine bodyPost_ret (z0Z rfl _ _ w.heap.size (tokC t) rfl (.int .i64 (k:Nat)) (.int .i64 0) rfl HT4.o rfl rfl) rfl ?_
   have h1:=z0m w (.cells (tokC ⟨0,0,0,0,0,⟨#[]⟩⟩).toArray 165) (.cells (tokC ⟨1,k,k,0,0,⟨#[]⟩⟩).toArray 165)
   have h2:Below w.heap.size _ z:=HZB.o.mono (by simp;omega)
   have h12:=h1.trans h2
   have h3:=HSB.o.below (B:=w.heap.size) h12.size (by omega) (by omega)
   have h4:=HTB.o.below (B:=w.heap.size) (Nat.le_trans h12.size h3.size) (Nat.le_refl _) (Nat.le_refl _)
   exact⟨rfl,(h12.trans h3).trans h4⟩
  |succ q=>
   have he:=HE.o
   obtain⟨c2,hc2,hd2⟩:=HC.o k hik (by omega)
   have dk2:=fun h=>z07 (k:=k) (c:=c2) hc2 h
   have HB2:=I hd2
   have hlt:(k:Int) <(s.size:Int):=by omega
   clear hc2 hd2
   go_wp2_with (go_at_call 156;refine(HB.o c2 _).mono ?_;rw[HB2.o];rintro e z ⟨rfl,rfl⟩)
   go_roundg q
   case measure=>omega
   case rel=>exact⟨k+1,by omega,by omega,by omega,by go_num,rfl⟩
theorem zba (s:ByteArray) (p b:Nat) (c:UInt8) (t:Tok) (hpb:p<=b) (hb:b < s.size) (hsz:(s.size:Int)<=2000) (hbl:z0h z0g s.data.toList p b) (hc:s.data.toList[b]?= some c)
  (hk0:z0g c= false) (hk1:zQ c= false) (hk2:z13 c= false) (hk3:((c.toNat:Int) ==34)= false) (hcall:LexC 162 s b t):NextC s p b t:=fun w=>by
 have HC:=I hbl
 have HE:=I hb
 have HCC:=I hc
 have HK0:=I hk0
 have HK1:=I hk1
 have HK2:=I hk2
 have HLE:=I (fun c w=>z4S c w)
 have HCALL:=I hcall
 have HB:=I (fun c w=>z3a c w)
 have HD:=I (fun c w=>z2o c w)
 have hne: ¬ ((b:Int)=(s.size:Int)):=by omega
 have hp0: ¬ ((p:Int) < 0):=by omega
 have hp1: ¬ ((p:Int) >(s.size:Int)):=by omega
 have hs1: ¬ ((s.size:Int) > 2000):=by omega
 have dk:=fun h=>z07 (k:=b) (c:=c) hc h
 have hbs:(b:Int) <(s.size:Int):=by omega
 have hsf:∀ (W:World) (a:Addr),(store a (.float .f64 0)).run Tryz.prog W= stored Tryz.prog W a (.float .f64 0) .plain:=fun W a=>run_store _ _ _ _ _ rfl
 clear hbl hc hk0 hk1 hk2 hcall hb
 have HPB:=I hpb
 clear hpb
 go_enter Tryz.func122,Tryz.ntmps122
 go_upto_region 3 with (fail)
 go_loopg [1] (b - p) (fun q x u=>∃ k:Nat,k<=b/\k+q= b/\p<=k/\x= .int .i64 (k:Nat)/\u= w.alloc (.cells #[.int .i64 0,.int .i64 0,.int .i64 0,.int .i64 0,.float .f64 0,.string ⟨#[]⟩] 165))
 case atStart=>exact⟨p,(by have:=HPB.o;omega),(by have:=HPB.o;omega),Nat.le_refl _,rfl,rfl⟩
 case round=>
  obtain⟨k,hke,hkq,hik,rfl,rfl⟩:=hrel
  cases gk with
  |zero=>
   obtain rfl:k= b:=by omega
   go_upto_region 10 with (first
    |(go_at_call 156;refine(HB.o c _).mono ?_;rw[HK0.o];rintro e z ⟨rfl,rfl⟩)
    |(go_at_call 157;refine(HD.o c _).mono ?_;rw[HK1.o];rintro e z ⟨rfl,rfl⟩)
    |(go_at_call 159;refine(HLE.o c _).mono ?_;rw[HK2.o];rintro e z ⟨rfl,rfl⟩))
   have HR7:Hid (Whole 165 (z2f w k) (w.heap.size+1) (tokC ⟨1,k,k,0,0,⟨#[]⟩⟩)):=I (heap_alloc2_new w _ _)
   have HR4:Hid (Whole 165 (z2f w k) w.heap.size (tokC ⟨0,0,0,0,0,⟨#[]⟩⟩)):=I ((Lib.alloc_old _ _ _ (by simp)).trans (heap_alloc_new w _))
   go_wp2_with (first
    |(go_at_call 162;refine(HCALL.o _).mono ?_;rintro e z ⟨rfl,hb⟩;have HZ7:=I (HR7.o.keep (hb.block _ (by simp)));have HZ4:=I (HR4.o.keep (hb.block _ (by simp;omega)));have HZB:=I hb;clear hb)
    |((with_reducible refine zd 165 _ _ rfl rfl ?_ (w.heap.size+1) (tokC ⟨1,k,k,0,0,⟨#[]⟩⟩) (tokC t) HZ7.o ?_ ?_ ?_ ?_ ?_ ?_);exact wA rfl;rfl;rfl;rfl;kernel_rfl;exact z0A t;intro Z hz hb;have HS7:=I hz;have HSB:=I hb;have HS4:=I (HZ4.o.keep (hb.block2 HZ4.o.lt (by omega) (by omega)));clear hz hb)
    |((with_reducible refine z7 165 _ rfl ?_ (w.heap.size+1) 0 (tokC t) _ ?_ HS7.o.range Tryz.underlying165 rfl ?_ ?_);exact wA rfl;rfl;kernel_rfl)
    |((with_reducible refine zd 165 _ _ rfl rfl ?_ w.heap.size (tokC ⟨0,0,0,0,0,⟨#[]⟩⟩) (tokC t) HS4.o ?_ ?_ ?_ ?_ ?_ ?_);exact wA rfl;rfl;rfl;rfl;kernel_rfl;exact z0A t;intro Z2 hz hb;have HT4:=I hz;have HTB:=I hb;clear hz hb))
   (try simp only[Exit.inBlock,Exit.then])
   refine bodyPost_ret (z0Z rfl _ _ w.heap.size (tokC t) rfl (.int .i64 (k:Nat)) (.int .i64 0) rfl HT4.o rfl rfl) rfl ?_
   have h1:=z0m w (.cells (tokC ⟨0,0,0,0,0,⟨#[]⟩⟩).toArray 165) (.cells (tokC ⟨1,k,k,0,0,⟨#[]⟩⟩).toArray 165)
   have h2:Below w.heap.size _ z:=HZB.o.mono (by simp;omega)
   have h12:=h1.trans h2
   have h3:=HSB.o.below (B:=w.heap.size) h12.size (by omega) (by omega)
   have h4:=HTB.o.below (B:=w.heap.size) (Nat.le_trans h12.size h3.size) (Nat.le_refl _) (Nat.le_refl _)
   exact⟨rfl,(h12.trans h3).trans h4⟩
  |succ q=>
   have he:=HE.o
   obtain⟨c2,hc2,hd2⟩:=HC.o k hik (by omega)
   have dk2:=fun h=>z07 (k:=k) (c:=c2) hc2 h
   have HB2:=I hd2
   have hlt:(k:Int) <(s.size:Int):=by omega
   clear hc2 hd2
   go_wp2_with (go_at_call 156;refine(HB.o c2 _).mono ?_;rw[HB2.o];rintro e z ⟨rfl,rfl⟩)
   go_roundg q
   case measure=>omega
   case rel=>exact⟨k+1,by omega,by omega,by omega,by go_num,rfl⟩
theorem zeo (s:ByteArray) (p:Nat) (hpb:p<=s.size) (hsz:(s.size:Int)<=2000) (hbl:z0h z0g s.data.toList p s.size):NextC s p s.size ⟨1,s.size,s.size,0,0,⟨#[]⟩⟩:=fun w=>by
 obtain⟨b,hb⟩:∃ b,s.size= b:=⟨_,rfl⟩
 have HC:=I hbl
 have HE:=I hb
 have HB:=I (fun c w=>z3a c w)
 have hp0: ¬ ((p:Int) < 0):=by omega
 have hp1: ¬ ((p:Int) >(s.size:Int)):=by omega
 have hs1: ¬ ((s.size:Int) > 2000):=by omega
 have hsf:∀ (W:World) (a:Addr),(store a (.float .f64 0)).run Tryz.prog W= stored Tryz.prog W a (.float .f64 0) .plain:=fun W a=>run_store _ _ _ _ _ rfl
 have HPB:=I hpb
 clear hbl hb hpb
 go_enter Tryz.func122,Tryz.ntmps122
 go_upto_region 3 with (fail)
 go_loopg [1] (s.size - p) (fun q x u=>∃ k:Nat,k<=s.size/\k+q= s.size/\p<=k/\x= .int .i64 (k:Nat)/\u= w.alloc (.cells #[.int .i64 0,.int .i64 0,.int .i64 0,.int .i64 0,.float .f64 0,.string ⟨#[]⟩] 165))
 case atStart=>exact⟨p,(by have:=HPB.o;omega),(by have:=HPB.o;omega),Nat.le_refl _,rfl,rfl⟩
 case round=>
  obtain⟨k,hke,hkq,hik,rfl,rfl⟩:=hrel
  cases gk with
  |zero=>
   have hkk:Hid (k= s.size):=I (by omega)
   have hlt: ¬ ((k:Int) <(s.size:Int)):=by omega
   have heq:(k:Int)=(s.size:Int):=by omega
   go_wp2
   (try simp only[Exit.inBlock,Exit.then])
   refine bodyPost_ret (z0Z rfl _ _ w.heap.size (tokC ⟨1,s.size,s.size,0,0,⟨#[]⟩⟩) rfl (.int .i64 (s.size:Nat)) (.int .i64 0) rfl ((Lib.alloc_old _ _ _ (by simp)).trans (heap_alloc_new w _)) rfl rfl) rfl ?_
   exact⟨rfl,z0m w _ _⟩
  |succ q=>
   obtain⟨c2,hc2,hd2⟩:=HC.o k hik (by omega)
   have dk2:=fun h=>z07 (k:=k) (c:=c2) hc2 h
   have HB2:=I hd2
   have hlt:(k:Int) <(s.size:Int):=by omega
   clear hc2 hd2
   go_wp2_with (go_at_call 156;refine(HB.o c2 _).mono ?_;rw[HB2.o];rintro e z ⟨rfl,rfl⟩)
   go_roundg q
   case measure=>omega
   case rel=>exact⟨k+1,by omega,by omega,by omega,by go_num,rfl⟩
end
section
open Go Go.RowKit
theorem z6P {α:Type} {T:TypeId} {k base:Nat} {enc:α->List Value} {w:World} {v:Value} {l:List α} (h:OwnSl T k enc w base v l) {g:Nat} (hv:v.ownBlock= some g):g < w.heap.size:=by
 rcases h.2 with ⟨rfl,_⟩|⟨g2,cap,cur,rfl,_,hg,_⟩
 ·cases hv
 ·have h2:g2= g:=by simpa [Value.ownBlock] using hv
  subst h2
  rcases Nat.lt_or_ge g2 w.heap.size with h2|h2
  ·exact h2
  ·rw[Array.getElem?_eq_none h2] at hg;cases hg
theorem z99 {α:Type} {T:TypeId} {k base:Nat} {enc:α->List Value} {w:World} {v:Value} {l:List α} (h:OwnSl T k enc w base v l):∃ A n c,v= .slice A n c:=by
 rcases h.2 with ⟨rfl,_⟩|⟨g,cap,cur,rfl,_⟩
 ·exact⟨_,_,_,rfl⟩
 ·exact⟨_,_,_,rfl⟩
theorem z9r {T:TypeId} {W2 W4:World} {zb:Nat} {cs:List Value} {v x:Value} {o:Obj} (h:Whole T W2 zb cs) (hne:∀ g,v.ownBlock= some g->g≠zb) (hg:(W2.alloc o).grownBy W4 v.ownBlock) (k:Nat) (hx:cs[k]?= some x):W4.cell? ⟨zb,k,none⟩= some x:=by
 have h1:=hg.block zb (by have:=h.lt;simp;omega) (fun he=>hne zb he.symm rfl)
 have h2:=(zc W2 o).block zb h.lt
 exact((h.keep h2).keep h1).cells k hx
inductive LexRun (s:ByteArray):Nat->List Tok->Prop
 |stop (p b:Nat) (t:Tok):NextC s p b t->t.kind= 1->LexRun s p []
 |more (p b p':Nat) (t:Tok) (ts:List Tok):NextC s p b t->t.kind≠1->t.next=(p':Int)->LexRun s p' ts->LexRun s p (t::ts)
theorem z6f (t:Tok):(tokC t).length= 6:=rfl
theorem zf8 (s:ByteArray) (toks:List Tok) (h:LexRun s 0 toks) (hlen:toks.length<=2000) (w:World):Calls Tryz.prog 84 #[.string s] w fun r w'=>
  ∃ v,r= .returned (.tuple #[v,.int .i64 0,.int .i64 0])/\OwnSl 165 6 tokC w' w.heap.size v toks/\Below w.heap.size w w':=by
 obtain⟨i0,hi0,hz0,hz1,hz2⟩:=info_parts z5k
 have HI0:=I hi0
 have HZ0:=I hz0
 have HZ1:=I hz1
 have HZ2:=I hz2
 have H:=I h
 have HLEN:=I hlen
 clear hi0 hz0 hz1 hz2 h hlen
 go_enter Tryz.func84,Tryz.ntmps84
 go_upto_region 3 with (fail)
 go_loopg [5,6] toks.length (fun q x y u=>∃ (done rest:List Tok) (p:Nat),toks= done ++ rest/\rest.length= q/\OwnSl 165 6 tokC u w.heap.size x done/\y= .int .i64 (p:Nat)/\LexRun s p rest/\Below w.heap.size w u)
 case atStart=>exact⟨[],toks,0,rfl,rfl,OwnSl.nil w w.heap.size,rfl,H.o,Below.refl _ _⟩
 case round=>
  rename_i x y u
  obtain⟨done,rest,p,htk,hq,hown,rfl,hrun,hbw⟩:=hrel
  have HOWN:=I hown
  have HBW:=I hbw
  have HTK:=I htk
  obtain⟨A,n,c,rfl⟩:=z99 hown
  clear hown hbw htk
  cases hrun with
  |stop _ b t hnx hk1=>
   have HNX:=I hnx
   have hkt:(t.kind ==1)= true:=by simpa using hk1
   clear hnx hk1
   go_wp2_with (first
    |(go_at_call 122;refine(HNX.o _).mono ?_;rintro e z ⟨rfl,hb⟩;have HBZ:=I hb;clear hb)
    |((with_reducible refine z0x 165 _ _ rfl rfl ?hwe z ?zne (tokC t) ?hz1 ?hz2 ?hz3 ?hz4 ?hz5 ?hz6 ?_);(case hwe=>exact wA rfl);(case hz1=>rfl);(case hz2=>rfl);(case hz3=>rfl);(case hz4=>rfl);(case hz5=>kernel_rfl);(case hz6=>exact z0A t);intro W2 hz hb hlt;have k0:=hz.cells 0 rfl;have HX2:=I hz;have HB2:=I hb;have HLT2:=I hlt;clear hz hb hlt))
   go_ret3
   refine⟨_,rfl,?_,?_⟩
   ·have:=HTK.o
    rw[this,List.append_nil]
    exact(HOWN.o.below HBZ.o).below HB2.o
   ·exact(HBW.o.trans (HBZ.o.mono HBW.o.size)).trans (HB2.o.mono (Nat.le_trans HBW.o.size HBZ.o.size))
  |more _ b p' t ts hnx hk1 hnext hts=>
   have HNX:=I hnx
   have hkt:(t.kind ==1)= false:=by simpa using hk1
   have HNXT:=I hnext
   have HTS:=I hts
   have HT2:Hid ((tokC t)[2]?= some (.int .i64 (p':Nat))):=I (by show some (Value.int .i64 t.next)= _;rw[hnext])
   have hql:ts.length+1= gk:=hq
   have hl:Hid (done.length+1<=2000):=I (by have h1:=HLEN.o;rw[HTK.o,List.length_append,List.length_cons] at h1;omega)
   have HK1:Hid (done.length+1<=maxLen):=I (by have:=hl.o;unfold maxLen;omega)
   have HK2:Hid ((done.length+1) *56<=140737488355328):=I (by have:=hl.o;omega)
   clear hnx hk1 hnext hts hq
   go_wp2_with (first
    |(go_at_call 122;refine(HNX.o _).mono ?_;rintro e z ⟨rfl,hb⟩;have HBZ:=I hb;clear hb)
    |((with_reducible refine z0x 165 _ _ rfl rfl ?hwe z ?zne (tokC t) ?hz1 ?hz2 ?hz3 ?hz4 ?hz5 ?hz6 ?_);(case hwe=>exact wA rfl);(case hz1=>rfl);(case hz2=>rfl);(case hz3=>rfl);(case hz4=>rfl);(case hz5=>kernel_rfl);(case hz6=>exact z0A t);intro W2 hz hb hlt;have k0:=hz.cells 0 rfl;have HX2:=I hz;have HB2:=I hb;have HLT2:=I hlt;have HO2:=I ((HOWN.o.below HBZ.o).below hb);clear hz hb hlt)
    |((with_reducible refine z7 165 _ rfl ?_ z.heap.size 0 (tokC t) _ ?_ HX2.o.range Tryz.underlying165 rfl ?_ ?_);exact wA rfl;rfl;kernel_rfl)
    |((with_reducible refine z1f 129 _ rfl ?_ 165 i0 _ (tokC t) ?_ Tryz.underlying129 HI0.o HZ0.o ?_ ?_ ?_ ?_);exact wA rfl;rfl;exact HZ1.o;show 0 < 6;decide;show 6<=1000;decide;have HO3:=I (HO2.o.below (zc W2 (.cells ⟨tokC t⟩ 165)));have HC3:=I (z0l W2 (tokC t) 165);have HS3:Hid (w.heap.size<=(W2.alloc (.cells ⟨tokC t⟩ 165)).heap.size):=I (by have h1:=HBW.o.size;have h2:=HBZ.o.size;have h3:=HB2.o.size;simp;omega))
    |(at_builtin;refine z9K rfl _ _ 129 rfl w.heap.size 165 i0 _ 6 56 tokC Tryz.underlying129 HI0.o HZ0.o HZ1.o HZ2.o rfl (by decide) z6f z0A _ _ rfl HO3.o W2.heap.size 1 t rfl HC3.o HK1.o HK2.o HS3.o ?_;intro v4 W4 hown4 hg4;have HO4:=I hown4;have HG4:=I hg4;have k2:=z9r HX2.o (fun g hg=>Nat.ne_of_lt (Nat.lt_of_lt_of_le (z6P HOWN.o hg) HBZ.o.size)) hg4 2 HT2.o;clear hown4 hg4))
   go_roundg ts.length
   case measure=>omega
   case rel=>
    refine⟨done ++ [t],ts,p',by rw[HTK.o,List.append_assoc];rfl,rfl,HO4.o,rfl,HTS.o,?_⟩
    have h1:=(HBW.o.trans (HBZ.o.mono HBW.o.size)).trans (HB2.o.mono (Nat.le_trans HBW.o.size HBZ.o.size))
    have h2:=h1.trans ((zc W2 (.cells ⟨tokC t⟩ 165)).mono h1.size)
    exact h2.grown HG4.o h2.size fun k hk=>HOWN.o.block hk
end
section
open Go Go.RowKit
theorem z7T {fn:Func} {p u v:Tmp} (h:fn.results= #[.cell p 30,.tmp u,.tmp v]) (tmps:Array Value) (w:World) (g:Nat) (cs:List Value) (hl:cs.length= 10) (x y:Value)
  (hp:tmps.getD p undef= .pointer (some ⟨g,0,none⟩)) (hm:Whole 30 w g cs) (hu:tmps.getD u undef= x) (hv:tmps.getD v undef= y):(results fn tmps).run Tryz.prog w= .ok (.tuple #[.agg ⟨cs⟩,x,y]) w:=by
 have hp':tmps[p]?.getD undef= .pointer (some ⟨g,0,none⟩):=by simpa using hp
 have hu':tmps[u]?.getD undef= x:=by simpa using hu
 have hv':tmps[v]?.getD undef= y:=by simpa using hv
 have hl:=run_loadVar_mid (P:=Tryz.prog) w g 0 30 cs _ hm.range Tryz.underlying30 rfl (by rw[hl];kernel_rfl)
 simp[results,h,hp',hu',hv',asAddr,hl]
theorem zfN {w:World} {base:Nat} {v:Value} {toks:List Tok} (h:OwnSl 165 6 tokC w base v toks) (h0:0 < toks.length):
  ∃ tb c,v= .slice (some ⟨tb,0,none⟩) toks.length c/\base<=tb/\tb < w.heap.size/\∀ (j:Nat) t,toks[j]?= some t->w.rangeAt tb (j*6) (tokC t):=by
 have hat:=h.at z6f
 rcases h.2 with ⟨rfl,h1⟩|⟨g,cap,cur,rfl,hb,hg,_⟩
 ·omega
 ·have hlt:=z6P h (g:=g) rfl
  refine⟨g,cap,rfl,hb,hlt,fun j t ht a u hu=> ?_⟩
  have:=World.ownsRow.cells h (g:=g) rfl (j*6+a) u (z0y z6f toks j t ht a u hu)
  rw[Addr.add_mid] at this
  rw[show j*6+a= 0+ (j*6+a) by omega];exact this
theorem zeQ (s:ByteArray) (toks:List Tok) (t:ET) (h:Nat) (hsz:(s.size:Int)<=2000) (hlex:LexRun s 0 toks) (hlen:toks.length<=2000) (hne:0 < toks.length)
  (hp:∀ pb tb c,PCon pb tb c (s.size:Int) toks 85 0 toks.length h t) (hh:h<=100)
  (hr:∀ cs w,ExpAt w w.heap.size cs t->Calls Tryz.prog 19 #[.agg ⟨cs⟩] w fun e w'=>e= .returned (.bool true)/\Below w.heap.size w w') (w:World):
  Calls Tryz.prog 49 #[.string s] w fun e w'=>∃ cs,e= .returned (.tuple #[.agg ⟨cs⟩,.int .i64 0,.int .i64 0])/\KeptP (fun b=>w.heap.size<=b) w' cs t/\Below w.heap.size w w':=by
 have HLX:=I (fun w=>zf8 s toks hlex hlen w)
 have HP:=I hp
 have HR:=I hr
 have HH:=I hh
 have HNE:=I hne
 have HLEN:=I hlen
 have hs1: ¬ ((s.size:Int) > 2000):=by omega
 clear hlex hlen hne hp hh hr
 go_enter Tryz.func49,Tryz.ntmps49
 go_upto_region 1 with (fail)
 have HR0:=I (Whole.new w zEc 30)
 have HB0:=I (zc w (.cells zEc.toArray 30))
 have hz:=z0v
 rw[hz]
 clear hz
 have HRW:Hid (w.heap.size <(w.alloc (.cells zEc.toArray 30)).heap.size):=I (by simp)
 generalize w.alloc (.cells zEc.toArray 30)= W at*
 obtain⟨p,hp⟩:∃ p,w.heap.size= p:=⟨_,rfl⟩
 rw[hp] at HR0 HRW
 rw[hp]
 have HPP:=I hp
 clear hp
 go_upto_region 4 with (go_at_call 84;refine(HLX.o _).mono ?_;rintro e w1 ⟨v,rfl,hown,hb1⟩;obtain⟨tb,c,hv,htb,htl,htok⟩:=zfN hown HNE.o;subst hv;have HTB:=I htb;have HTL:=I htl;have HTOK:=I htok;have HB1:=I hb1;clear hown htb htl htok hb1)
 go_upto_region 7 with (fail)
 have HPS:Hid (PSt w1.heap.size tb c (s.size:Int) toks (w1.alloc (.cells #[.slice (some ⟨tb,0,none⟩) toks.length c,.int .i64 0,.int .i64 (s.size:Nat),.int .i64 0,.int .i64 0,.int .i64 0] 134)) 0 0):=I
  ⟨heap_alloc_new _ _,by have:=HTL.o;omega,⟨by have:=HTL.o;simp;omega,by simp⟩,fun j t ht=>za (HTOK.o j t ht) (zc w1 _) HTL.o,by have:=HLEN.o;omega⟩
 have HB2:Hid (Below w1.heap.size w1 (w1.alloc (.cells #[.slice (some ⟨tb,0,none⟩) toks.length c,.int .i64 0,.int .i64 (s.size:Nat),.int .i64 0,.int .i64 0,.int .i64 0] 134))):=I (zc w1 _)
 have HS2:Hid (w1.heap.size <(w1.alloc (.cells #[.slice (some ⟨tb,0,none⟩) toks.length c,.int .i64 0,.int .i64 (s.size:Nat),.int .i64 0,.int .i64 0,.int .i64 0] 134)).heap.size):=I (by simp)
 generalize w1.alloc (.cells #[.slice (some ⟨tb,0,none⟩) toks.length c,.int .i64 0,.int .i64 (s.size:Nat),.int .i64 0,.int .i64 0,.int .i64 0] 134)= w2 at*
 obtain⟨pb,hpb⟩:∃ pb,w1.heap.size= pb:=⟨_,rfl⟩
 rw[hpb] at HPS
 rw[hpb]
 have HPB:=I hpb
 clear hpb
 have HCE:=I (HP.o pb tb c w2 0 HPS.o (Int.le_refl _) (by have:=HH.o;omega))
 go_upto_region 8 with (first
  |(go_at_call 85;refine HCE.o.mono ?_;rintro e w3 ⟨cs,rfl,hk,hps,hbut⟩;have HK:=I hk;have HPS3:=I hps;have HBT:=I hbut;have HCL:=I hk.len;clear hk hps hbut)
  |((with_reducible refine z0x 30 _ _ rfl rfl ?hwe w3 ?zne cs ?hz1 ?hz2 ?hz3 ?hz4 ?hz5 ?hz6 ?_);(case hwe=>exact wA rfl);(case hz1=>rfl);(case hz2=>rw[HCL.o];rfl);(case hz3=>rfl);(case hz4=>rfl);(case hz5=>rw[HCL.o];kernel_rfl);(case hz6=>exact HK.o.one);intro w4 hz hb hlt;have HX4:=I hz;have HB4:=I hb;have HLT4:=I hlt;clear hz hb hlt))
 have HPS4:=I (HPS3.o.keep HB4.o)
 have HK4:=I (HK.o.to (q:=fun b=>w2.heap.size<=b) (fun b hp hlt=>⟨hp,HB4.o.block b hlt⟩) HB4.o.size)
 have HCR:=I (HR.o cs w4 HK4.o.exp)
 have d1:=HPS4.o.cell 1
 have d3:=HPS4.o.cell 3
 simp only[List.getElem?_toArray,List.getElem?_cons_succ,List.getElem?_cons_zero] at d1 d3
 go_upto_region 12 with (first
  |((with_reducible refine z7 30 _ rfl ?_ w3.heap.size 0 cs _ ?_ HX4.o.range Tryz.underlying30 rfl ?_ ?_);exact wA rfl;rfl;rw[HCL.o];kernel_rfl)
  |(go_at_call 19;refine HCR.o.mono ?_;rintro e w5 ⟨rfl,hb⟩;have HB5:=I hb;clear hb))
 clear d1 d3
 have HPS5:=I (HPS4.o.keep HB5.o)
 have HX5:=I (HX4.o.keep (HB5.o.block _ HX4.o.lt))
 have HK5:=I (HK4.o.to (q:=fun b=>w2.heap.size<=b) (fun b hp hlt=>⟨hp,HB5.o.block b hlt⟩) HB5.o.size)
 have d3:=HPS5.o.cell 3
 simp only[List.getElem?_toArray,List.getElem?_cons_succ,List.getElem?_cons_zero] at d3
 have HP1:=I (HR0.o.keep (HB1.o.block p HRW.o))
 have HP2:=I (HP1.o.keep (HB2.o.block p (by have:=HP1.o.lt;have:=HPB.o;omega)))
 have HPNE:Hid (p≠pb):=I (by have:=HP1.o.lt;have:=HPB.o;omega)
 have HP3:=I (HP2.o.keep (HBT.o.block p HP2.o.lt HPNE.o HPNE.o))
 have HP4:=I (HP3.o.keep (HB4.o.block p HP3.o.lt))
 have HP5:=I (HP4.o.keep (HB5.o.block p HP4.o.lt))
 go_wp2_with (first
  |((with_reducible refine z7 30 _ rfl ?_ w3.heap.size 0 cs _ ?_ HX5.o.range Tryz.underlying30 rfl ?_ ?_);exact wA rfl;rfl;rw[HCL.o];kernel_rfl)
  |((with_reducible refine zd 30 _ _ rfl rfl ?_ p zEc cs HP5.o ?_ ?_ ?_ ?_ ?_ ?_);exact wA rfl;rw[HCL.o];rfl;rfl;rfl;rw[HCL.o];kernel_rfl;exact HK5.o.one;intro Z hz hb;have HZ:=I hz;have HZB:=I hb;clear hz hb))
 (try simp only[Exit.inBlock,Exit.then])
 refine bodyPost_ret (z7T rfl _ _ p cs HCL.o (.int .i64 0) (.int .i64 0) rfl HZ.o rfl rfl) rfl ?_
 have hpp:=HPP.o
 have hw1:Below w.heap.size w w1:=HB0.o.trans (HB1.o.mono HB0.o.size)
 have hw2:=hw1.trans (HB2.o.mono (by have:=hw1.size;have:=HPB.o;omega))
 have hw3:=hw2.trans (HBT.o.below (B:=w.heap.size) hw2.size (by have:=hw1.size;have:=HPB.o;omega) (by have:=hw1.size;have:=HPB.o;omega))
 have hw4:=hw3.trans (HB4.o.mono hw3.size)
 have hw5:=hw4.trans (HB5.o.mono hw4.size)
 have hw6:=hw5.trans (HZB.o.below (B:=w.heap.size) hw5.size (by omega) (by omega))
 have hk6:=HK5.o.to (q:=fun b=>w2.heap.size<=b) (w':=Z) (fun b hp hlt=>⟨hp,HZB.o.block b hlt (by have:=HP2.o.lt;omega) (by have:=HP2.o.lt;omega)⟩) HZB.o.size
 exact⟨cs,rfl,hk6.to (q:=fun b=>w.heap.size<=b) (fun b hp _=>⟨Nat.le_trans hw2.size hp,rfl⟩) (Nat.le_refl _),hw6⟩
end
end Go.Proofs.YteolfamhmfidbaaGreatDoor
