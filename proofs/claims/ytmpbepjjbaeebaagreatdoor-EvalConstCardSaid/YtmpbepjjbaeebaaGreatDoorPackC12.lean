/- Parts of a proof: SmallV, ECnt. -/
import Derived.Test.YtmpbepjjbaeebaaGreatDoorPackC7
set_option maxHeartbeats 8000000
set_option maxRecDepth 100000
set_option linter.unusedVariables false
set_option linter.unusedSimpArgs false
namespace Go.Proofs.YtmpbepjjbaeebaaGreatDoor
section
open Go.RowKit
def z4O (w:World) (e:Ending) (w':World):Prop:=∃ n:Int,0<=n/\n<=500/\e= .returned (.int .i64 n)/\Below w.heap.size w w'
theorem zeg:∀ (x:VT) (far:Nat) (cs:List Value) (w:World),far<=40->ValAt w w.heap.size cs x->Calls Tryz.prog 46 #[.agg ⟨cs⟩,.int .i64 far] w (z5T w):=by
 intro x
 induction x using VT.ind with
 |h k n f s ns its ih=>
  intro far cs w hfar hv
  obtain⟨vn,vi,rfl,_,_,_,_,_,hil,hi⟩:=hv.inv
  obtain⟨_,A,c,rfl,hA⟩:=hi
  have HA:=I hA
  have IH:=I ih
  unfold maxLen at hil
  clear hA hv ih
  go_enter Tryz.func46,Tryz.ntmps46
  go_upto_region 1 with (fail)
  have hb0:=ze w (.cells ⟨[.int .i64 k,.int .i64 n,.float .f64 f,.string s,vn,.slice A its.length c]⟩ 26)
  have hz0:=zt w (.cells ⟨[.int .i64 k,.int .i64 n,.float .f64 f,.string s,vn,.slice A its.length c]⟩ 26)
  have c5:=zA w ⟨[.int .i64 k,.int .i64 n,.float .f64 f,.string s,vn,.slice A its.length c]⟩ 26 5
  generalize w.alloc (.cells ⟨[.int .i64 k,.int .i64 n,.float .f64 f,.string s,vn,.slice A its.length c]⟩ 26)= W at*
  have HB:=I hb0
  have C5:=I c5
  have HSZ:=I hz0
  clear hb0 c5 hz0
  go_wp2
  go_loopg [5,6] its.length (fun g m i wr=>∃ (j:Nat) (x:Int),j+g= its.length/\i= .int .i64 j/\m= .int .i64 x/\Below W.heap.size W wr)
  case atStart=>exact⟨0,0,by omega,rfl,rfl,Below.refl _ _⟩
  case round=>
   obtain⟨j,x,hj,rfl,rfl,hb⟩:=hrel
   have HB1:=I hb
   have d5:=(hb.cell (p:=⟨w.heap.size,5,none⟩) HSZ.out).trans C5.out
   clear hb
   simp only[List.getElem?_toArray,List.getElem?_cons_succ,List.getElem?_cons_zero] at d5
   cases gk with
   |zero=>
    have hge: ¬ ((j:Int) <(its.length:Int)):=by omega
    go_wp2
    go_ret
    exact⟨_,rfl,HB.out.trans (HB1.out.mono HB.out.size)⟩
   |succ g=>
    have hlt:(j:Int) <(its.length:Int):=by omega
    by_cases h0:far= 0
    ·subst h0
     go_wp2
     go_ret
     exact⟨_,rfl,HB.out.trans (HB1.out.mono HB.out.size)⟩
    ·have hpos:(0:Int) <(far:Int):=by omega
     have hz2:w.heap.size<=wr.heap.size:=Nat.le_trans HB.out.size HB1.out.size
     obtain⟨y,hy⟩:∃ y,its[j]?= some y:=⟨_,List.getElem?_eq_getElem (by omega)⟩
     obtain⟨b,o,rfl,hbb,hc⟩:=HA.out (by omega)
     obtain⟨cs,hcl,hr,hR⟩:=hc j y hy
     have hB2:=HB.out.trans (HB1.out.mono HB.out.size)
     have HR:=I (zd hr hB2 hbb)
     have HC:=I (IH.out y (List.mem_of_getElem? hy) (far - 1) cs wr (by omega) ((hR.under hB2).more hB2.size))
     have HCL:=I hcl
     have hf1:((far - 1:Nat):Int)=(far:Int) - 1:=by omega
     clear hc hr hR hB2 hy hcl h0
     rw[hf1] at HC
     clear hf1
     go_wp2_with (first|(with_reducible refine zc 26 _ rfl ?hw b (o+j*6) cs _ rfl HR.out Tryz.underlying26 rfl ?hi ?_;(case hw=>exact wantA rfl);(case hi=>rw[HCL.out];kernel_rfl))|(go_at_call 46;refine HC.out.mono ?_;rintro e w' ⟨z,rfl,hb⟩;have HB2:=I hb;clear hb))
     all_goals
      go_roundg g
      case measure=>omega
      case rel=>exact⟨j+1,_,by omega,by go_num,rfl,HB1.out.trans (HB2.out.mono HB1.out.size)⟩
theorem zec:∀ (x:VT) (m:Int) (cs:List Value) (w:World),0<=m->m < 500->ValAt w w.heap.size cs x->Calls Tryz.prog 85 #[.agg ⟨cs⟩,.int .i64 m] w (z4O w):=by
 intro x
 induction x using VT.ind with
 |h k n f s ns its ih=>
  intro m cs w hm0 hm1 hv
  obtain⟨vn,vi,rfl,_,_,_,_,_,hil,hi⟩:=hv.inv
  obtain⟨_,A,c,rfl,hA⟩:=hi
  have HA:=I hA
  have IH:=I ih
  unfold maxLen at hil
  clear hA hv ih
  go_enter Tryz.func85,Tryz.ntmps85
  go_upto_region 1 with (fail)
  have hb0:=ze w (.cells ⟨[.int .i64 k,.int .i64 n,.float .f64 f,.string s,vn,.slice A its.length c]⟩ 26)
  have hz0:=zt w (.cells ⟨[.int .i64 k,.int .i64 n,.float .f64 f,.string s,vn,.slice A its.length c]⟩ 26)
  have c5:=zA w ⟨[.int .i64 k,.int .i64 n,.float .f64 f,.string s,vn,.slice A its.length c]⟩ 26 5
  generalize w.alloc (.cells ⟨[.int .i64 k,.int .i64 n,.float .f64 f,.string s,vn,.slice A its.length c]⟩ 26)= W at*
  have HB:=I hb0
  have C5:=I c5
  have HSZ:=I hz0
  clear hb0 c5 hz0
  go_wp2
  go_loopg [1,5] its.length (fun g u i wr=>∃ (j:Nat) (x:Int),j+g= its.length/\i= .int .i64 j/\u= .int .i64 x/\0<=x/\x<=500/\Below W.heap.size W wr)
  case atStart=>exact⟨0,m+1,by omega,rfl,rfl,by omega,by omega,Below.refl _ _⟩
  case round=>
   obtain⟨j,x,hj,rfl,rfl,hx0,hx1,hb⟩:=hrel
   have HB1:=I hb
   have d5:=(hb.cell (p:=⟨w.heap.size,5,none⟩) HSZ.out).trans C5.out
   clear hb
   simp only[List.getElem?_toArray,List.getElem?_cons_succ,List.getElem?_cons_zero] at d5
   cases gk with
   |zero=>
    have hge: ¬ ((j:Int) <(its.length:Int)):=by omega
    go_wp2
    all_goals
     go_ret
     exact⟨_,by omega,by omega,rfl,HB.out.trans (HB1.out.mono HB.out.size)⟩
   |succ g=>
    have hlt:(j:Int) <(its.length:Int):=by omega
    by_cases h0:x < 500
    ·have hz2:w.heap.size<=wr.heap.size:=Nat.le_trans HB.out.size HB1.out.size
     obtain⟨y,hy⟩:∃ y,its[j]?= some y:=⟨_,List.getElem?_eq_getElem (by omega)⟩
     obtain⟨b,o,rfl,hbb,hc⟩:=HA.out (by omega)
     obtain⟨cs,hcl,hr,hR⟩:=hc j y hy
     have hB2:=HB.out.trans (HB1.out.mono HB.out.size)
     have HR:=I (zd hr hB2 hbb)
     have HC:=I (IH.out y (List.mem_of_getElem? hy) x cs wr hx0 h0 ((hR.under hB2).more hB2.size))
     have HCL:=I hcl
     clear hc hr hR hB2 hy hcl
     go_wp2_with (first|(with_reducible refine zc 26 _ rfl ?hw b (o+j*6) cs _ rfl HR.out Tryz.underlying26 rfl ?hi ?_;(case hw=>exact wantA rfl);(case hi=>rw[HCL.out];kernel_rfl))|(go_at_call 85;refine HC.out.mono ?_;rintro e w' ⟨z,hz0,hz1,rfl,hb⟩;have HB2:=I hb;clear hb))
     go_roundg g
     case measure=>omega
     case rel=>exact⟨j+1,_,by omega,by go_num,rfl,hz0,hz1,HB1.out.trans (HB2.out.mono HB1.out.size)⟩
    ·go_wp2
     all_goals
      go_ret
      exact⟨_,by omega,by omega,rfl,HB.out.trans (HB1.out.mono HB.out.size)⟩
theorem vlen {w:World} {B:Nat} {cs:List Value} {x:VT} (h:ValAt w B cs x):cs.length= 6:=by
 cases h;rfl
theorem zeC (x:VT) (cs:List Value) (w:World) (hv:ValAt w w.heap.size cs x):Calls Tryz.prog 47 #[.agg ⟨cs⟩] w (z4O w):=by
 have HCL:=I (vlen hv)
 have HV:=I hv
 clear hv
 go_enter Tryz.func47,Tryz.ntmps47
 go_upto_region 1 with (fail)
 have HB:=I (ze w (.cells ⟨cs⟩ 26))
 have HR:=I (zq w cs 26)
 generalize w.alloc (.cells ⟨cs⟩ 26)= W at*
 have HC:=I (zec x 0 cs W (by omega) (by omega) ((HV.out.under HB.out).more HB.out.size))
 go_wp2_with (first|(with_reducible refine zc 26 _ rfl ?hw w.heap.size 0 cs _ rfl HR.out Tryz.underlying26 rfl ?hi ?_;(case hw=>exact wantA rfl);(case hi=>rw[HCL.out];kernel_rfl))|(go_at_call 85;refine HC.out.mono ?_;rintro e w' ⟨z,hz0,hz1,rfl,hb⟩;have HB2:=I hb;clear hb))
 go_ret
 exact⟨z,hz0,hz1,rfl,HB.out.trans (HB2.out.mono HB.out.size)⟩
theorem zae (x:VT) (cs:List Value) (w:World) (hv:ValAt w w.heap.size cs x):Calls Tryz.prog 20 #[.agg ⟨cs⟩] w (z4T w):=by
 have HCL:=I (vlen hv)
 have HV:=I hv
 clear hv
 go_enter Tryz.func20,Tryz.ntmps20
 go_upto_region 1 with (fail)
 have HB:=I (ze w (.cells ⟨cs⟩ 26))
 have HR:=I (zq w cs 26)
 have HSZ:=I (zt w (.cells ⟨cs⟩ 26))
 generalize w.alloc (.cells ⟨cs⟩ 26)= W at*
 have HC:=I (zeg x 40 cs W (by omega) ((HV.out.under HB.out).more HB.out.size))
 go_wp2_with (first|(with_reducible refine zc 26 _ rfl ?hw w.heap.size 0 cs _ rfl HR.out Tryz.underlying26 rfl ?hi ?_;(case hw=>exact wantA rfl);(case hi=>rw[HCL.out];kernel_rfl))|(go_at_call 46;fail))
 refine HC.out.mono ?_
 rintro e w2 ⟨z,rfl,hb⟩
 have HB2:=I (HB.out.trans (hb.mono HB.out.size))
 have HR2:=I (zd HR.out hb HSZ.out)
 have HC2:=I (zeC x cs w2 ((HV.out.under HB2.out).more HB2.out.size))
 clear hb HC
 by_cases hz:z<=30
 ·go_wp2_with (first|(with_reducible refine zc 26 _ rfl ?hw w.heap.size 0 cs _ rfl HR2.out Tryz.underlying26 rfl ?hi ?_;(case hw=>exact wantA rfl);(case hi=>rw[HCL.out];kernel_rfl))|(go_at_call 47;refine HC2.out.mono ?_;rintro e w' ⟨y,hy0,hy1,rfl,hb⟩;have HB3:=I hb;clear hb))
  all_goals
   go_ret
   exact⟨_,rfl,HB2.out.trans (HB3.out.mono HB2.out.size)⟩
 ·go_wp2
  all_goals
   go_ret
   exact⟨_,rfl,HB2.out⟩
end
section
open Go Go.RowKit
mutual
def cntE:ET->Nat->Nat
 | .mk _ _ _ _ its,n=>cntEL its (n+1)
def cntEL:List ET->Nat->Nat
 |[],n=>n
 |a::l,n=>if 500<=n then n else cntEL l (cntE a n)
end
theorem z7n:∀ (l:List ET) (n:Nat),(∀ x∈l,∀ m,m < 500->cntE x m<=500)->n<=500->cntEL l n<=500
 |[],n,_,h=>by rw[cntEL];exact h
 |a::l,n,h,hn=>by
  rw[cntEL]
  by_cases h5:500<=n
  ·rw[if_pos h5];exact hn
  ·rw[if_neg h5];exact z7n l _ (fun x hx=>h x (List.mem_cons_of_mem _ hx)) (h a (List.mem_cons_self ..) n (by omega))
theorem z5Q (t:ET):∀ m,m < 500->cntE t m<=500:=by
 induction t using ET.ind with
 |h k s v ns its ih=>exact fun m hm=>by rw[cntE];exact z7n its _ ih (by omega)
theorem z4R {l:List ET} {k:Nat} {x:ET} (h:l[k]?= some x):l.drop k= x::l.drop (k+1):=by
 obtain⟨h1,h2⟩:=List.getElem?_eq_some_iff.1 h
 rw[List.drop_eq_getElem_cons h1,h2]
theorem z5L {l:List ET} {k m:Nat} {x:ET} (h:l[k]?= some x):cntEL (l.drop k) m= if 500<=m then m else cntEL (l.drop (k+1)) (cntE x m):=by
 rw[z4R h,cntEL]
theorem z6n {l:List ET} {m:Nat}:cntEL (l.drop l.length) m= m:=by
 rw[List.drop_eq_nil_of_le (Nat.le_refl _),cntEL]
theorem eslen {w:World} {B:Nat} {cs:List Value} {x:ET} (h:ExpAt w B cs x):cs.length= 10:=by
 cases h;rfl
theorem z7E:∀ (t:ET) (m:Nat) (cs:List Value) (p o:Nat) (w:World),m < 500->w.rangeAt p o cs->ExpAt w w.heap.size cs t->
  Calls Tryz.prog 104 #[.pointer (some ⟨p,o,none⟩),.int .i64 m] w fun e w'=>e= .returned (.int .i64 (cntE t m:Nat))/\w'= w:=by
 intro t
 induction t using ET.ind with
 |h k s t ns its ih=>
  intro m cs p o w hm hr hv
  have IH:=I ih
  obtain⟨v0,v1,v2,v3,v4,v5,vn,vi,rfl,_,_,_,_,hil,hi⟩:=hv.inv
  obtain⟨_,A,c,rfl,hA⟩:=hi
  unfold maxLen at hil
  have HA:=I hA
  have d5:=hr 9 _ rfl
  have HS:=I (fun k m x=>z5L (l:=its) (k:=k) (m:=m) (x:=x))
  have HE:=I (fun m=>z6n (l:=its) (m:=m))
  have HLE:=I (fun x m hm=>z5Q x m hm)
  have H0:Hid (cntEL (its.drop 0) (m+1)= cntE (.mk k s t ns its) m):=I (by rw[cntE];rfl)
  have hm2:(m:Int) < 500:=by omega
  clear ih hA hr hv
  generalize cntE (.mk k s t ns its) m= res at*
  go_enter Tryz.func104,Tryz.ntmps104
  go_wp2
  go_loopg [1,13] its.length (fun q n x u=>∃ (j m:Nat),j+q= its.length/\x= .int .i64 j/\n= .int .i64 m/\m<=500/\u= w/\cntEL (its.drop j) m= res)
  case atStart=>exact⟨0,m+1,by omega,rfl,by go_num,by omega,rfl,H0.out⟩
  case round=>
   obtain⟨j,m,hj,rfl,rfl,hm5,rfl,hres⟩:=hrel
   have HR:=I hres
   clear hres
   cases gk with
   |zero=>
    obtain rfl:j= its.length:=by omega
    have hge: ¬ ((its.length:Int) <(its.length:Int)):=by omega
    have HV:=I (HR.out.symm.trans (HE.out m))
    go_wp2
    go_ret
    exact⟨by rw[HV.out];rfl,rfl⟩
   |succ q=>
    have hlt:(j:Int) <(its.length:Int):=by omega
    obtain⟨x,hx⟩:∃ x,its[j]?= some x:=⟨_,List.getElem?_eq_getElem (by omega)⟩
    obtain⟨b,o',rfl,hbl,hc⟩:=HA.out (by omega)
    obtain⟨ks,hkl,hks,hvx⟩:=hc j x hx
    have HV:=I (HR.out.symm.trans (HS.out j m x hx))
    by_cases h5:500<=m
    ·have HV2:=I (HV.out.trans (if_pos h5))
     have t1:(500:Int)<=(m:Int):=by omega
     clear hc hks hvx hx HV
     go_wp2
     go_ret
     exact⟨by rw[HV2.out];rfl,rfl⟩
    ·have HV2:=I (HV.out.trans (if_neg h5))
     have t1: ¬ ((500:Int)<=(m:Int)):=by omega
     have HC:=I (IH.out x (List.mem_of_getElem? hx) m ks b (o'+j*10) wr (by omega) hks hvx)
     have hle:=HLE.out x m (by omega)
     clear hc hks hvx hx HV h5
     go_wp2_with (go_at_call 104;refine HC.out.mono ?_;rintro e z ⟨rfl,rfl⟩)
     go_roundg q
     case measure=>omega
     case rel=>exact⟨j+1,_,by omega,by go_num,rfl,hle,rfl,HV2.out.symm⟩
theorem z9U (t:ET) (cs:List Value) (w:World) (hv:ExpAt w w.heap.size cs t):Calls Tryz.prog 60 #[.agg ⟨cs⟩] w fun e w'=>e= .returned (.int .i64 (cntE t 0:Nat))/\Below w.heap.size w w':=by
 have HB1:=I (ze w (.cells ⟨cs⟩ 29))
 have HC:=I (z7E t 0 cs w.heap.size 0 (w.alloc (.cells ⟨cs⟩ 29)) (by decide) (zq w cs 29) ((hv.under HB1.out).more HB1.out.size))
 go_enter Tryz.func60,Tryz.ntmps60
 go_wp2_with (go_at_call 104;refine HC.out.mono ?_;rintro e z ⟨rfl,rfl⟩)
 go_ret
 exact⟨rfl,HB1.out⟩
theorem z8d:∀ (t:ET) (m:Nat) (cs:List Value) (w:World),m < 500->ExpAt w w.heap.size cs t->
  Calls Tryz.prog 49 #[.agg ⟨cs⟩,.int .i64 m] w fun e w'=>e= .returned (.int .i64 (cntE t m:Nat))/\Below w.heap.size w w':=by
 intro t
 induction t using ET.ind with
 |h k s t ns its ih=>
  intro m cs w hm hv
  have IH:=I ih
  obtain⟨v0,v1,v2,v3,v4,v5,vn,vi,rfl,_,_,_,_,hil,hi⟩:=hv.inv
  obtain⟨_,A,c,rfl,hA⟩:=hi
  unfold maxLen at hil
  have HA:=I hA
  have HS:=I (fun k m x=>z5L (l:=its) (k:=k) (m:=m) (x:=x))
  have HE:=I (fun m=>z6n (l:=its) (m:=m))
  have HLE:=I (fun x m hm=>z5Q x m hm)
  have HCE:Hid (∀ k m,500<=m->cntEL (its.drop k) m= m):=I (fun k m h=>by
   cases its.drop k with
   |nil=>rw[cntEL]
   |cons a l=>rw[cntEL,if_pos h])
  have H0:Hid (cntEL (its.drop 0) (m+1)= cntE (.mk k s t ns its) m):=I (by rw[cntE];rfl)
  clear ih hA hv
  generalize cntE (.mk k s t ns its) m= res at*
  go_enter Tryz.func49,Tryz.ntmps49
  go_upto_region 1 with (fail)
  have hb0:=ze w (.cells ⟨[.int .i64 k,.string s,v0,v1,v2,v3,v4,v5,vn,.slice A its.length c]⟩ 29)
  have hz0:=zt w (.cells ⟨[.int .i64 k,.string s,v0,v1,v2,v3,v4,v5,vn,.slice A its.length c]⟩ 29)
  have c5:=zA w ⟨[.int .i64 k,.string s,v0,v1,v2,v3,v4,v5,vn,.slice A its.length c]⟩ 29 9
  generalize w.alloc (.cells ⟨[.int .i64 k,.string s,v0,v1,v2,v3,v4,v5,vn,.slice A its.length c]⟩ 29)= W at*
  have HB:=I hb0
  have C5:=I c5
  have HSZ:=I hz0
  clear hb0 c5 hz0
  have hm2:(m:Int) < 500:=by omega
  go_wp2
  go_loopg [1,5] its.length (fun g u i wr=>∃ (j m:Nat),j+g= its.length/\i= .int .i64 j/\u= .int .i64 m/\m<=500/\Below W.heap.size W wr/\cntEL (its.drop j) m= res)
  case atStart=>exact⟨0,m+1,by omega,rfl,by go_num,by omega,Below.refl _ _,H0.out⟩
  case round=>
   obtain⟨j,m,hj,rfl,rfl,hm5,hb,hres⟩:=hrel
   have HB1:=I hb
   have HR:=I hres
   have d5:=(hb.cell (p:=⟨w.heap.size,9,none⟩) HSZ.out).trans C5.out
   clear hb hres
   simp only[List.getElem?_toArray,List.getElem?_cons_succ,List.getElem?_cons_zero] at d5
   have hm5':(m:Int)<=500:=by omega
   cases gk with
   |zero=>
    obtain rfl:j= its.length:=by omega
    have hge: ¬ ((its.length:Int) <(its.length:Int)):=by omega
    have HV:=I (HR.out.symm.trans (HE.out m))
    go_wp2
    go_ret
    exact⟨by rw[HV.out];go_num,HB.out.trans (HB1.out.mono HB.out.size)⟩
   |succ g=>
    have hlt:(j:Int) <(its.length:Int):=by omega
    by_cases h0:m < 500
    ·have hz2:w.heap.size<=wr.heap.size:=Nat.le_trans HB.out.size HB1.out.size
     obtain⟨y,hy⟩:∃ y,its[j]?= some y:=⟨_,List.getElem?_eq_getElem (by omega)⟩
     obtain⟨b,o,rfl,hbb,hc⟩:=HA.out (by omega)
     obtain⟨cs,hcl,hr,hR⟩:=hc j y hy
     have hB2:=HB.out.trans (HB1.out.mono HB.out.size)
     have HV:=I (HR.out.symm.trans (HS.out j m y hy))
     have HV2:=I (HV.out.trans (if_neg (by omega)))
     have HR1:=I (zd hr hB2 hbb)
     have HC:=I (IH.out y (List.mem_of_getElem? hy) m cs wr h0 ((hR.under hB2).more hB2.size))
     have HCL:=I hcl
     have hle:=HLE.out y m h0
     have h0':(m:Int) < 500:=by omega
     clear hc hr hR hB2 hy HV h0
     go_wp2_with (first|((with_reducible refine zc 29 _ rfl ?hwa b (o+j*10) cs _ rfl HR1.out Tryz.underlying29 rfl ?hia ?_);(case hwa=>(exact wantA rfl));(case hia=>rw[HCL.out];kernel_rfl))|(go_at_call 49;refine HC.out.mono ?_;rintro e w' ⟨rfl,hb⟩;have HB2:=I hb;clear hb))
     go_roundg g
     case measure=>omega
     case rel=>exact⟨j+1,_,by omega,by go_num,rfl,hle,HB1.out.trans (HB2.out.mono HB1.out.size),HV2.out.symm⟩
    ·have HV:=I (HR.out.symm.trans (HCE.out j m (by omega)))
     have h0': ¬ ((m:Int) < 500):=by omega
     have hm500:m= 500:=by omega
     go_wp2
     all_goals
      go_ret
      exact⟨by rw[HV.out,hm500];rfl,HB.out.trans (HB1.out.mono HB.out.size)⟩
theorem z4t (t:ET) (cs:List Value) (w:World) (hv:ExpAt w w.heap.size cs t):Calls Tryz.prog 25 #[.agg ⟨cs⟩] w fun e w'=>e= .returned (.int .i64 (cntE t 0:Nat))/\Below w.heap.size w w':=by
 have HCL:=I (eslen hv)
 have HV:=I hv
 clear hv
 go_enter Tryz.func25,Tryz.ntmps25
 go_upto_region 1 with (fail)
 have HB:=I (ze w (.cells ⟨cs⟩ 29))
 have HR:=I (zq w cs 29)
 generalize w.alloc (.cells ⟨cs⟩ 29)= W at*
 have HC:=I (z8d t 0 cs W (by omega) ((HV.out.under HB.out).more HB.out.size))
 go_wp2_with (first|((with_reducible refine zc 29 _ rfl ?hwa w.heap.size 0 cs _ rfl HR.out Tryz.underlying29 rfl ?hia ?_);(case hwa=>(exact wantA rfl));(case hia=>rw[HCL.out];kernel_rfl))|(go_at_call 49;refine HC.out.mono ?_;rintro e w' ⟨rfl,hb⟩;have HB2:=I hb;clear hb))
 go_ret
 exact⟨rfl,HB.out.trans (HB2.out.mono HB.out.size)⟩
end
end Go.Proofs.YtmpbepjjbaeebaaGreatDoor
