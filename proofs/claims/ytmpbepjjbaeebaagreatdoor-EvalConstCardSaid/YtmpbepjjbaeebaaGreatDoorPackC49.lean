/- Parts of a proof: RTyp, RSmallE. -/
import Derived.Test.YtmpbepjjbaeebaaGreatDoorPackC7
import Derived.Test.YtmpbepjjbaeebaaGreatDoorPackC12
import Derived.Test.YtmpbepjjbaeebaaGreatDoorPackC15
import Derived.Test.YtmpbepjjbaeebaaGreatDoorPackC21
set_option maxHeartbeats 8000000
set_option maxRecDepth 100000
set_option linter.unusedVariables false
set_option linter.unusedSimpArgs false
namespace Go.Proofs.YtmpbepjjbaeebaaGreatDoor
section
open Go Go.RowKit
theorem ze6:∀ (x:TT) (far:Nat) (cs:List Value) (w:World),far<=40->TypAt w w.heap.size cs x->Calls Tryz.prog 50 #[.agg ⟨cs⟩,.int .i64 far] w (z5T w):=by
 intro x
 induction x using TT.ind with
 |h k ns its ih=>
  intro far cs w hfar hv
  obtain⟨vn,vi,rfl,_,_,_,hi⟩:=hv.inv
  obtain⟨A,c,rfl,hil,hA⟩:=z2e hi
  have HA:=I hA
  have IH:=I ih
  clear hA hv ih hi
  go_enter Tryz.func50,Tryz.ntmps50
  go_upto_region 1 with (fail)
  have hb0:=ze w (.cells ⟨[.int .i64 k,vn,.slice A its.length c]⟩ 45)
  have hz0:=zt w (.cells ⟨[.int .i64 k,vn,.slice A its.length c]⟩ 45)
  have c5:=zA w ⟨[.int .i64 k,vn,.slice A its.length c]⟩ 45 2
  generalize w.alloc (.cells ⟨[.int .i64 k,vn,.slice A its.length c]⟩ 45)= W at*
  have HB:=I hb0
  have C5:=I c5
  have HSZ:=I hz0
  clear hb0 c5 hz0
  go_wp2
  go_loopg [5,6] its.length (fun g m i wr=>∃ (j:Nat) (x:Int),j+g= its.length/\i= .int .i64 j/\m= .int .i64 x/\Below W.heap.size W wr)
  case atStart=>exact⟨0,0,by omega,rfl,rfl,Below.refl _ _⟩
  case round=>
   obtain⟨j,x,hj,rfl,rfl,hb⟩:=hrel
   have HB1:=I hb
   have d5:=(hb.cell (p:=⟨w.heap.size,2,none⟩) HSZ.out).trans C5.out
   clear hb
   simp only[List.getElem?_toArray,List.getElem?_cons_succ,List.getElem?_cons_zero] at d5
   cases gk with
   |zero=>
    have hge: ¬ ((j:Int) <(its.length:Int)):=by omega
    go_wp2
    go_ret
    exact⟨_,rfl,HB.out.trans (HB1.out.mono HB.out.size)⟩
   |succ g=>
    have hlt:(j:Int) <(its.length:Int):=by omega
    by_cases h0:far= 0
    ·subst h0
     go_wp2
     go_ret
     exact⟨_,rfl,HB.out.trans (HB1.out.mono HB.out.size)⟩
    ·have hpos:(0:Int) <(far:Int):=by omega
     obtain⟨y,hy⟩:∃ y,its[j]?= some y:=⟨_,List.getElem?_eq_getElem (by omega)⟩
     obtain⟨b,o,rfl,hbb,hc⟩:=HA.out (by omega)
     obtain⟨cs,hr,hR⟩:=hc j y hy
     have hB2:=HB.out.trans (HB1.out.mono HB.out.size)
     have HR:=I (zd hr hB2 hbb)
     have HC:=I (IH.out y (List.mem_of_getElem? hy) (far - 1) cs wr (by omega) (hR.next hB2))
     have HCL:=I (z0z hR)
     have hf1:((far - 1:Nat):Int)=(far:Int) - 1:=by omega
     clear hc hr hR hB2 hy h0
     rw[hf1] at HC
     clear hf1
     go_wp2_with (first|((with_reducible refine zc 45 _ rfl ?hwa b (o+j*3) cs _ rfl HR.out Tryz.underlying45 rfl ?hia ?_);(case hwa=>(exact wantA rfl));(case hia=>rw[HCL.out.1];kernel_rfl))|(go_at_call 50;refine HC.out.mono ?_;rintro e w' ⟨z,rfl,hb⟩;have HB2:=I hb;clear hb))
     all_goals
      go_roundg g
      case measure=>omega
      case rel=>exact⟨j+1,_,by omega,by go_num,rfl,HB1.out.trans (HB2.out.mono HB1.out.size)⟩
theorem z9o:∀ (t:TT) (m:Nat) (cs:List Value) (w:World),m < 500->TypAt w w.heap.size cs t->
  Calls Tryz.prog 88 #[.agg ⟨cs⟩,.int .i64 m] w fun e w'=>e= .returned (.int .i64 (cntT t m:Nat))/\Below w.heap.size w w':=by
 intro t
 induction t using TT.ind with
 |h k ns its ih=>
  intro m cs w hm hv
  have IH:=I ih
  obtain⟨vn,vi,rfl,_,_,_,hi⟩:=hv.inv
  obtain⟨A,c,rfl,hil,hA⟩:=z2e hi
  have HA:=I hA
  have HS:=I (fun k m x=>z5b (l:=its) (k:=k) (m:=m) (x:=x))
  have HE:=I (fun m=>z6g (l:=its) (m:=m))
  have HLE:=I (fun x m hm=>z90 x m hm)
  have HCE:Hid (∀ k m,500<=m->cntTL (its.drop k) m= m):=I (fun k m h=>by
   cases its.drop k with
   |nil=>rw[cntTL]
   |cons a l=>rw[cntTL,if_pos h])
  have H0:Hid (cntTL (its.drop 0) (m+1)= cntT (.mk k ns its) m):=I (by rw[cntT];rfl)
  clear ih hi hA hv
  generalize cntT (.mk k ns its) m= res at*
  go_enter Tryz.func88,Tryz.ntmps88
  go_upto_region 1 with (fail)
  have hb0:=ze w (.cells ⟨[.int .i64 k,vn,.slice A its.length c]⟩ 45)
  have hz0:=zt w (.cells ⟨[.int .i64 k,vn,.slice A its.length c]⟩ 45)
  have c5:=zA w ⟨[.int .i64 k,vn,.slice A its.length c]⟩ 45 2
  generalize w.alloc (.cells ⟨[.int .i64 k,vn,.slice A its.length c]⟩ 45)= W at*
  have HB:=I hb0
  have C5:=I c5
  have HSZ:=I hz0
  clear hb0 c5 hz0
  have hm2:(m:Int) < 500:=by omega
  go_wp2
  go_loopg [1,5] its.length (fun g u i wr=>∃ (j m:Nat),j+g= its.length/\i= .int .i64 j/\u= .int .i64 m/\m<=500/\Below W.heap.size W wr/\cntTL (its.drop j) m= res)
  case atStart=>exact⟨0,m+1,by omega,rfl,by go_num,by omega,Below.refl _ _,H0.out⟩
  case round=>
   obtain⟨j,m,hj,rfl,rfl,hm5,hb,hres⟩:=hrel
   have HB1:=I hb
   have HR:=I hres
   have d5:=(hb.cell (p:=⟨w.heap.size,2,none⟩) HSZ.out).trans C5.out
   clear hb hres
   simp only[List.getElem?_toArray,List.getElem?_cons_succ,List.getElem?_cons_zero] at d5
   have hm5':(m:Int)<=500:=by omega
   cases gk with
   |zero=>
    obtain rfl:j= its.length:=by omega
    have hge: ¬ ((its.length:Int) <(its.length:Int)):=by omega
    have HV:=I (HR.out.symm.trans (HE.out m))
    go_wp2
    go_ret
    exact⟨by rw[HV.out];go_num,HB.out.trans (HB1.out.mono HB.out.size)⟩
   |succ g=>
    have hlt:(j:Int) <(its.length:Int):=by omega
    by_cases h0:m < 500
    ·obtain⟨y,hy⟩:∃ y,its[j]?= some y:=⟨_,List.getElem?_eq_getElem (by omega)⟩
     obtain⟨b,o,rfl,hbb,hc⟩:=HA.out (by omega)
     obtain⟨cs,hr,hR⟩:=hc j y hy
     have hB2:=HB.out.trans (HB1.out.mono HB.out.size)
     have HV:=I (HR.out.symm.trans (HS.out j m y hy))
     have HV2:=I (HV.out.trans (if_neg (by omega)))
     have HR1:=I (zd hr hB2 hbb)
     have HC:=I (IH.out y (List.mem_of_getElem? hy) m cs wr h0 (hR.next hB2))
     have HCL:=I (z0z hR)
     have hle:=HLE.out y m h0
     have h0':(m:Int) < 500:=by omega
     clear hc hr hR hB2 hy HV h0
     go_wp2_with (first|((with_reducible refine zc 45 _ rfl ?hwa b (o+j*3) cs _ rfl HR1.out Tryz.underlying45 rfl ?hia ?_);(case hwa=>(exact wantA rfl));(case hia=>rw[HCL.out.1];kernel_rfl))|(go_at_call 88;refine HC.out.mono ?_;rintro e w' ⟨rfl,hb⟩;have HB2:=I hb;clear hb))
     go_roundg g
     case measure=>omega
     case rel=>exact⟨j+1,_,by omega,by go_num,rfl,hle,HB1.out.trans (HB2.out.mono HB1.out.size),HV2.out.symm⟩
    ·have HV:=I (HR.out.symm.trans (HCE.out j m (by omega)))
     have h0': ¬ ((m:Int) < 500):=by omega
     have hm500:m= 500:=by omega
     go_wp2
     all_goals
      go_ret
      exact⟨by rw[HV.out,hm500];rfl,HB.out.trans (HB1.out.mono HB.out.size)⟩
theorem z5r (t:TT) (cs:List Value) (w:World) (hv:TypAt w w.heap.size cs t):Calls Tryz.prog 51 #[.agg ⟨cs⟩] w fun e w'=>e= .returned (.int .i64 (cntT t 0:Nat))/\Below w.heap.size w w':=by
 have HCL:=I (z0z hv)
 have HV:=I hv
 clear hv
 go_enter Tryz.func51,Tryz.ntmps51
 go_upto_region 1 with (fail)
 have HB:=I (ze w (.cells ⟨cs⟩ 45))
 have HR:=I (zq w cs 45)
 generalize w.alloc (.cells ⟨cs⟩ 45)= W at*
 have HC:=I (z9o t 0 cs W (by omega) (HV.out.next HB.out))
 go_wp2_with (first|((with_reducible refine zc 45 _ rfl ?hwa w.heap.size 0 cs _ rfl HR.out Tryz.underlying45 rfl ?hia ?_);(case hwa=>(exact wantA rfl));(case hia=>rw[HCL.out.1];kernel_rfl))|(go_at_call 88;refine HC.out.mono ?_;rintro e w' ⟨rfl,hb⟩;have HB2:=I hb;clear hb))
 go_ret
 exact⟨rfl,HB.out.trans (HB2.out.mono HB.out.size)⟩
theorem za6 (x:TT) (cs:List Value) (w:World) (hv:TypAt w w.heap.size cs x):Calls Tryz.prog 28 #[.agg ⟨cs⟩] w (z4T w):=by
 have HCL:=I (z0z hv)
 have HV:=I hv
 clear hv
 go_enter Tryz.func28,Tryz.ntmps28
 go_upto_region 1 with (fail)
 have HB:=I (ze w (.cells ⟨cs⟩ 45))
 have HR:=I (zq w cs 45)
 have HSZ:=I (zt w (.cells ⟨cs⟩ 45))
 generalize w.alloc (.cells ⟨cs⟩ 45)= W at*
 have HC:=I (ze6 x 40 cs W (by omega) (HV.out.next HB.out))
 go_wp2_with (first|((with_reducible refine zc 45 _ rfl ?hwa w.heap.size 0 cs _ rfl HR.out Tryz.underlying45 rfl ?hia ?_);(case hwa=>(exact wantA rfl));(case hia=>rw[HCL.out.1];kernel_rfl))|(go_at_call 50;fail))
 refine HC.out.mono ?_
 rintro e w2 ⟨z,rfl,hb⟩
 have HB2:=I (HB.out.trans (hb.mono HB.out.size))
 have HR2:=I (zd HR.out hb HSZ.out)
 have HC2:=I (z5r x cs w2 (HV.out.next HB2.out))
 clear hb HC
 by_cases hz:z<=30
 ·go_wp2_with (first|((with_reducible refine zc 45 _ rfl ?hwc w.heap.size 0 cs _ rfl HR2.out Tryz.underlying45 rfl ?hic ?_);(case hwc=>(exact wantA rfl));(case hic=>rw[HCL.out.1];kernel_rfl))|(go_at_call 51;refine HC2.out.mono ?_;rintro e w' ⟨rfl,hb⟩;have HB3:=I hb;clear hb))
  all_goals
   go_ret
   exact⟨_,rfl,HB2.out.trans (HB3.out.mono HB2.out.size)⟩
 ·go_wp2
  all_goals
   go_ret
   exact⟨_,rfl,HB2.out⟩
theorem z9J:∀ (t:TT) (far d:Nat) (cs:List Value) (w:World),far+d= 13->TypAt w w.heap.size cs t->
  Calls Tryz.prog 80 #[.agg ⟨cs⟩,.int .i64 far] w fun e w'=>e= .returned (.bool (zF t d))/\Below w.heap.size w w':=by
 intro t
 induction t using TT.ind with
 |h k ns its ih=>
  intro far d cs w hfd hv
  have IH:=I ih
  obtain⟨vn,vi,rfl,_,hn,_,hi⟩:=hv.inv
  obtain⟨_,NA,nc,rfl,_⟩:=id hn
  obtain⟨A,c,rfl,hil,hA⟩:=z2e hi
  have hnl:=hn.1
  have HN:=I hn
  have HA:=I hA
  have hf13:far<=13:=by omega
  have hfd':d= 13 - far:=by omega
  have HO:Hid (zF (.mk k ns its) d= if 12 < d then false
   else if k= 5 then(its.length ==1) && ((ns.length ==0) && z05 its (d+1))
   else if k= 6 then(ns.length ==its.length) && (riseB none ns && z05 its (d+1))
   else if k= 1\/k= 2\/k= 3\/k= 4\/k= 7 then(ns.length ==0) && (its.length ==0)
   else false):=I (by rw[zF])
  generalize hres:zF (.mk k ns its) d= res at*
  have HW:=I (ze w (.cells ⟨[.int .i64 k,.slice NA ns.length nc,.slice A its.length c]⟩ 45))
  have HSZ:=I (zt w (.cells ⟨[.int .i64 k,.slice NA ns.length nc,.slice A its.length c]⟩ 45))
  have HRG:=I (zq w [.int .i64 k,.slice NA ns.length nc,.slice A its.length c] 45)
  clear ih hv hn hi hA hres
  by_cases hdeep:far= 0
  ·subst hdeep
   have HR:Hid (res= false):=I (HO.out.trans (if_pos (by omega)))
   have t1:((0:Nat):Int) < 1:=by omega
   clear HO
   (try clear hi0);(try clear hm0);(try clear hi1)
   go_enter Tryz.func80,Tryz.ntmps80
   go_upto_region 1 with (fail)
   generalize w.alloc (.cells ⟨[.int .i64 k,.slice NA ns.length nc,.slice A its.length c]⟩ 45)= W at*
   have d0:W.cell? ⟨w.heap.size,0,none⟩= some (.int .i64 k):=by have:=HRG.out 0 _ rfl;simpa using this
   have d1:W.cell? ⟨w.heap.size,1,none⟩= some (.slice NA ns.length nc):=by have:=HRG.out 1 _ rfl;simpa using this
   have d2:W.cell? ⟨w.heap.size,2,none⟩= some (.slice A its.length c):=by have:=HRG.out 2 _ rfl;simpa using this
   go_wp2
   go_ret
   exact⟨za HR.out.symm,HW.out⟩
  have t1: ¬ ((far:Int) < 1):=by omega
  have HO1:=I (HO.out.trans (if_neg (by omega)))
  clear HO
  by_cases k5:k= 5
  ·subst k5
   have HV:=I (HO1.out.trans (if_pos rfl))
   clear HO1
   by_cases hi1:its.length= 1
   ·have j1:((its.length:Int) ==1)= true:=by rw[hi1];rfl
    have j1':(its.length ==1)= true:=by rw[hi1];rfl
    have j2:((its.length:Int) !=1)= false:=by rw[hi1];rfl
    by_cases hm0:ns.length= 0
    ·have m1:((ns.length:Int) ==0)= true:=by rw[hm0];rfl
     have m1':(ns.length ==0)= true:=by rw[hm0];rfl
     have m2:((ns.length:Int) !=0)= false:=by rw[hm0];rfl
     have HM0:=I hm0
     have HI1:=I hi1
     have HR:Hid (res= z05 its (d+1)):=I (by rw[HV.out];simp[m1',j1'])
     clear m1 m1' m2 j1 j1' j2
     (try clear hi0);(try clear hm0);(try clear hi1)
     go_enter Tryz.func80,Tryz.ntmps80
     go_upto_region 1 with (fail)
     generalize w.alloc (.cells ⟨[.int .i64 5,.slice NA ns.length nc,.slice A its.length c]⟩ 45)= W at*
     have d0:W.cell? ⟨w.heap.size,0,none⟩= some (.int .i64 5):=by have:=HRG.out 0 _ rfl;simpa using this
     have d1:W.cell? ⟨w.heap.size,1,none⟩= some (.slice NA ns.length nc):=by have:=HRG.out 1 _ rfl;simpa using this
     have d2:W.cell? ⟨w.heap.size,2,none⟩= some (.slice A its.length c):=by have:=HRG.out 2 _ rfl;simpa using this
     have D5:=I d2
     have hm0:=HM0.out
     rw[hm0] at d1
     have hi1:=HI1.out
     rw[hi1] at d2
     clear hm0 hi1
     go_wp2
     clear d2
     go_loopg [5] its.length (fun q x u=>∃ j:Nat,j+q= its.length/\x= .int .i64 j/\Below W.heap.size W u/\z05 (its.drop j) (d+1)= res)
     case atStart=>exact⟨0,by omega,rfl,Below.refl _ _,HR.out.symm⟩
     case round=>
      obtain⟨j,hj,rfl,hb,hres⟩:=hrel
      have HR2:=I hres
      have HBK:=I hb
      have d5':=(hb.cell (p:=⟨w.heap.size,2,none⟩) HSZ.out).trans D5.out
      clear hres hb
      cases gk with
      |zero=>
       obtain rfl:j= its.length:=by omega
       have hge: ¬ ((its.length:Int) <(its.length:Int)):=by omega
       have HVE:=I (HR2.out.symm.trans z32)
       go_wp2
       go_ret
       exact⟨za HVE.out.symm,HW.out.trans (HBK.out.mono HW.out.size)⟩
      |succ q=>
       have hlt:(j:Int) <(its.length:Int):=by omega
       obtain⟨x,hx⟩:∃ x,its[j]?= some x:=⟨_,List.getElem?_eq_getElem (by omega)⟩
       obtain⟨b,o',rfl,hbl,hc⟩:=HA.out (by omega)
       obtain⟨ks,hks,hvx⟩:=hc j x hx
       have HVS:=I (HR2.out.symm.trans (z2F hx))
       have HBT:=I (HW.out.trans (HBK.out.mono HW.out.size))
       have HKS:=I (zd hks HBT.out hbl)
       have HKL:=I (z0z hvx)
       have HC:=I (IH.out x (List.mem_of_getElem? hx) (far - 1) (d+1) ks wr (by omega) (hvx.next HBT.out))
       have hd1:((far - 1:Nat):Int)=(far:Int) - 1:=by omega
       rw[hd1] at HC
       clear hc hks hvx hx hd1
       generalize zF x (d+1)= rx at*
       cases rx with
       |true=>
        have HV2:=I (HVS.out.trans (Bool.true_and _))
        clear HVS
        go_wp2_with (first|((with_reducible refine zc 45 _ rfl ?hwa b (o'+j*3) ks _ rfl HKS.out Tryz.underlying45 rfl ?hia ?_);(case hwa=>(exact wantA rfl));(case hia=>rw[HKL.out.1];kernel_rfl))|(go_at_call 80;refine HC.out.mono ?_;rintro e z ⟨rfl,hbz⟩;have HB3:=I hbz;clear hbz))
        go_roundg q
        case measure=>omega
        case rel=>exact⟨j+1,by omega,by go_num,HBK.out.trans (HB3.out.mono HBK.out.size),HV2.out.symm⟩
       |false=>
        have HV2:Hid (res= false):=I (HVS.out.trans (Bool.false_and _))
        clear HVS
        go_wp2_with (first|((with_reducible refine zc 45 _ rfl ?hwa b (o'+j*3) ks _ rfl HKS.out Tryz.underlying45 rfl ?hia ?_);(case hwa=>(exact wantA rfl));(case hia=>rw[HKL.out.1];kernel_rfl))|(go_at_call 80;refine HC.out.mono ?_;rintro e z ⟨rfl,hbz⟩;have HB3:=I hbz;clear hbz))
        go_ret
        exact⟨za HV2.out.symm,HBT.out.trans (HB3.out.mono HBT.out.size)⟩
    ·have m1:((ns.length:Int) ==0)= false:=by rw[beq_eq_false_iff_ne];omega
     have m1':(ns.length ==0)= false:=by simpa using hm0
     have m2:((ns.length:Int) !=0)= true:=by rw[bne_iff_ne];omega
     have HR:Hid (res= false):=I (by rw[HV.out];simp[m1',j1'])
     (try clear hi0);(try clear hm0);(try clear hi1)
     go_enter Tryz.func80,Tryz.ntmps80
     go_upto_region 1 with (fail)
     generalize w.alloc (.cells ⟨[.int .i64 5,.slice NA ns.length nc,.slice A its.length c]⟩ 45)= W at*
     have d0:W.cell? ⟨w.heap.size,0,none⟩= some (.int .i64 5):=by have:=HRG.out 0 _ rfl;simpa using this
     have d1:W.cell? ⟨w.heap.size,1,none⟩= some (.slice NA ns.length nc):=by have:=HRG.out 1 _ rfl;simpa using this
     have d2:W.cell? ⟨w.heap.size,2,none⟩= some (.slice A its.length c):=by have:=HRG.out 2 _ rfl;simpa using this
     go_wp2
     go_ret
     exact⟨za HR.out.symm,HW.out⟩
   ·have j1':(its.length ==1)= false:=by simpa using hi1
    have j2:((its.length:Int) !=1)= true:=by rw[bne_iff_ne];omega
    have HR:Hid (res= false):=I (by rw[HV.out];simp[j1'])
    (try clear hi0);(try clear hm0);(try clear hi1)
    go_enter Tryz.func80,Tryz.ntmps80
    go_upto_region 1 with (fail)
    generalize w.alloc (.cells ⟨[.int .i64 5,.slice NA ns.length nc,.slice A its.length c]⟩ 45)= W at*
    have d0:W.cell? ⟨w.heap.size,0,none⟩= some (.int .i64 5):=by have:=HRG.out 0 _ rfl;simpa using this
    have d1:W.cell? ⟨w.heap.size,1,none⟩= some (.slice NA ns.length nc):=by have:=HRG.out 1 _ rfl;simpa using this
    have d2:W.cell? ⟨w.heap.size,2,none⟩= some (.slice A its.length c):=by have:=HRG.out 2 _ rfl;simpa using this
    go_wp2
    go_ret
    exact⟨za HR.out.symm,HW.out⟩
  have HO2:=I (HO1.out.trans (if_neg k5))
  clear HO1
  by_cases k6:k= 6
  ·subst k6
   have HV:=I (HO2.out.trans (if_pos rfl))
   clear HO2
   have HNS:=I (fun z (hz:Below w.heap.size w z)=>z5l (.slice NA ns.length nc) ns its.length z ((HN.out.below hz fun _ _ _ h=>h).more hz.size))
   cases hnm:(riseB none ns && (ns.length ==its.length)) with
   |true=>
    have hq:=hnm
    rw[Bool.and_eq_true] at hq
    obtain⟨q1,q2⟩:=hq
    rw[hnm] at HNS
    have HR:Hid (res= z05 its (d+1)):=I (by rw[HV.out,q1,q2];simp)
    clear q1 q2
    (try clear hi0);(try clear hm0);(try clear hi1)
    go_enter Tryz.func80,Tryz.ntmps80
    go_upto_region 1 with (fail)
    generalize w.alloc (.cells ⟨[.int .i64 6,.slice NA ns.length nc,.slice A its.length c]⟩ 45)= W at*
    have d0:W.cell? ⟨w.heap.size,0,none⟩= some (.int .i64 6):=by have:=HRG.out 0 _ rfl;simpa using this
    have d1:W.cell? ⟨w.heap.size,1,none⟩= some (.slice NA ns.length nc):=by have:=HRG.out 1 _ rfl;simpa using this
    have d2:W.cell? ⟨w.heap.size,2,none⟩= some (.slice A its.length c):=by have:=HRG.out 2 _ rfl;simpa using this
    have D5:=I d2
    go_wp2_with (go_at_call 87;refine(HNS.out _ HW.out).mono ?_;rintro e z2 ⟨rfl,hbz⟩;have HB4:=I hbz;clear hbz)
    clear d2
    go_loopg [5] its.length (fun q x u=>∃ j:Nat,j+q= its.length/\x= .int .i64 j/\Below W.heap.size W u/\z05 (its.drop j) (d+1)= res)
    case atStart=>exact⟨0,by omega,rfl,HB4.out,HR.out.symm⟩
    case round=>
     obtain⟨j,hj,rfl,hb,hres⟩:=hrel
     have HR2:=I hres
     have HBK:=I hb
     have d5':=(hb.cell (p:=⟨w.heap.size,2,none⟩) HSZ.out).trans D5.out
     clear hres hb
     cases gk with
     |zero=>
      obtain rfl:j= its.length:=by omega
      have hge: ¬ ((its.length:Int) <(its.length:Int)):=by omega
      have HVE:=I (HR2.out.symm.trans z32)
      go_wp2
      go_ret
      exact⟨za HVE.out.symm,HW.out.trans (HBK.out.mono HW.out.size)⟩
     |succ q=>
      have hlt:(j:Int) <(its.length:Int):=by omega
      obtain⟨x,hx⟩:∃ x,its[j]?= some x:=⟨_,List.getElem?_eq_getElem (by omega)⟩
      obtain⟨b,o',rfl,hbl,hc⟩:=HA.out (by omega)
      obtain⟨ks,hks,hvx⟩:=hc j x hx
      have HVS:=I (HR2.out.symm.trans (z2F hx))
      have HBT:=I (HW.out.trans (HBK.out.mono HW.out.size))
      have HKS:=I (zd hks HBT.out hbl)
      have HKL:=I (z0z hvx)
      have HC:=I (IH.out x (List.mem_of_getElem? hx) (far - 1) (d+1) ks wr (by omega) (hvx.next HBT.out))
      have hd1:((far - 1:Nat):Int)=(far:Int) - 1:=by omega
      rw[hd1] at HC
      clear hc hks hvx hx hd1
      generalize zF x (d+1)= rx at*
      cases rx with
      |true=>
       have HV2:=I (HVS.out.trans (Bool.true_and _))
       clear HVS
       go_wp2_with (first|((with_reducible refine zc 45 _ rfl ?hwa b (o'+j*3) ks _ rfl HKS.out Tryz.underlying45 rfl ?hia ?_);(case hwa=>(exact wantA rfl));(case hia=>rw[HKL.out.1];kernel_rfl))|(go_at_call 80;refine HC.out.mono ?_;rintro e z ⟨rfl,hbz⟩;have HB3:=I hbz;clear hbz))
       go_roundg q
       case measure=>omega
       case rel=>exact⟨j+1,by omega,by go_num,HBK.out.trans (HB3.out.mono HBK.out.size),HV2.out.symm⟩
      |false=>
       have HV2:Hid (res= false):=I (HVS.out.trans (Bool.false_and _))
       clear HVS
       go_wp2_with (first|((with_reducible refine zc 45 _ rfl ?hwa b (o'+j*3) ks _ rfl HKS.out Tryz.underlying45 rfl ?hia ?_);(case hwa=>(exact wantA rfl));(case hia=>rw[HKL.out.1];kernel_rfl))|(go_at_call 80;refine HC.out.mono ?_;rintro e z ⟨rfl,hbz⟩;have HB3:=I hbz;clear hbz))
       go_ret
       exact⟨za HV2.out.symm,HBT.out.trans (HB3.out.mono HBT.out.size)⟩
   |false=>
    rw[hnm] at HNS
    have HR:Hid (res= false):=I (by
     rw[HV.out]
     cases h1:riseB none ns with
     |false=>simp
     |true=>rw[h1,Bool.true_and] at hnm;rw[hnm];simp)
    (try clear hi0);(try clear hm0);(try clear hi1)
    go_enter Tryz.func80,Tryz.ntmps80
    go_upto_region 1 with (fail)
    generalize w.alloc (.cells ⟨[.int .i64 6,.slice NA ns.length nc,.slice A its.length c]⟩ 45)= W at*
    have d0:W.cell? ⟨w.heap.size,0,none⟩= some (.int .i64 6):=by have:=HRG.out 0 _ rfl;simpa using this
    have d1:W.cell? ⟨w.heap.size,1,none⟩= some (.slice NA ns.length nc):=by have:=HRG.out 1 _ rfl;simpa using this
    have d2:W.cell? ⟨w.heap.size,2,none⟩= some (.slice A its.length c):=by have:=HRG.out 2 _ rfl;simpa using this
    go_wp2_with (go_at_call 87;refine(HNS.out _ HW.out).mono ?_;rintro e z2 ⟨rfl,hbz⟩;have HB4:=I hbz;clear hbz)
    go_ret
    exact⟨za HR.out.symm,HW.out.trans (HB4.out.mono HW.out.size)⟩
  have HO3:=I (HO2.out.trans (if_neg k6))
  clear HO2
  by_cases k1:k= 1
  ·subst k1
   have HV:=I (HO3.out.trans (if_pos (by decide)))
   clear HO3
   by_cases hi0:its.length= 0
   ·have i1:((its.length:Int) ==0)= true:=by rw[hi0];rfl
    have i1':(its.length ==0)= true:=by rw[hi0];rfl
    by_cases hm0:ns.length= 0
    ·have m1:((ns.length:Int) ==0)= true:=by rw[hm0];rfl
     have m1':(ns.length ==0)= true:=by rw[hm0];rfl
     have m2:((ns.length:Int) !=0)= false:=by rw[hm0];rfl
     have HR:Hid (res= true):=I (by rw[HV.out];simp[m1',i1'])
     (try clear hi0);(try clear hm0);(try clear hi1)
     go_enter Tryz.func80,Tryz.ntmps80
     go_upto_region 1 with (fail)
     generalize w.alloc (.cells ⟨[.int .i64 1,.slice NA ns.length nc,.slice A its.length c]⟩ 45)= W at*
     have d0:W.cell? ⟨w.heap.size,0,none⟩= some (.int .i64 1):=by have:=HRG.out 0 _ rfl;simpa using this
     have d1:W.cell? ⟨w.heap.size,1,none⟩= some (.slice NA ns.length nc):=by have:=HRG.out 1 _ rfl;simpa using this
     have d2:W.cell? ⟨w.heap.size,2,none⟩= some (.slice A its.length c):=by have:=HRG.out 2 _ rfl;simpa using this
     go_wp2
     go_ret
     exact⟨za HR.out.symm,HW.out⟩
    ·have m1:((ns.length:Int) ==0)= false:=by rw[beq_eq_false_iff_ne];omega
     have m1':(ns.length ==0)= false:=by simpa using hm0
     have m2:((ns.length:Int) !=0)= true:=by rw[bne_iff_ne];omega
     have HR:Hid (res= false):=I (by rw[HV.out];simp[m1',i1'])
     (try clear hi0);(try clear hm0);(try clear hi1)
     go_enter Tryz.func80,Tryz.ntmps80
     go_upto_region 1 with (fail)
     generalize w.alloc (.cells ⟨[.int .i64 1,.slice NA ns.length nc,.slice A its.length c]⟩ 45)= W at*
     have d0:W.cell? ⟨w.heap.size,0,none⟩= some (.int .i64 1):=by have:=HRG.out 0 _ rfl;simpa using this
     have d1:W.cell? ⟨w.heap.size,1,none⟩= some (.slice NA ns.length nc):=by have:=HRG.out 1 _ rfl;simpa using this
     have d2:W.cell? ⟨w.heap.size,2,none⟩= some (.slice A its.length c):=by have:=HRG.out 2 _ rfl;simpa using this
     go_wp2
     go_ret
     exact⟨za HR.out.symm,HW.out⟩
   ·have i1:((its.length:Int) ==0)= false:=by rw[beq_eq_false_iff_ne];omega
    have i1':(its.length ==0)= false:=by simpa using hi0
    have HR:Hid (res= false):=I (by rw[HV.out];simp[i1'])
    (try clear hi0);(try clear hm0);(try clear hi1)
    go_enter Tryz.func80,Tryz.ntmps80
    go_upto_region 1 with (fail)
    generalize w.alloc (.cells ⟨[.int .i64 1,.slice NA ns.length nc,.slice A its.length c]⟩ 45)= W at*
    have d0:W.cell? ⟨w.heap.size,0,none⟩= some (.int .i64 1):=by have:=HRG.out 0 _ rfl;simpa using this
    have d1:W.cell? ⟨w.heap.size,1,none⟩= some (.slice NA ns.length nc):=by have:=HRG.out 1 _ rfl;simpa using this
    have d2:W.cell? ⟨w.heap.size,2,none⟩= some (.slice A its.length c):=by have:=HRG.out 2 _ rfl;simpa using this
    go_wp2
    go_ret
    exact⟨za HR.out.symm,HW.out⟩
  by_cases k2:k= 2
  ·subst k2
   have HV:=I (HO3.out.trans (if_pos (by decide)))
   clear HO3
   by_cases hi0:its.length= 0
   ·have i1:((its.length:Int) ==0)= true:=by rw[hi0];rfl
    have i1':(its.length ==0)= true:=by rw[hi0];rfl
    by_cases hm0:ns.length= 0
    ·have m1:((ns.length:Int) ==0)= true:=by rw[hm0];rfl
     have m1':(ns.length ==0)= true:=by rw[hm0];rfl
     have m2:((ns.length:Int) !=0)= false:=by rw[hm0];rfl
     have HR:Hid (res= true):=I (by rw[HV.out];simp[m1',i1'])
     (try clear hi0);(try clear hm0);(try clear hi1)
     go_enter Tryz.func80,Tryz.ntmps80
     go_upto_region 1 with (fail)
     generalize w.alloc (.cells ⟨[.int .i64 2,.slice NA ns.length nc,.slice A its.length c]⟩ 45)= W at*
     have d0:W.cell? ⟨w.heap.size,0,none⟩= some (.int .i64 2):=by have:=HRG.out 0 _ rfl;simpa using this
     have d1:W.cell? ⟨w.heap.size,1,none⟩= some (.slice NA ns.length nc):=by have:=HRG.out 1 _ rfl;simpa using this
     have d2:W.cell? ⟨w.heap.size,2,none⟩= some (.slice A its.length c):=by have:=HRG.out 2 _ rfl;simpa using this
     go_wp2
     go_ret
     exact⟨za HR.out.symm,HW.out⟩
    ·have m1:((ns.length:Int) ==0)= false:=by rw[beq_eq_false_iff_ne];omega
     have m1':(ns.length ==0)= false:=by simpa using hm0
     have m2:((ns.length:Int) !=0)= true:=by rw[bne_iff_ne];omega
     have HR:Hid (res= false):=I (by rw[HV.out];simp[m1',i1'])
     (try clear hi0);(try clear hm0);(try clear hi1)
     go_enter Tryz.func80,Tryz.ntmps80
     go_upto_region 1 with (fail)
     generalize w.alloc (.cells ⟨[.int .i64 2,.slice NA ns.length nc,.slice A its.length c]⟩ 45)= W at*
     have d0:W.cell? ⟨w.heap.size,0,none⟩= some (.int .i64 2):=by have:=HRG.out 0 _ rfl;simpa using this
     have d1:W.cell? ⟨w.heap.size,1,none⟩= some (.slice NA ns.length nc):=by have:=HRG.out 1 _ rfl;simpa using this
     have d2:W.cell? ⟨w.heap.size,2,none⟩= some (.slice A its.length c):=by have:=HRG.out 2 _ rfl;simpa using this
     go_wp2
     go_ret
     exact⟨za HR.out.symm,HW.out⟩
   ·have i1:((its.length:Int) ==0)= false:=by rw[beq_eq_false_iff_ne];omega
    have i1':(its.length ==0)= false:=by simpa using hi0
    have HR:Hid (res= false):=I (by rw[HV.out];simp[i1'])
    (try clear hi0);(try clear hm0);(try clear hi1)
    go_enter Tryz.func80,Tryz.ntmps80
    go_upto_region 1 with (fail)
    generalize w.alloc (.cells ⟨[.int .i64 2,.slice NA ns.length nc,.slice A its.length c]⟩ 45)= W at*
    have d0:W.cell? ⟨w.heap.size,0,none⟩= some (.int .i64 2):=by have:=HRG.out 0 _ rfl;simpa using this
    have d1:W.cell? ⟨w.heap.size,1,none⟩= some (.slice NA ns.length nc):=by have:=HRG.out 1 _ rfl;simpa using this
    have d2:W.cell? ⟨w.heap.size,2,none⟩= some (.slice A its.length c):=by have:=HRG.out 2 _ rfl;simpa using this
    go_wp2
    go_ret
    exact⟨za HR.out.symm,HW.out⟩
  by_cases k3:k= 3
  ·subst k3
   have HV:=I (HO3.out.trans (if_pos (by decide)))
   clear HO3
   by_cases hi0:its.length= 0
   ·have i1:((its.length:Int) ==0)= true:=by rw[hi0];rfl
    have i1':(its.length ==0)= true:=by rw[hi0];rfl
    by_cases hm0:ns.length= 0
    ·have m1:((ns.length:Int) ==0)= true:=by rw[hm0];rfl
     have m1':(ns.length ==0)= true:=by rw[hm0];rfl
     have m2:((ns.length:Int) !=0)= false:=by rw[hm0];rfl
     have HR:Hid (res= true):=I (by rw[HV.out];simp[m1',i1'])
     (try clear hi0);(try clear hm0);(try clear hi1)
     go_enter Tryz.func80,Tryz.ntmps80
     go_upto_region 1 with (fail)
     generalize w.alloc (.cells ⟨[.int .i64 3,.slice NA ns.length nc,.slice A its.length c]⟩ 45)= W at*
     have d0:W.cell? ⟨w.heap.size,0,none⟩= some (.int .i64 3):=by have:=HRG.out 0 _ rfl;simpa using this
     have d1:W.cell? ⟨w.heap.size,1,none⟩= some (.slice NA ns.length nc):=by have:=HRG.out 1 _ rfl;simpa using this
     have d2:W.cell? ⟨w.heap.size,2,none⟩= some (.slice A its.length c):=by have:=HRG.out 2 _ rfl;simpa using this
     go_wp2
     go_ret
     exact⟨za HR.out.symm,HW.out⟩
    ·have m1:((ns.length:Int) ==0)= false:=by rw[beq_eq_false_iff_ne];omega
     have m1':(ns.length ==0)= false:=by simpa using hm0
     have m2:((ns.length:Int) !=0)= true:=by rw[bne_iff_ne];omega
     have HR:Hid (res= false):=I (by rw[HV.out];simp[m1',i1'])
     (try clear hi0);(try clear hm0);(try clear hi1)
     go_enter Tryz.func80,Tryz.ntmps80
     go_upto_region 1 with (fail)
     generalize w.alloc (.cells ⟨[.int .i64 3,.slice NA ns.length nc,.slice A its.length c]⟩ 45)= W at*
     have d0:W.cell? ⟨w.heap.size,0,none⟩= some (.int .i64 3):=by have:=HRG.out 0 _ rfl;simpa using this
     have d1:W.cell? ⟨w.heap.size,1,none⟩= some (.slice NA ns.length nc):=by have:=HRG.out 1 _ rfl;simpa using this
     have d2:W.cell? ⟨w.heap.size,2,none⟩= some (.slice A its.length c):=by have:=HRG.out 2 _ rfl;simpa using this
     go_wp2
     go_ret
     exact⟨za HR.out.symm,HW.out⟩
   ·have i1:((its.length:Int) ==0)= false:=by rw[beq_eq_false_iff_ne];omega
    have i1':(its.length ==0)= false:=by simpa using hi0
    have HR:Hid (res= false):=I (by rw[HV.out];simp[i1'])
    (try clear hi0);(try clear hm0);(try clear hi1)
    go_enter Tryz.func80,Tryz.ntmps80
    go_upto_region 1 with (fail)
    generalize w.alloc (.cells ⟨[.int .i64 3,.slice NA ns.length nc,.slice A its.length c]⟩ 45)= W at*
    have d0:W.cell? ⟨w.heap.size,0,none⟩= some (.int .i64 3):=by have:=HRG.out 0 _ rfl;simpa using this
    have d1:W.cell? ⟨w.heap.size,1,none⟩= some (.slice NA ns.length nc):=by have:=HRG.out 1 _ rfl;simpa using this
    have d2:W.cell? ⟨w.heap.size,2,none⟩= some (.slice A its.length c):=by have:=HRG.out 2 _ rfl;simpa using this
    go_wp2
    go_ret
    exact⟨za HR.out.symm,HW.out⟩
  by_cases k4:k= 4
  ·subst k4
   have HV:=I (HO3.out.trans (if_pos (by decide)))
   clear HO3
   by_cases hi0:its.length= 0
   ·have i1:((its.length:Int) ==0)= true:=by rw[hi0];rfl
    have i1':(its.length ==0)= true:=by rw[hi0];rfl
    by_cases hm0:ns.length= 0
    ·have m1:((ns.length:Int) ==0)= true:=by rw[hm0];rfl
     have m1':(ns.length ==0)= true:=by rw[hm0];rfl
     have m2:((ns.length:Int) !=0)= false:=by rw[hm0];rfl
     have HR:Hid (res= true):=I (by rw[HV.out];simp[m1',i1'])
     (try clear hi0);(try clear hm0);(try clear hi1)
     go_enter Tryz.func80,Tryz.ntmps80
     go_upto_region 1 with (fail)
     generalize w.alloc (.cells ⟨[.int .i64 4,.slice NA ns.length nc,.slice A its.length c]⟩ 45)= W at*
     have d0:W.cell? ⟨w.heap.size,0,none⟩= some (.int .i64 4):=by have:=HRG.out 0 _ rfl;simpa using this
     have d1:W.cell? ⟨w.heap.size,1,none⟩= some (.slice NA ns.length nc):=by have:=HRG.out 1 _ rfl;simpa using this
     have d2:W.cell? ⟨w.heap.size,2,none⟩= some (.slice A its.length c):=by have:=HRG.out 2 _ rfl;simpa using this
     go_wp2
     go_ret
     exact⟨za HR.out.symm,HW.out⟩
    ·have m1:((ns.length:Int) ==0)= false:=by rw[beq_eq_false_iff_ne];omega
     have m1':(ns.length ==0)= false:=by simpa using hm0
     have m2:((ns.length:Int) !=0)= true:=by rw[bne_iff_ne];omega
     have HR:Hid (res= false):=I (by rw[HV.out];simp[m1',i1'])
     (try clear hi0);(try clear hm0);(try clear hi1)
     go_enter Tryz.func80,Tryz.ntmps80
     go_upto_region 1 with (fail)
     generalize w.alloc (.cells ⟨[.int .i64 4,.slice NA ns.length nc,.slice A its.length c]⟩ 45)= W at*
     have d0:W.cell? ⟨w.heap.size,0,none⟩= some (.int .i64 4):=by have:=HRG.out 0 _ rfl;simpa using this
     have d1:W.cell? ⟨w.heap.size,1,none⟩= some (.slice NA ns.length nc):=by have:=HRG.out 1 _ rfl;simpa using this
     have d2:W.cell? ⟨w.heap.size,2,none⟩= some (.slice A its.length c):=by have:=HRG.out 2 _ rfl;simpa using this
     go_wp2
     go_ret
     exact⟨za HR.out.symm,HW.out⟩
   ·have i1:((its.length:Int) ==0)= false:=by rw[beq_eq_false_iff_ne];omega
    have i1':(its.length ==0)= false:=by simpa using hi0
    have HR:Hid (res= false):=I (by rw[HV.out];simp[i1'])
    (try clear hi0);(try clear hm0);(try clear hi1)
    go_enter Tryz.func80,Tryz.ntmps80
    go_upto_region 1 with (fail)
    generalize w.alloc (.cells ⟨[.int .i64 4,.slice NA ns.length nc,.slice A its.length c]⟩ 45)= W at*
    have d0:W.cell? ⟨w.heap.size,0,none⟩= some (.int .i64 4):=by have:=HRG.out 0 _ rfl;simpa using this
    have d1:W.cell? ⟨w.heap.size,1,none⟩= some (.slice NA ns.length nc):=by have:=HRG.out 1 _ rfl;simpa using this
    have d2:W.cell? ⟨w.heap.size,2,none⟩= some (.slice A its.length c):=by have:=HRG.out 2 _ rfl;simpa using this
    go_wp2
    go_ret
    exact⟨za HR.out.symm,HW.out⟩
  by_cases k7:k= 7
  ·subst k7
   have HV:=I (HO3.out.trans (if_pos (by decide)))
   clear HO3
   by_cases hi0:its.length= 0
   ·have i1:((its.length:Int) ==0)= true:=by rw[hi0];rfl
    have i1':(its.length ==0)= true:=by rw[hi0];rfl
    by_cases hm0:ns.length= 0
    ·have m1:((ns.length:Int) ==0)= true:=by rw[hm0];rfl
     have m1':(ns.length ==0)= true:=by rw[hm0];rfl
     have m2:((ns.length:Int) !=0)= false:=by rw[hm0];rfl
     have HR:Hid (res= true):=I (by rw[HV.out];simp[m1',i1'])
     (try clear hi0);(try clear hm0);(try clear hi1)
     go_enter Tryz.func80,Tryz.ntmps80
     go_upto_region 1 with (fail)
     generalize w.alloc (.cells ⟨[.int .i64 7,.slice NA ns.length nc,.slice A its.length c]⟩ 45)= W at*
     have d0:W.cell? ⟨w.heap.size,0,none⟩= some (.int .i64 7):=by have:=HRG.out 0 _ rfl;simpa using this
     have d1:W.cell? ⟨w.heap.size,1,none⟩= some (.slice NA ns.length nc):=by have:=HRG.out 1 _ rfl;simpa using this
     have d2:W.cell? ⟨w.heap.size,2,none⟩= some (.slice A its.length c):=by have:=HRG.out 2 _ rfl;simpa using this
     go_wp2
     go_ret
     exact⟨za HR.out.symm,HW.out⟩
    ·have m1:((ns.length:Int) ==0)= false:=by rw[beq_eq_false_iff_ne];omega
     have m1':(ns.length ==0)= false:=by simpa using hm0
     have m2:((ns.length:Int) !=0)= true:=by rw[bne_iff_ne];omega
     have HR:Hid (res= false):=I (by rw[HV.out];simp[m1',i1'])
     (try clear hi0);(try clear hm0);(try clear hi1)
     go_enter Tryz.func80,Tryz.ntmps80
     go_upto_region 1 with (fail)
     generalize w.alloc (.cells ⟨[.int .i64 7,.slice NA ns.length nc,.slice A its.length c]⟩ 45)= W at*
     have d0:W.cell? ⟨w.heap.size,0,none⟩= some (.int .i64 7):=by have:=HRG.out 0 _ rfl;simpa using this
     have d1:W.cell? ⟨w.heap.size,1,none⟩= some (.slice NA ns.length nc):=by have:=HRG.out 1 _ rfl;simpa using this
     have d2:W.cell? ⟨w.heap.size,2,none⟩= some (.slice A its.length c):=by have:=HRG.out 2 _ rfl;simpa using this
     go_wp2
     go_ret
     exact⟨za HR.out.symm,HW.out⟩
   ·have i1:((its.length:Int) ==0)= false:=by rw[beq_eq_false_iff_ne];omega
    have i1':(its.length ==0)= false:=by simpa using hi0
    have HR:Hid (res= false):=I (by rw[HV.out];simp[i1'])
    (try clear hi0);(try clear hm0);(try clear hi1)
    go_enter Tryz.func80,Tryz.ntmps80
    go_upto_region 1 with (fail)
    generalize w.alloc (.cells ⟨[.int .i64 7,.slice NA ns.length nc,.slice A its.length c]⟩ 45)= W at*
    have d0:W.cell? ⟨w.heap.size,0,none⟩= some (.int .i64 7):=by have:=HRG.out 0 _ rfl;simpa using this
    have d1:W.cell? ⟨w.heap.size,1,none⟩= some (.slice NA ns.length nc):=by have:=HRG.out 1 _ rfl;simpa using this
    have d2:W.cell? ⟨w.heap.size,2,none⟩= some (.slice A its.length c):=by have:=HRG.out 2 _ rfl;simpa using this
    go_wp2
    go_ret
    exact⟨za HR.out.symm,HW.out⟩
  have HR:=I (HO3.out.trans (if_neg (by omega)))
  clear HO3
  by_cases k0:k < 1
  ·have c1:decide (k < 1)= true:=decide_eq_true k0
   clear k1 k2 k3 k4 k5 k6 k7 k0
   (try clear hi0);(try clear hm0);(try clear hi1)
   go_enter Tryz.func80,Tryz.ntmps80
   go_upto_region 1 with (fail)
   generalize w.alloc (.cells ⟨[.int .i64 k,.slice NA ns.length nc,.slice A its.length c]⟩ 45)= W at*
   have d0:W.cell? ⟨w.heap.size,0,none⟩= some (.int .i64 k):=by have:=HRG.out 0 _ rfl;simpa using this
   have d1:W.cell? ⟨w.heap.size,1,none⟩= some (.slice NA ns.length nc):=by have:=HRG.out 1 _ rfl;simpa using this
   have d2:W.cell? ⟨w.heap.size,2,none⟩= some (.slice A its.length c):=by have:=HRG.out 2 _ rfl;simpa using this
   go_wp2
   go_ret
   exact⟨za HR.out.symm,HW.out⟩
  ·have c1:decide (k < 1)= false:=decide_eq_false k0
   have c2:decide (7 < k)= true:=decide_eq_true (by omega)
   clear k1 k2 k3 k4 k5 k6 k7 k0
   (try clear hi0);(try clear hm0);(try clear hi1)
   go_enter Tryz.func80,Tryz.ntmps80
   go_upto_region 1 with (fail)
   generalize w.alloc (.cells ⟨[.int .i64 k,.slice NA ns.length nc,.slice A its.length c]⟩ 45)= W at*
   have d0:W.cell? ⟨w.heap.size,0,none⟩= some (.int .i64 k):=by have:=HRG.out 0 _ rfl;simpa using this
   have d1:W.cell? ⟨w.heap.size,1,none⟩= some (.slice NA ns.length nc):=by have:=HRG.out 1 _ rfl;simpa using this
   have d2:W.cell? ⟨w.heap.size,2,none⟩= some (.slice A its.length c):=by have:=HRG.out 2 _ rfl;simpa using this
   go_wp2
   go_ret
   exact⟨za HR.out.symm,HW.out⟩
theorem z2N (t:TT) (cs:List Value) (w:World) (hv:TypAt w w.heap.size cs t):Calls Tryz.prog 43 #[.agg ⟨cs⟩] w fun e w'=>e= .returned (.bool (decide (cntT t 0<=200) && zF t 1))/\Below w.heap.size w w':=by
 have HB1:=I (ze w (.cells ⟨cs⟩ 45))
 have HS1:=I (zt w (.cells ⟨cs⟩ 45))
 have HR1:=I (zq w cs 45)
 have HL:=I (z0z hv)
 have HV:=I (hv.next HB1.out)
 clear hv
 go_enter Tryz.func43,Tryz.ntmps43
 go_upto_region 1 with (fail)
 generalize w.alloc (.cells ⟨cs⟩ 45)= W at*
 have HP:=I (z5r t cs W HV.out)
 by_cases hc:cntT t 0<=200
 ·have t1:((cntT t 0:Nat):Int)<=200:=by omega
  have HD:Hid ((decide (cntT t 0<=200) && zF t 1)= zF t 1):=I (by rw[decide_eq_true hc];exact Bool.true_and _)
  go_wp2_with (first|((with_reducible refine zc 45 _ rfl ?hwa w.heap.size 0 cs _ rfl HR1.out Tryz.underlying45 rfl ?hia ?_);(case hwa=>(exact wantA rfl));(case hia=>rw[HL.out.1];kernel_rfl))|(go_at_call 51;refine HP.out.mono ?_;rintro e z ⟨rfl,hbz⟩;have HB2:=I hbz;have HR2:=I (zd HR1.out hbz HS1.out);clear hbz)|((with_reducible refine zc 45 _ rfl ?hwc w.heap.size 0 cs _ rfl HR2.out Tryz.underlying45 rfl ?hic ?_);(case hwc=>(exact wantA rfl));(case hic=>rw[HL.out.1];kernel_rfl))|(go_at_call 80;refine(z9J t 12 1 cs _ (by decide) (HV.out.next HB2.out)).mono ?_;rintro e z2 ⟨rfl,hbz⟩;have HB3:=I hbz;clear hbz))
  go_ret
  exact⟨za HD.out.symm,HB1.out.trans ((HB2.out.trans (HB3.out.mono HB2.out.size)).mono HB1.out.size)⟩
 ·have t1: ¬ (((cntT t 0:Nat):Int)<=200):=by omega
  have HD:Hid ((decide (cntT t 0<=200) && zF t 1)= false):=I (by rw[decide_eq_false hc];exact Bool.false_and _)
  go_wp2_with (first|((with_reducible refine zc 45 _ rfl ?hwa w.heap.size 0 cs _ rfl HR1.out Tryz.underlying45 rfl ?hia ?_);(case hwa=>(exact wantA rfl));(case hia=>rw[HL.out.1];kernel_rfl))|(go_at_call 51;refine HP.out.mono ?_;rintro e z ⟨rfl,hbz⟩;have HB2:=I hbz;clear hbz))
  go_ret
  first|exact⟨za HD.out.symm,HB1.out.trans (HB2.out.mono HB1.out.size)⟩|exact⟨rfl,HB1.out.trans (HB2.out.mono HB1.out.size)⟩
end
section
open Go Go.RowKit
theorem zer:∀ (x:ET) (far:Nat) (cs:List Value) (w:World),far<=40->ExpAt w w.heap.size cs x->Calls Tryz.prog 24 #[.agg ⟨cs⟩,.int .i64 far] w (z5T w):=by
 intro x
 induction x using ET.ind with
 |h k s t ns its ih=>
  intro far cs w hfar hv
  obtain⟨v0,v1,v2,v3,v4,v5,vn,vi,rfl,_,_,_,_,hil,hi⟩:=hv.inv
  obtain⟨_,A,c,rfl,hA⟩:=hi
  have HA:=I hA
  have IH:=I ih
  unfold maxLen at hil
  clear hA hv ih
  go_enter Tryz.func24,Tryz.ntmps24
  go_upto_region 1 with (fail)
  have hb0:=ze w (.cells ⟨[.int .i64 k,.string s,v0,v1,v2,v3,v4,v5,vn,.slice A its.length c]⟩ 29)
  have hz0:=zt w (.cells ⟨[.int .i64 k,.string s,v0,v1,v2,v3,v4,v5,vn,.slice A its.length c]⟩ 29)
  have c5:=zA w ⟨[.int .i64 k,.string s,v0,v1,v2,v3,v4,v5,vn,.slice A its.length c]⟩ 29 9
  generalize w.alloc (.cells ⟨[.int .i64 k,.string s,v0,v1,v2,v3,v4,v5,vn,.slice A its.length c]⟩ 29)= W at*
  have HB:=I hb0
  have C5:=I c5
  have HSZ:=I hz0
  clear hb0 c5 hz0
  go_wp2
  go_loopg [5,6] its.length (fun g m i wr=>∃ (j:Nat) (x:Int),j+g= its.length/\i= .int .i64 j/\m= .int .i64 x/\Below W.heap.size W wr)
  case atStart=>exact⟨0,0,by omega,rfl,rfl,Below.refl _ _⟩
  case round=>
   obtain⟨j,x,hj,rfl,rfl,hb⟩:=hrel
   have HB1:=I hb
   have d5:=(hb.cell (p:=⟨w.heap.size,9,none⟩) HSZ.out).trans C5.out
   clear hb
   simp only[List.getElem?_toArray,List.getElem?_cons_succ,List.getElem?_cons_zero] at d5
   cases gk with
   |zero=>
    have hge: ¬ ((j:Int) <(its.length:Int)):=by omega
    go_wp2
    go_ret
    exact⟨_,rfl,HB.out.trans (HB1.out.mono HB.out.size)⟩
   |succ g=>
    have hlt:(j:Int) <(its.length:Int):=by omega
    by_cases h0:far= 0
    ·subst h0
     go_wp2
     go_ret
     exact⟨_,rfl,HB.out.trans (HB1.out.mono HB.out.size)⟩
    ·have hpos:(0:Int) <(far:Int):=by omega
     have hz2:w.heap.size<=wr.heap.size:=Nat.le_trans HB.out.size HB1.out.size
     obtain⟨y,hy⟩:∃ y,its[j]?= some y:=⟨_,List.getElem?_eq_getElem (by omega)⟩
     obtain⟨b,o,rfl,hbb,hc⟩:=HA.out (by omega)
     obtain⟨cs,hcl,hr,hR⟩:=hc j y hy
     have hB2:=HB.out.trans (HB1.out.mono HB.out.size)
     have HR:=I (zd hr hB2 hbb)
     have HC:=I (IH.out y (List.mem_of_getElem? hy) (far - 1) cs wr (by omega) ((hR.under hB2).more hB2.size))
     have HCL:=I hcl
     have hf1:((far - 1:Nat):Int)=(far:Int) - 1:=by omega
     clear hc hr hR hB2 hy hcl h0
     rw[hf1] at HC
     clear hf1
     go_wp2_with (first|(with_reducible refine zc 29 _ rfl ?hw b (o+j*10) cs _ rfl HR.out Tryz.underlying29 rfl ?hi ?_;(case hw=>exact wantA rfl);(case hi=>rw[HCL.out];kernel_rfl))|(go_at_call 24;refine HC.out.mono ?_;rintro e w' ⟨z,rfl,hb⟩;have HB2:=I hb;clear hb))
     all_goals
      go_roundg g
      case measure=>omega
      case rel=>exact⟨j+1,_,by omega,by go_num,rfl,HB1.out.trans (HB2.out.mono HB1.out.size)⟩
theorem z8H (t:ET) (cs:List Value) (w:World) (hv:ExpAt w w.heap.size cs t):Calls Tryz.prog 25 #[.agg ⟨cs⟩] w (z4O w):=
 (z4t t cs w hv).mono fun e w' ⟨h,hb⟩=>⟨(cntE t 0:Nat),by omega,by have:=z5Q t 0 (by omega);omega,h,hb⟩
theorem zeF:∀ (x:ET) (cs:List Value) (w:World),ExpAt w w.heap.size cs x->Calls Tryz.prog 11 #[.agg ⟨cs⟩] w (z4T w):=by
 intro x
 induction x using ET.ind with
 |h k s t ns its ih=>
  intro cs w hv
  have HV:=I hv
  have HCL:=I (eslen hv)
  obtain⟨v0,v1,v2,v3,v4,v5,vn,vi,hcs,_,_,ht,_,hil,hi⟩:=hv.inv
  obtain⟨_,A,c,rfl,hA⟩:=hi
  have HA:=I hA
  have IH:=I ih
  have HT:=I ht
  have HCS:=I hcs
  unfold maxLen at hil
  clear hA hv ih ht hcs
  go_enter Tryz.func11,Tryz.ntmps11
  go_upto_region 1 with (fail)
  have HB:=I (ze w (.cells ⟨cs⟩ 29))
  have HR:=I (zq w cs 29)
  have HSZ:=I (zt w (.cells ⟨cs⟩ 29))
  generalize w.alloc (.cells ⟨cs⟩ 29)= W at*
  have HR2:Hid (∀ z:World,Below W.heap.size W z->z.rangeAt w.heap.size 0 cs/\z.rangeAt w.heap.size 2 [v0,v1,v2,v3,v4,v5]/\z.cell? ⟨w.heap.size,9,none⟩= some (.slice A its.length c)):=I fun z hz=>by
   have hr:=zd HR.out hz HSZ.out
   refine⟨hr,?_,?_⟩
   ·rw[HCS.out] at hr
    exact z3Z (p:=[.int .i64 k,.string s]) (cs:=[v0,v1,v2,v3,v4,v5]) (q:=[vn,.slice A its.length c]) hr 2 rfl
   ·rw[HCS.out] at hr
    exact z58 hr 9 rfl
  have HC:=I (zer (.mk k s t ns its) 40 cs W (by omega) ((HV.out.under HB.out).more HB.out.size))
  go_wp2_with (first|(with_reducible refine zc 29 _ rfl ?hw w.heap.size 0 cs _ rfl HR.out Tryz.underlying29 rfl ?hi ?_;(case hw=>exact wantA rfl);(case hi=>rw[HCL.out];kernel_rfl))|(go_at_call 24;fail))
  refine HC.out.mono ?_
  rintro e w2 ⟨z,rfl,hb⟩
  have HB2:=I hb
  have HRZ:=I (HR2.out w2 hb).1
  have HB2':=I (HB.out.trans (hb.mono HB.out.size))
  have HC2:=I (z8H (.mk k s t ns its) cs w2 ((HV.out.under HB2'.out).more HB2'.out.size))
  clear hb HC
  by_cases hz:z<=30
  ·have hz':decide ((30:Int) < z)= false:=by simp;omega
   go_wp2_with (first|(with_reducible refine zc 29 _ rfl ?hw w.heap.size 0 cs _ rfl HRZ.out Tryz.underlying29 rfl ?hi ?_;(case hw=>exact wantA rfl);(case hi=>rw[HCL.out];kernel_rfl))|(go_at_call 25;fail))
   refine HC2.out.mono ?_
   rintro e w3 ⟨y,hy0,hy1,rfl,hb⟩
   have HB3:=I (HB2.out.trans (hb.mono HB2.out.size))
   have HRY:=I (HR2.out w3 HB3.out).2.1
   have HB3':=I (HB.out.trans (HB3.out.mono HB.out.size))
   have HC3:=I (zae t [v0,v1,v2,v3,v4,v5] w3 ((HT.out.under HB3'.out).more HB3'.out.size))
   clear hb HC2 HRZ HB2 HB2'
   by_cases hy:y < 500
   ·have hy':decide ((500:Int)<=y)= false:=by simp;omega
    go_wp2_with (first|(with_reducible refine zc 26 _ rfl ?hw w.heap.size 2 [v0,v1,v2,v3,v4,v5] _ rfl HRY.out Tryz.underlying26 rfl ?hi ?_;(case hw=>exact wantA rfl);(case hi=>kernel_rfl))|(go_at_call 20;fail))
    refine HC3.out.mono ?_
    rintro e w4 ⟨q,rfl,hb⟩
    have HB4:=I (HB3.out.trans (hb.mono HB3.out.size))
    have HB4':=I (HB.out.trans (HB4.out.mono HB.out.size))
    clear hb HC3 HRY HB3 HB3'
    cases q with
    |false=>
     go_wp2
     go_ret
     exact⟨_,rfl,HB4'.out⟩
    |true=>
     go_wp2
     go_loopg [3] its.length (fun g i wr=>∃ j:Nat,j+g= its.length/\i= .int .i64 j/\Below W.heap.size W wr)
     case atStart=>exact⟨0,by omega,rfl,HB4.out⟩
     case round=>
      obtain⟨j,hj,rfl,hb⟩:=hrel
      have HB5:=I hb
      have HB5':=I (HB.out.trans (hb.mono HB.out.size))
      have d9:=(HR2.out wr hb).2.2
      clear hb
      cases gk with
      |zero=>
       have hge: ¬ ((j:Int) <(its.length:Int)):=by omega
       go_wp2
       go_ret
       exact⟨_,rfl,HB5'.out⟩
      |succ g=>
       have hlt:(j:Int) <(its.length:Int):=by omega
       obtain⟨y,hy⟩:∃ y,its[j]?= some y:=⟨_,List.getElem?_eq_getElem (by omega)⟩
       obtain⟨b,o,rfl,hbb,hc⟩:=HA.out (by omega)
       obtain⟨ks,hcl,hr,hR⟩:=hc j y hy
       have HRK:=I (zd hr HB5'.out hbb)
       have HCK:=I (IH.out y (List.mem_of_getElem? hy) ks wr ((hR.under HB5'.out).more HB5'.out.size))
       have HKL:=I hcl
       clear hc hr hR hy hcl
       go_wp2_with (first|(with_reducible refine zc 29 _ rfl ?hw b (o+j*10) ks _ rfl HRK.out Tryz.underlying29 rfl ?hi ?_;(case hw=>exact wantA rfl);(case hi=>rw[HKL.out];kernel_rfl))|(go_at_call 11;fail))
       refine HCK.out.mono ?_
       rintro e w6 ⟨q,rfl,hb⟩
       have HB6:=I (HB5.out.trans (hb.mono HB5.out.size))
       clear hb
       cases q with
       |false=>
        go_wp2
        go_ret
        exact⟨_,rfl,HB.out.trans (HB6.out.mono HB.out.size)⟩
       |true=>
        go_wp2
        go_roundg g
        case measure=>omega
        case rel=>exact⟨j+1,by omega,by go_num,HB6.out⟩
   ·have hy':decide ((500:Int)<=y)= true:=by simp;omega
    go_wp2
    go_ret
    exact⟨_,rfl,HB3'.out⟩
  ·have hz':decide ((30:Int) < z)= true:=by simp;omega
   go_wp2
   go_ret
   exact⟨_,rfl,HB2'.out⟩
def zac (E:List VarT) (w:World) (e:Ending) (w':World):Prop:=∃ b:Bool,e= .returned (.bool b)/\(b= true->E.length<=40)/\Below w.heap.size w w'
theorem zdl (E:List VarT) (v:Value) (w:World) (hv:SlAt w w.heap.size 11 (VarAt w w.heap.size) v E) (hE:E.length<=maxLen):
  Calls Tryz.prog 12 #[v] w (zac E w):=by
 obtain⟨hel,EA,ec,rfl,hea⟩:=hv
 have HEB:=I hea
 unfold maxLen at hE
 clear hea hel
 go_enter Tryz.func12,Tryz.ntmps12
 go_wp2
 go_loopg [3] E.length (fun q x u=>∃ j:Nat,j+q= E.length/\x= .int .i64 j/\Below w.heap.size w u)
 case atStart=>exact⟨0,by omega,rfl,Below.refl _ _⟩
 case round=>
  obtain⟨jj,hj,rfl,hb⟩:=hrel
  have HBK:=I hb
  clear hb
  cases gk with
  |zero=>
   obtain rfl:jj= E.length:=by omega
   have hge: ¬ ((E.length:Int) <(E.length:Int)):=by omega
   by_cases h40:(E.length:Int)<=40
   ·go_wp2
    go_ret
    exact⟨_,rfl,(fun _=>by omega),HBK.out⟩
   ·go_wp2
    go_ret
    exact⟨_,rfl,nofun,HBK.out⟩
  |succ q=>
   have hlt2:(jj:Int) <(E.length:Int):=by omega
   obtain⟨x,he⟩:∃ e,E[jj]?= some e:=⟨_,List.getElem?_eq_getElem (by omega)⟩
   obtain⟨bb,o,rfl,hbl,hc⟩:=HEB.out (by omega)
   obtain⟨ks,hkl,hks,hva⟩:=hc jj x he
   obtain⟨ct,ci,hce,h3,h6,hct,hci⟩:=hva.ex
   have hnm:=hva.name
   unfold maxLen at hnm
   have HRG:Hid (∀ z:World,Below w.heap.size w z->z.cell? ⟨bb,o+jj*11,none⟩= some (.string x.name)/\z.rangeAt bb (o+jj*11+2) ct/\z.rangeAt bb (o+jj*11+5) ci):=I fun z hz=>by
    have hr0:=zd hks hz hbl
    rw[hce] at hr0
    refine⟨z58 hr0 0 rfl,z3Z (p:=[.string x.name,.int .i64 x.label]) (cs:=ct) (q:=ci) hr0 _ rfl,?_⟩
    exact z3Z (p:=[.string x.name,.int .i64 x.label] ++ ct) (cs:=ci) (q:=[]) (by rw[List.append_nil];exact hr0) _ (by simp[h3])
   have HT:=I (fun z (hz:Below w.heap.size w z)=>za6 x.type ct z ((hct.under hz).more hz.size))
   have HI:=I (fun z (hz:Below w.heap.size w z)=>zae x.init ci z ((hci.under hz).more hz.size))
   have HL3:=I h3
   have HL6:=I h6
   have HC1:=I (HT.out wr HBK.out)
   have HR1:=I (HRG.out wr HBK.out).2.1
   clear hc he hks hva hkl hct hci hce h3 h6
   go_wp2_with (first|(with_reducible refine zc 45 _ rfl ?hw bb (o+jj*11+2) ct _ rfl HR1.out Tryz.underlying45 rfl ?hi ?_;(case hw=>exact wantA rfl);(case hi=>rw[HL3.out];kernel_rfl))|(go_at_call 28;fail))
   refine HC1.out.mono ?_
   rintro e w2 ⟨q1,rfl,hb⟩
   have HB2:=I (HBK.out.trans (hb.mono HBK.out.size))
   clear hb HC1
   cases q1 with
   |false=>
    go_wp2
    go_ret
    exact⟨_,rfl,nofun,HB2.out⟩
   |true=>
    have HC2:=I (HI.out w2 HB2.out)
    have HR2:=I (HRG.out w2 HB2.out).2.2
    go_wp2_with (first|(with_reducible refine zc 26 _ rfl ?hw bb (o+jj*11+5) ci _ rfl HR2.out Tryz.underlying26 rfl ?hi ?_;(case hw=>exact wantA rfl);(case hi=>rw[HL6.out];kernel_rfl))|(go_at_call 20;fail))
    refine HC2.out.mono ?_
    rintro e w3 ⟨q2,rfl,hb⟩
    have HB3:=I (HB2.out.trans (hb.mono HB2.out.size))
    clear hb HC2
    cases q2 with
    |false=>
     go_wp2
     go_ret
     exact⟨_,rfl,nofun,HB3.out⟩
    |true=>
     have c0:=(HRG.out w3 HB3.out).1
     by_cases h300:(300:Int) <(x.name.size:Int)
     ·go_wp2
      go_ret
      exact⟨_,rfl,nofun,HB3.out⟩
     ·go_wp2
      go_roundg q
      case measure=>omega
      case rel=>exact⟨jj+1,by omega,by go_num,HB3.out⟩
end
end Go.Proofs.YtmpbepjjbaeebaaGreatDoor
