/- Parts of a proof: RRight. -/
import Derived.Test.YtmpbepjjbaeebaaGreatDoorPackR13
import Derived.Test.YtmpbepjjbaeebaaGreatDoorPackR14
import Derived.Test.YtmpbepjjbaeebaaGreatDoorPackR18
set_option maxHeartbeats 8000000
set_option maxRecDepth 100000
set_option linter.unusedVariables false
set_option linter.unusedSimpArgs false
namespace Go.Proofs.YtmpbepjjbaeebaaGreatDoor
open Go Go.RowKit
open Go.Lib (hid)
theorem z90:∀ (t:VT) (m:Nat) (cs:List Value) (w:World),m < 500→ValAt w w.heap.size cs t→
  Calls Tryz.prog 85 #[.agg ⟨cs⟩,.int .i64 m] w fun e w'=>e= .returned (.int .i64 (cntV t m:Nat))∧Below w.heap.size w w':=by
 intro t
 induction t using VT.ind with
 |h k n f s ns its ih=>
  intro m cs w hm hv
  have IH:=hid ih
  obtain⟨vn,vi,rfl,_,_,_,_,_,_,hi⟩:=hv.inv
  obtain⟨A,c,rfl,hil,hA⟩:=z0D hi
  have HA:=hid hA
  have HS:=hid (fun k m x=>z3v (l:=its) (k:=k) (m:=m) (x:=x))
  have HE:=hid (fun m=>z4l (l:=its) (m:=m))
  have HLE:=hid (fun x m hm=>z5n x m hm)
  have HCE:Hid (∀ k m,500≤m→cntL (its.drop k) m= m):=hid (fun k m h=>by
   cases its.drop k with
   |nil=>rw[cntL]
   |cons a l=>rw[cntL,if_pos h])
  have H0:Hid (cntL (its.drop 0) (m+1)= cntV (.mk k n f s ns its) m):=hid (by rw[cntV];rfl)
  clear ih hi hA hv
  generalize cntV (.mk k n f s ns its) m= res at*
  go_enter Tryz.func85,Tryz.ntmps85
  go_upto_region 1 with (fail)
  have hb0:=zc w (.cells ⟨[.int .i64 k,.int .i64 n,.float .f64 f,.string s,vn,.slice A its.length c]⟩ 26)
  have hz0:=zw w (.cells ⟨[.int .i64 k,.int .i64 n,.float .f64 f,.string s,vn,.slice A its.length c]⟩ 26)
  have c5:=zp w ⟨[.int .i64 k,.int .i64 n,.float .f64 f,.string s,vn,.slice A its.length c]⟩ 26 5
  generalize w.alloc (.cells ⟨[.int .i64 k,.int .i64 n,.float .f64 f,.string s,vn,.slice A its.length c]⟩ 26)= W at*
  have HB:=hid hb0
  have C5:=hid c5
  have HSZ:=hid hz0
  clear hb0 c5 hz0
  have hm2:(m:Int) < 500:=by omega
  go_wp2
  go_loopg [1,5] its.length (fun g u i wr=>∃ (j m:Nat),j+g= its.length∧i= .int .i64 j∧u= .int .i64 m∧m≤500∧Below W.heap.size W wr∧cntL (its.drop j) m= res)
  case atStart=>exact⟨0,m+1,by omega,rfl,by go_num,by omega,Below.refl _ _,H0.out⟩
  case round=>
   obtain⟨j,m,hj,rfl,rfl,hm5,hb,hres⟩:=hrel
   have HB1:=hid hb
   have HR:=hid hres
   have d5:=(hb.cell (p:=⟨w.heap.size,5,none⟩) HSZ.out).trans C5.out
   clear hb hres
   simp only[List.getElem?_toArray,List.getElem?_cons_succ,List.getElem?_cons_zero] at d5
   have hm5':(m:Int)≤500:=by omega
   cases gk with
   |zero=>
    obtain rfl:j= its.length:=by omega
    have hge: ¬ ((its.length:Int) <(its.length:Int)):=by omega
    have HV:=hid (HR.out.symm.trans (HE.out m))
    go_wp2
    go_ret
    exact⟨by rw[HV.out];go_num,HB.out.trans (HB1.out.mono HB.out.size)⟩
   |succ g=>
    have hlt:(j:Int) <(its.length:Int):=by omega
    by_cases h0:m < 500
    ·have hz2:w.heap.size≤wr.heap.size:=Nat.le_trans HB.out.size HB1.out.size
     obtain⟨y,hy⟩:∃ y,its[j]?= some y:=⟨_,List.getElem?_eq_getElem (by omega)⟩
     obtain⟨b,o,rfl,hbb,hc⟩:=HA.out (by omega)
     obtain⟨cs,hr,hR⟩:=hc j y hy
     have hB2:=HB.out.trans (HB1.out.mono HB.out.size)
     have HV:=hid (HR.out.symm.trans (HS.out j m y hy))
     have HV2:=hid (HV.out.trans (if_neg (by omega)))
     have HR1:=hid (zd hr hB2 hbb)
     have HC:=hid (IH.out y (List.mem_of_getElem? hy) m cs wr h0 (hR.next hB2))
     have HCL:=hid (zi hR)
     have hle:=HLE.out y m h0
     have h0':(m:Int) < 500:=by omega
     clear hc hr hR hB2 hy HV h0
     go_wp2_with (first|((with_reducible refine z8 26 _ rfl ?hwa b (o+j*6) cs _ rfl HR1.out Tryz.underlying26 rfl ?hia ?_);(case hwa=>(exact wantA rfl));(case hia=>rw[HCL.out.1];kernel_rfl))|(go_at_call 85;refine HC.out.mono ?_;rintro e w' ⟨rfl,hb⟩;have HB2:=hid hb;clear hb))
     go_roundg g
     case measure=>omega
     case rel=>exact⟨j+1,_,by omega,by go_num,rfl,hle,HB1.out.trans (HB2.out.mono HB1.out.size),HV2.out.symm⟩
    ·have HV:=hid (HR.out.symm.trans (HCE.out j m (by omega)))
     have h0': ¬ ((m:Int) < 500):=by omega
     have hm500:m= 500:=by omega
     go_wp2
     all_goals
      go_ret
      exact⟨by rw[HV.out,hm500];rfl,HB.out.trans (HB1.out.mono HB.out.size)⟩
theorem z8J (t:VT) (cs:List Value) (w:World) (hv:ValAt w w.heap.size cs t):Calls Tryz.prog 47 #[.agg ⟨cs⟩] w fun e w'=>e= .returned (.int .i64 (cntV t 0:Nat))∧Below w.heap.size w w':=by
 have HCL:=hid (vlen hv)
 have HV:=hid hv
 clear hv
 go_enter Tryz.func47,Tryz.ntmps47
 go_upto_region 1 with (fail)
 have HB:=hid (zc w (.cells ⟨cs⟩ 26))
 have HR:=hid (zq w cs 26)
 generalize w.alloc (.cells ⟨cs⟩ 26)= W at*
 have HC:=hid (z90 t 0 cs W (by omega) (HV.out.next HB.out))
 go_wp2_with (first|((with_reducible refine z8 26 _ rfl ?hwa w.heap.size 0 cs _ rfl HR.out Tryz.underlying26 rfl ?hia ?_);(case hwa=>(exact wantA rfl));(case hia=>rw[HCL.out];kernel_rfl))|(go_at_call 85;refine HC.out.mono ?_;rintro e w' ⟨rfl,hb⟩;have HB2:=hid hb;clear hb))
 go_ret
 exact⟨rfl,HB.out.trans (HB2.out.mono HB.out.size)⟩
theorem z8M:∀ (t:VT) (far d:Nat) (cs:List Value) (w:World),far+d= 13→ValAt w w.heap.size cs t→
  Calls Tryz.prog 48 #[.agg ⟨cs⟩,.int .i64 far] w fun e w'=>e= .returned (.bool (zo t d))∧Below w.heap.size w w':=by
 intro t
 induction t using VT.ind with
 |h k n f s ns its ih=>
  intro far d cs w hfd hv
  have IH:=hid ih
  obtain⟨vn,vi,rfl,_,_,hf,_,hn,_,hi⟩:=hv.inv
  obtain⟨_,NA,nc,rfl,_⟩:=id hn
  obtain⟨A,c,rfl,hil,hA⟩:=z0D hi
  have hnl:=hn.1
  have HF:=hid (wf64 hf)
  have HN:=hid hn
  have HA:=hid hA
  have hf13:far≤13:=by omega
  have hfd':d= 13 - far:=by omega
  have HO:Hid (zo (.mk k n f s ns its) d= if 12 < d then false
   else if k= 1 then bareB true false false false n f s ns.length its.length && (n / 2 ==0)
   else if k= 2 then bareB true false false false n f s ns.length its.length
   else if k= 3 then bareB false true false false n f s ns.length its.length
   else if k= 4 then bareB false false true false n f s ns.length its.length && decide (s.size≤200)
   else if k= 6 then(ns.length ==its.length) && (riseB none ns && (bareB false false false true n f s ns.length its.length && zA its (d+1)))
   else if k= 5 then bareB false false false true n f s ns.length its.length && ((ns.length ==0) && zA its (d+1))
   else false):=hid (by rw[zo])
  generalize hres:zo (.mk k n f s ns its) d= res at*
  have HW:=hid (zc w (.cells ⟨[.int .i64 k,.int .i64 n,.float .f64 f,.string s,.slice NA ns.length nc,.slice A its.length c]⟩ 26))
  have HSZ:=hid (zw w (.cells ⟨[.int .i64 k,.int .i64 n,.float .f64 f,.string s,.slice NA ns.length nc,.slice A its.length c]⟩ 26))
  have HRG:=hid (zq w [.int .i64 k,.int .i64 n,.float .f64 f,.string s,.slice NA ns.length nc,.slice A its.length c] 26)
  clear ih hv hn hi hA hf hres
  by_cases hdeep:far= 0
  ·subst hdeep
   have HV:Hid (res= false):=hid (HO.out.trans (if_pos (by omega)))
   have t1:((0:Nat):Int) < 1:=by omega
   clear HO
   by_cases hi0:its.length= 0
   ·have i1:((its.length:Int) ==0)= true:=by rw[hi0];rfl
    have i1':(its.length ==0)= true:=by rw[hi0];rfl
    by_cases hm0:ns.length= 0
    ·have m1:((ns.length:Int) ==0)= true:=by rw[hm0];rfl
     have m1':(ns.length ==0)= true:=by rw[hm0];rfl
     have HR:Hid (res= false):=hid (by exact HV.out)
     (try clear hi0);(try clear hm0);(try clear hn);(try clear hn1);(try clear hl)
     go_enter Tryz.func48,Tryz.ntmps48
     go_upto_region 1 with (fail)
     generalize w.alloc (.cells ⟨[.int .i64 k,.int .i64 n,.float .f64 f,.string s,.slice NA ns.length nc,.slice A its.length c]⟩ 26)= W at*
     have d0:W.cell? ⟨w.heap.size,0,none⟩= some (.int .i64 k):=by have:=HRG.out 0 _ rfl;simpa using this
     have d1:W.cell? ⟨w.heap.size,1,none⟩= some (.int .i64 n):=by have:=HRG.out 1 _ rfl;simpa using this
     have d3:W.cell? ⟨w.heap.size,3,none⟩= some (.string s):=by have:=HRG.out 3 _ rfl;simpa using this
     have d4:W.cell? ⟨w.heap.size,4,none⟩= some (.slice NA ns.length nc):=by have:=HRG.out 4 _ rfl;simpa using this
     have d5:W.cell? ⟨w.heap.size,5,none⟩= some (.slice A its.length c):=by have:=HRG.out 5 _ rfl;simpa using this
     go_wp2
     go_ret
     exact⟨z7 HR.out.symm,HW.out⟩
    ·have m1:((ns.length:Int) ==0)= false:=by rw[beq_eq_false_iff_ne];omega
     have m1':(ns.length ==0)= false:=by simpa using hm0
     have HR:Hid (res= false):=hid (by exact HV.out)
     (try clear hi0);(try clear hm0);(try clear hn);(try clear hn1);(try clear hl)
     go_enter Tryz.func48,Tryz.ntmps48
     go_upto_region 1 with (fail)
     generalize w.alloc (.cells ⟨[.int .i64 k,.int .i64 n,.float .f64 f,.string s,.slice NA ns.length nc,.slice A its.length c]⟩ 26)= W at*
     have d0:W.cell? ⟨w.heap.size,0,none⟩= some (.int .i64 k):=by have:=HRG.out 0 _ rfl;simpa using this
     have d1:W.cell? ⟨w.heap.size,1,none⟩= some (.int .i64 n):=by have:=HRG.out 1 _ rfl;simpa using this
     have d3:W.cell? ⟨w.heap.size,3,none⟩= some (.string s):=by have:=HRG.out 3 _ rfl;simpa using this
     have d4:W.cell? ⟨w.heap.size,4,none⟩= some (.slice NA ns.length nc):=by have:=HRG.out 4 _ rfl;simpa using this
     have d5:W.cell? ⟨w.heap.size,5,none⟩= some (.slice A its.length c):=by have:=HRG.out 5 _ rfl;simpa using this
     go_wp2
     go_ret
     exact⟨z7 HR.out.symm,HW.out⟩
   ·have i1:((its.length:Int) ==0)= false:=by rw[beq_eq_false_iff_ne];omega
    have i1':(its.length ==0)= false:=by simpa using hi0
    have HR:Hid (res= false):=hid (by exact HV.out)
    (try clear hi0);(try clear hm0);(try clear hn);(try clear hn1);(try clear hl)
    go_enter Tryz.func48,Tryz.ntmps48
    go_upto_region 1 with (fail)
    generalize w.alloc (.cells ⟨[.int .i64 k,.int .i64 n,.float .f64 f,.string s,.slice NA ns.length nc,.slice A its.length c]⟩ 26)= W at*
    have d0:W.cell? ⟨w.heap.size,0,none⟩= some (.int .i64 k):=by have:=HRG.out 0 _ rfl;simpa using this
    have d1:W.cell? ⟨w.heap.size,1,none⟩= some (.int .i64 n):=by have:=HRG.out 1 _ rfl;simpa using this
    have d3:W.cell? ⟨w.heap.size,3,none⟩= some (.string s):=by have:=HRG.out 3 _ rfl;simpa using this
    have d4:W.cell? ⟨w.heap.size,4,none⟩= some (.slice NA ns.length nc):=by have:=HRG.out 4 _ rfl;simpa using this
    have d5:W.cell? ⟨w.heap.size,5,none⟩= some (.slice A its.length c):=by have:=HRG.out 5 _ rfl;simpa using this
    go_wp2
    go_ret
    exact⟨z7 HR.out.symm,HW.out⟩
  have t1: ¬ ((far:Int) < 1):=by omega
  have HO1:=hid (HO.out.trans (if_neg (by omega)))
  clear HO
  by_cases k1:k= 1
  ·subst k1
   have HV:=hid (HO1.out.trans (if_pos rfl))
   clear HO1
   by_cases hi0:its.length= 0
   ·have i1:((its.length:Int) ==0)= true:=by rw[hi0];rfl
    have i1':(its.length ==0)= true:=by rw[hi0];rfl
    by_cases hm0:ns.length= 0
    ·have m1:((ns.length:Int) ==0)= true:=by rw[hm0];rfl
     have m1':(ns.length ==0)= true:=by rw[hm0];rfl
     have HZ:=hid (fun k n s vn vi z=>z07 k n f s vn vi HF.out z)
     cases hz:(cmpF f 0 ==0) with
     |true=>
      rw[hz] at HZ
      by_cases hs:s.toList=[]
      ·have t3:s.toList.isEmpty= true:=by rw[hs];rfl
       by_cases hn:n= 0
       ·have t2:(n ==0)= true:=by simpa using hn
        have t6:(n / 2 ==0)= true:=by rw[hn];rfl
        have HR:Hid (res= true):=hid (by rw[HV.out];unfold bareB;simp[i1',m1',hz,t3,t6])
        (try clear hi0);(try clear hm0);(try clear hn);(try clear hn1);(try clear hl)
        go_enter Tryz.func48,Tryz.ntmps48
        go_upto_region 1 with (fail)
        generalize w.alloc (.cells ⟨[.int .i64 1,.int .i64 n,.float .f64 f,.string s,.slice NA ns.length nc,.slice A its.length c]⟩ 26)= W at*
        have d0:W.cell? ⟨w.heap.size,0,none⟩= some (.int .i64 1):=by have:=HRG.out 0 _ rfl;simpa using this
        have d1:W.cell? ⟨w.heap.size,1,none⟩= some (.int .i64 n):=by have:=HRG.out 1 _ rfl;simpa using this
        have d3:W.cell? ⟨w.heap.size,3,none⟩= some (.string s):=by have:=HRG.out 3 _ rfl;simpa using this
        have d4:W.cell? ⟨w.heap.size,4,none⟩= some (.slice NA ns.length nc):=by have:=HRG.out 4 _ rfl;simpa using this
        have d5:W.cell? ⟨w.heap.size,5,none⟩= some (.slice A its.length c):=by have:=HRG.out 5 _ rfl;simpa using this
        go_wp2_with (first|((with_reducible refine z8 26 _ rfl ?hwa w.heap.size 0 [.int .i64 1,.int .i64 n,.float .f64 f,.string s,.slice NA ns.length nc,.slice A its.length c] _ rfl HRG.out Tryz.underlying26 rfl ?hia ?_);(case hwa=>(exact wantA rfl));(case hia=>kernel_rfl))|(go_at_call 86;refine(HZ.out _ _ _ _ _ _).mono ?_;rintro e z ⟨rfl,hbz⟩;have HB2:=hid hbz;have d0':=(hbz.cell (p:=⟨w.heap.size,0,none⟩) HSZ.out).trans d0;have d1':=(hbz.cell (p:=⟨w.heap.size,1,none⟩) HSZ.out).trans d1;have d3':=(hbz.cell (p:=⟨w.heap.size,3,none⟩) HSZ.out).trans d3;have d4':=(hbz.cell (p:=⟨w.heap.size,4,none⟩) HSZ.out).trans d4;have d5':=(hbz.cell (p:=⟨w.heap.size,5,none⟩) HSZ.out).trans d5;clear hbz))
        go_ret
        exact⟨z7 HR.out.symm,HW.out.trans (HB2.out.mono HW.out.size)⟩
       ·have t2:(n ==0)= false:=by simpa using hn
        by_cases hn1:n= 1
        ·have t5:(n ==1)= true:=by simpa using hn1
         have t6:(n / 2 ==0)= true:=by rw[hn1];rfl
         have HR:Hid (res= true):=hid (by rw[HV.out];unfold bareB;simp[i1',m1',hz,t3,t6])
         (try clear hi0);(try clear hm0);(try clear hn);(try clear hn1);(try clear hl)
         go_enter Tryz.func48,Tryz.ntmps48
         go_upto_region 1 with (fail)
         generalize w.alloc (.cells ⟨[.int .i64 1,.int .i64 n,.float .f64 f,.string s,.slice NA ns.length nc,.slice A its.length c]⟩ 26)= W at*
         have d0:W.cell? ⟨w.heap.size,0,none⟩= some (.int .i64 1):=by have:=HRG.out 0 _ rfl;simpa using this
         have d1:W.cell? ⟨w.heap.size,1,none⟩= some (.int .i64 n):=by have:=HRG.out 1 _ rfl;simpa using this
         have d3:W.cell? ⟨w.heap.size,3,none⟩= some (.string s):=by have:=HRG.out 3 _ rfl;simpa using this
         have d4:W.cell? ⟨w.heap.size,4,none⟩= some (.slice NA ns.length nc):=by have:=HRG.out 4 _ rfl;simpa using this
         have d5:W.cell? ⟨w.heap.size,5,none⟩= some (.slice A its.length c):=by have:=HRG.out 5 _ rfl;simpa using this
         go_wp2_with (first|((with_reducible refine z8 26 _ rfl ?hwa w.heap.size 0 [.int .i64 1,.int .i64 n,.float .f64 f,.string s,.slice NA ns.length nc,.slice A its.length c] _ rfl HRG.out Tryz.underlying26 rfl ?hia ?_);(case hwa=>(exact wantA rfl));(case hia=>kernel_rfl))|(go_at_call 86;refine(HZ.out _ _ _ _ _ _).mono ?_;rintro e z ⟨rfl,hbz⟩;have HB2:=hid hbz;have d0':=(hbz.cell (p:=⟨w.heap.size,0,none⟩) HSZ.out).trans d0;have d1':=(hbz.cell (p:=⟨w.heap.size,1,none⟩) HSZ.out).trans d1;have d3':=(hbz.cell (p:=⟨w.heap.size,3,none⟩) HSZ.out).trans d3;have d4':=(hbz.cell (p:=⟨w.heap.size,4,none⟩) HSZ.out).trans d4;have d5':=(hbz.cell (p:=⟨w.heap.size,5,none⟩) HSZ.out).trans d5;clear hbz))
         go_ret
         exact⟨z7 HR.out.symm,HW.out.trans (HB2.out.mono HW.out.size)⟩
        ·have t5:(n ==1)= false:=by simpa using hn1
         have t6:(n / 2 ==0)= false:=by rw[beq_eq_false_iff_ne];omega
         have HR:Hid (res= false):=hid (by rw[HV.out];unfold bareB;simp[i1',m1',hz,t3,t6])
         (try clear hi0);(try clear hm0);(try clear hn);(try clear hn1);(try clear hl)
         go_enter Tryz.func48,Tryz.ntmps48
         go_upto_region 1 with (fail)
         generalize w.alloc (.cells ⟨[.int .i64 1,.int .i64 n,.float .f64 f,.string s,.slice NA ns.length nc,.slice A its.length c]⟩ 26)= W at*
         have d0:W.cell? ⟨w.heap.size,0,none⟩= some (.int .i64 1):=by have:=HRG.out 0 _ rfl;simpa using this
         have d1:W.cell? ⟨w.heap.size,1,none⟩= some (.int .i64 n):=by have:=HRG.out 1 _ rfl;simpa using this
         have d3:W.cell? ⟨w.heap.size,3,none⟩= some (.string s):=by have:=HRG.out 3 _ rfl;simpa using this
         have d4:W.cell? ⟨w.heap.size,4,none⟩= some (.slice NA ns.length nc):=by have:=HRG.out 4 _ rfl;simpa using this
         have d5:W.cell? ⟨w.heap.size,5,none⟩= some (.slice A its.length c):=by have:=HRG.out 5 _ rfl;simpa using this
         go_wp2_with (first|((with_reducible refine z8 26 _ rfl ?hwa w.heap.size 0 [.int .i64 1,.int .i64 n,.float .f64 f,.string s,.slice NA ns.length nc,.slice A its.length c] _ rfl HRG.out Tryz.underlying26 rfl ?hia ?_);(case hwa=>(exact wantA rfl));(case hia=>kernel_rfl))|(go_at_call 86;refine(HZ.out _ _ _ _ _ _).mono ?_;rintro e z ⟨rfl,hbz⟩;have HB2:=hid hbz;have d0':=(hbz.cell (p:=⟨w.heap.size,0,none⟩) HSZ.out).trans d0;have d1':=(hbz.cell (p:=⟨w.heap.size,1,none⟩) HSZ.out).trans d1;have d3':=(hbz.cell (p:=⟨w.heap.size,3,none⟩) HSZ.out).trans d3;have d4':=(hbz.cell (p:=⟨w.heap.size,4,none⟩) HSZ.out).trans d4;have d5':=(hbz.cell (p:=⟨w.heap.size,5,none⟩) HSZ.out).trans d5;clear hbz))
         go_ret
         exact⟨z7 HR.out.symm,HW.out.trans (HB2.out.mono HW.out.size)⟩
      ·have t3:s.toList.isEmpty= false:=by rw[Bool.eq_false_iff];intro h;exact hs (List.isEmpty_iff.1 h)
       have HR:Hid (res= false):=hid (by rw[HV.out];unfold bareB;simp[i1',m1',hz,t3])
       (try clear hi0);(try clear hm0);(try clear hn);(try clear hn1);(try clear hl)
       go_enter Tryz.func48,Tryz.ntmps48
       go_upto_region 1 with (fail)
       generalize w.alloc (.cells ⟨[.int .i64 1,.int .i64 n,.float .f64 f,.string s,.slice NA ns.length nc,.slice A its.length c]⟩ 26)= W at*
       have d0:W.cell? ⟨w.heap.size,0,none⟩= some (.int .i64 1):=by have:=HRG.out 0 _ rfl;simpa using this
       have d1:W.cell? ⟨w.heap.size,1,none⟩= some (.int .i64 n):=by have:=HRG.out 1 _ rfl;simpa using this
       have d3:W.cell? ⟨w.heap.size,3,none⟩= some (.string s):=by have:=HRG.out 3 _ rfl;simpa using this
       have d4:W.cell? ⟨w.heap.size,4,none⟩= some (.slice NA ns.length nc):=by have:=HRG.out 4 _ rfl;simpa using this
       have d5:W.cell? ⟨w.heap.size,5,none⟩= some (.slice A its.length c):=by have:=HRG.out 5 _ rfl;simpa using this
       go_wp2_with (first|((with_reducible refine z8 26 _ rfl ?hwa w.heap.size 0 [.int .i64 1,.int .i64 n,.float .f64 f,.string s,.slice NA ns.length nc,.slice A its.length c] _ rfl HRG.out Tryz.underlying26 rfl ?hia ?_);(case hwa=>(exact wantA rfl));(case hia=>kernel_rfl))|(go_at_call 86;refine(HZ.out _ _ _ _ _ _).mono ?_;rintro e z ⟨rfl,hbz⟩;have HB2:=hid hbz;have d0':=(hbz.cell (p:=⟨w.heap.size,0,none⟩) HSZ.out).trans d0;have d1':=(hbz.cell (p:=⟨w.heap.size,1,none⟩) HSZ.out).trans d1;have d3':=(hbz.cell (p:=⟨w.heap.size,3,none⟩) HSZ.out).trans d3;have d4':=(hbz.cell (p:=⟨w.heap.size,4,none⟩) HSZ.out).trans d4;have d5':=(hbz.cell (p:=⟨w.heap.size,5,none⟩) HSZ.out).trans d5;clear hbz))
       go_ret
       exact⟨z7 HR.out.symm,HW.out.trans (HB2.out.mono HW.out.size)⟩
     |false=>
      rw[hz] at HZ
      have HR:Hid (res= false):=hid (by rw[HV.out];unfold bareB;simp[i1',m1',hz])
      (try clear hi0);(try clear hm0);(try clear hn);(try clear hn1);(try clear hl)
      go_enter Tryz.func48,Tryz.ntmps48
      go_upto_region 1 with (fail)
      generalize w.alloc (.cells ⟨[.int .i64 1,.int .i64 n,.float .f64 f,.string s,.slice NA ns.length nc,.slice A its.length c]⟩ 26)= W at*
      have d0:W.cell? ⟨w.heap.size,0,none⟩= some (.int .i64 1):=by have:=HRG.out 0 _ rfl;simpa using this
      have d1:W.cell? ⟨w.heap.size,1,none⟩= some (.int .i64 n):=by have:=HRG.out 1 _ rfl;simpa using this
      have d3:W.cell? ⟨w.heap.size,3,none⟩= some (.string s):=by have:=HRG.out 3 _ rfl;simpa using this
      have d4:W.cell? ⟨w.heap.size,4,none⟩= some (.slice NA ns.length nc):=by have:=HRG.out 4 _ rfl;simpa using this
      have d5:W.cell? ⟨w.heap.size,5,none⟩= some (.slice A its.length c):=by have:=HRG.out 5 _ rfl;simpa using this
      go_wp2_with (first|((with_reducible refine z8 26 _ rfl ?hwa w.heap.size 0 [.int .i64 1,.int .i64 n,.float .f64 f,.string s,.slice NA ns.length nc,.slice A its.length c] _ rfl HRG.out Tryz.underlying26 rfl ?hia ?_);(case hwa=>(exact wantA rfl));(case hia=>kernel_rfl))|(go_at_call 86;refine(HZ.out _ _ _ _ _ _).mono ?_;rintro e z ⟨rfl,hbz⟩;have HB2:=hid hbz;have d0':=(hbz.cell (p:=⟨w.heap.size,0,none⟩) HSZ.out).trans d0;have d1':=(hbz.cell (p:=⟨w.heap.size,1,none⟩) HSZ.out).trans d1;have d3':=(hbz.cell (p:=⟨w.heap.size,3,none⟩) HSZ.out).trans d3;have d4':=(hbz.cell (p:=⟨w.heap.size,4,none⟩) HSZ.out).trans d4;have d5':=(hbz.cell (p:=⟨w.heap.size,5,none⟩) HSZ.out).trans d5;clear hbz))
      go_ret
      exact⟨z7 HR.out.symm,HW.out.trans (HB2.out.mono HW.out.size)⟩
    ·have m1:((ns.length:Int) ==0)= false:=by rw[beq_eq_false_iff_ne];omega
     have m1':(ns.length ==0)= false:=by simpa using hm0
     have HR:Hid (res= false):=hid (by rw[HV.out];unfold bareB;simp[i1',m1'])
     (try clear hi0);(try clear hm0);(try clear hn);(try clear hn1);(try clear hl)
     go_enter Tryz.func48,Tryz.ntmps48
     go_upto_region 1 with (fail)
     generalize w.alloc (.cells ⟨[.int .i64 1,.int .i64 n,.float .f64 f,.string s,.slice NA ns.length nc,.slice A its.length c]⟩ 26)= W at*
     have d0:W.cell? ⟨w.heap.size,0,none⟩= some (.int .i64 1):=by have:=HRG.out 0 _ rfl;simpa using this
     have d1:W.cell? ⟨w.heap.size,1,none⟩= some (.int .i64 n):=by have:=HRG.out 1 _ rfl;simpa using this
     have d3:W.cell? ⟨w.heap.size,3,none⟩= some (.string s):=by have:=HRG.out 3 _ rfl;simpa using this
     have d4:W.cell? ⟨w.heap.size,4,none⟩= some (.slice NA ns.length nc):=by have:=HRG.out 4 _ rfl;simpa using this
     have d5:W.cell? ⟨w.heap.size,5,none⟩= some (.slice A its.length c):=by have:=HRG.out 5 _ rfl;simpa using this
     go_wp2
     go_ret
     exact⟨z7 HR.out.symm,HW.out⟩
   ·have i1:((its.length:Int) ==0)= false:=by rw[beq_eq_false_iff_ne];omega
    have i1':(its.length ==0)= false:=by simpa using hi0
    have HR:Hid (res= false):=hid (by rw[HV.out];unfold bareB;simp[i1'])
    (try clear hi0);(try clear hm0);(try clear hn);(try clear hn1);(try clear hl)
    go_enter Tryz.func48,Tryz.ntmps48
    go_upto_region 1 with (fail)
    generalize w.alloc (.cells ⟨[.int .i64 1,.int .i64 n,.float .f64 f,.string s,.slice NA ns.length nc,.slice A its.length c]⟩ 26)= W at*
    have d0:W.cell? ⟨w.heap.size,0,none⟩= some (.int .i64 1):=by have:=HRG.out 0 _ rfl;simpa using this
    have d1:W.cell? ⟨w.heap.size,1,none⟩= some (.int .i64 n):=by have:=HRG.out 1 _ rfl;simpa using this
    have d3:W.cell? ⟨w.heap.size,3,none⟩= some (.string s):=by have:=HRG.out 3 _ rfl;simpa using this
    have d4:W.cell? ⟨w.heap.size,4,none⟩= some (.slice NA ns.length nc):=by have:=HRG.out 4 _ rfl;simpa using this
    have d5:W.cell? ⟨w.heap.size,5,none⟩= some (.slice A its.length c):=by have:=HRG.out 5 _ rfl;simpa using this
    go_wp2
    go_ret
    exact⟨z7 HR.out.symm,HW.out⟩
  have HO2:=hid (HO1.out.trans (if_neg k1))
  clear HO1
  by_cases k2:k= 2
  ·subst k2
   have HV:=hid (HO2.out.trans (if_pos rfl))
   clear HO2
   by_cases hi0:its.length= 0
   ·have i1:((its.length:Int) ==0)= true:=by rw[hi0];rfl
    have i1':(its.length ==0)= true:=by rw[hi0];rfl
    by_cases hm0:ns.length= 0
    ·have m1:((ns.length:Int) ==0)= true:=by rw[hm0];rfl
     have m1':(ns.length ==0)= true:=by rw[hm0];rfl
     have HZ:=hid (fun k n s vn vi z=>z07 k n f s vn vi HF.out z)
     cases hz:(cmpF f 0 ==0) with
     |true=>
      rw[hz] at HZ
      by_cases hs:s.toList=[]
      ·have t3:s.toList.isEmpty= true:=by rw[hs];rfl
       have HR:Hid (res= true):=hid (by rw[HV.out];unfold bareB;simp[i1',m1',hz,t3])
       (try clear hi0);(try clear hm0);(try clear hn);(try clear hn1);(try clear hl)
       go_enter Tryz.func48,Tryz.ntmps48
       go_upto_region 1 with (fail)
       generalize w.alloc (.cells ⟨[.int .i64 2,.int .i64 n,.float .f64 f,.string s,.slice NA ns.length nc,.slice A its.length c]⟩ 26)= W at*
       have d0:W.cell? ⟨w.heap.size,0,none⟩= some (.int .i64 2):=by have:=HRG.out 0 _ rfl;simpa using this
       have d1:W.cell? ⟨w.heap.size,1,none⟩= some (.int .i64 n):=by have:=HRG.out 1 _ rfl;simpa using this
       have d3:W.cell? ⟨w.heap.size,3,none⟩= some (.string s):=by have:=HRG.out 3 _ rfl;simpa using this
       have d4:W.cell? ⟨w.heap.size,4,none⟩= some (.slice NA ns.length nc):=by have:=HRG.out 4 _ rfl;simpa using this
       have d5:W.cell? ⟨w.heap.size,5,none⟩= some (.slice A its.length c):=by have:=HRG.out 5 _ rfl;simpa using this
       go_wp2_with (first|((with_reducible refine z8 26 _ rfl ?hwa w.heap.size 0 [.int .i64 2,.int .i64 n,.float .f64 f,.string s,.slice NA ns.length nc,.slice A its.length c] _ rfl HRG.out Tryz.underlying26 rfl ?hia ?_);(case hwa=>(exact wantA rfl));(case hia=>kernel_rfl))|(go_at_call 86;refine(HZ.out _ _ _ _ _ _).mono ?_;rintro e z ⟨rfl,hbz⟩;have HB2:=hid hbz;have d0':=(hbz.cell (p:=⟨w.heap.size,0,none⟩) HSZ.out).trans d0;have d1':=(hbz.cell (p:=⟨w.heap.size,1,none⟩) HSZ.out).trans d1;have d3':=(hbz.cell (p:=⟨w.heap.size,3,none⟩) HSZ.out).trans d3;have d4':=(hbz.cell (p:=⟨w.heap.size,4,none⟩) HSZ.out).trans d4;have d5':=(hbz.cell (p:=⟨w.heap.size,5,none⟩) HSZ.out).trans d5;clear hbz))
       go_ret
       exact⟨z7 HR.out.symm,HW.out.trans (HB2.out.mono HW.out.size)⟩
      ·have t3:s.toList.isEmpty= false:=by rw[Bool.eq_false_iff];intro h;exact hs (List.isEmpty_iff.1 h)
       have HR:Hid (res= false):=hid (by rw[HV.out];unfold bareB;simp[i1',m1',hz,t3])
       (try clear hi0);(try clear hm0);(try clear hn);(try clear hn1);(try clear hl)
       go_enter Tryz.func48,Tryz.ntmps48
       go_upto_region 1 with (fail)
       generalize w.alloc (.cells ⟨[.int .i64 2,.int .i64 n,.float .f64 f,.string s,.slice NA ns.length nc,.slice A its.length c]⟩ 26)= W at*
       have d0:W.cell? ⟨w.heap.size,0,none⟩= some (.int .i64 2):=by have:=HRG.out 0 _ rfl;simpa using this
       have d1:W.cell? ⟨w.heap.size,1,none⟩= some (.int .i64 n):=by have:=HRG.out 1 _ rfl;simpa using this
       have d3:W.cell? ⟨w.heap.size,3,none⟩= some (.string s):=by have:=HRG.out 3 _ rfl;simpa using this
       have d4:W.cell? ⟨w.heap.size,4,none⟩= some (.slice NA ns.length nc):=by have:=HRG.out 4 _ rfl;simpa using this
       have d5:W.cell? ⟨w.heap.size,5,none⟩= some (.slice A its.length c):=by have:=HRG.out 5 _ rfl;simpa using this
       go_wp2_with (first|((with_reducible refine z8 26 _ rfl ?hwa w.heap.size 0 [.int .i64 2,.int .i64 n,.float .f64 f,.string s,.slice NA ns.length nc,.slice A its.length c] _ rfl HRG.out Tryz.underlying26 rfl ?hia ?_);(case hwa=>(exact wantA rfl));(case hia=>kernel_rfl))|(go_at_call 86;refine(HZ.out _ _ _ _ _ _).mono ?_;rintro e z ⟨rfl,hbz⟩;have HB2:=hid hbz;have d0':=(hbz.cell (p:=⟨w.heap.size,0,none⟩) HSZ.out).trans d0;have d1':=(hbz.cell (p:=⟨w.heap.size,1,none⟩) HSZ.out).trans d1;have d3':=(hbz.cell (p:=⟨w.heap.size,3,none⟩) HSZ.out).trans d3;have d4':=(hbz.cell (p:=⟨w.heap.size,4,none⟩) HSZ.out).trans d4;have d5':=(hbz.cell (p:=⟨w.heap.size,5,none⟩) HSZ.out).trans d5;clear hbz))
       go_ret
       exact⟨z7 HR.out.symm,HW.out.trans (HB2.out.mono HW.out.size)⟩
     |false=>
      rw[hz] at HZ
      have HR:Hid (res= false):=hid (by rw[HV.out];unfold bareB;simp[i1',m1',hz])
      (try clear hi0);(try clear hm0);(try clear hn);(try clear hn1);(try clear hl)
      go_enter Tryz.func48,Tryz.ntmps48
      go_upto_region 1 with (fail)
      generalize w.alloc (.cells ⟨[.int .i64 2,.int .i64 n,.float .f64 f,.string s,.slice NA ns.length nc,.slice A its.length c]⟩ 26)= W at*
      have d0:W.cell? ⟨w.heap.size,0,none⟩= some (.int .i64 2):=by have:=HRG.out 0 _ rfl;simpa using this
      have d1:W.cell? ⟨w.heap.size,1,none⟩= some (.int .i64 n):=by have:=HRG.out 1 _ rfl;simpa using this
      have d3:W.cell? ⟨w.heap.size,3,none⟩= some (.string s):=by have:=HRG.out 3 _ rfl;simpa using this
      have d4:W.cell? ⟨w.heap.size,4,none⟩= some (.slice NA ns.length nc):=by have:=HRG.out 4 _ rfl;simpa using this
      have d5:W.cell? ⟨w.heap.size,5,none⟩= some (.slice A its.length c):=by have:=HRG.out 5 _ rfl;simpa using this
      go_wp2_with (first|((with_reducible refine z8 26 _ rfl ?hwa w.heap.size 0 [.int .i64 2,.int .i64 n,.float .f64 f,.string s,.slice NA ns.length nc,.slice A its.length c] _ rfl HRG.out Tryz.underlying26 rfl ?hia ?_);(case hwa=>(exact wantA rfl));(case hia=>kernel_rfl))|(go_at_call 86;refine(HZ.out _ _ _ _ _ _).mono ?_;rintro e z ⟨rfl,hbz⟩;have HB2:=hid hbz;have d0':=(hbz.cell (p:=⟨w.heap.size,0,none⟩) HSZ.out).trans d0;have d1':=(hbz.cell (p:=⟨w.heap.size,1,none⟩) HSZ.out).trans d1;have d3':=(hbz.cell (p:=⟨w.heap.size,3,none⟩) HSZ.out).trans d3;have d4':=(hbz.cell (p:=⟨w.heap.size,4,none⟩) HSZ.out).trans d4;have d5':=(hbz.cell (p:=⟨w.heap.size,5,none⟩) HSZ.out).trans d5;clear hbz))
      go_ret
      exact⟨z7 HR.out.symm,HW.out.trans (HB2.out.mono HW.out.size)⟩
    ·have m1:((ns.length:Int) ==0)= false:=by rw[beq_eq_false_iff_ne];omega
     have m1':(ns.length ==0)= false:=by simpa using hm0
     have HR:Hid (res= false):=hid (by rw[HV.out];unfold bareB;simp[i1',m1'])
     (try clear hi0);(try clear hm0);(try clear hn);(try clear hn1);(try clear hl)
     go_enter Tryz.func48,Tryz.ntmps48
     go_upto_region 1 with (fail)
     generalize w.alloc (.cells ⟨[.int .i64 2,.int .i64 n,.float .f64 f,.string s,.slice NA ns.length nc,.slice A its.length c]⟩ 26)= W at*
     have d0:W.cell? ⟨w.heap.size,0,none⟩= some (.int .i64 2):=by have:=HRG.out 0 _ rfl;simpa using this
     have d1:W.cell? ⟨w.heap.size,1,none⟩= some (.int .i64 n):=by have:=HRG.out 1 _ rfl;simpa using this
     have d3:W.cell? ⟨w.heap.size,3,none⟩= some (.string s):=by have:=HRG.out 3 _ rfl;simpa using this
     have d4:W.cell? ⟨w.heap.size,4,none⟩= some (.slice NA ns.length nc):=by have:=HRG.out 4 _ rfl;simpa using this
     have d5:W.cell? ⟨w.heap.size,5,none⟩= some (.slice A its.length c):=by have:=HRG.out 5 _ rfl;simpa using this
     go_wp2
     go_ret
     exact⟨z7 HR.out.symm,HW.out⟩
   ·have i1:((its.length:Int) ==0)= false:=by rw[beq_eq_false_iff_ne];omega
    have i1':(its.length ==0)= false:=by simpa using hi0
    have HR:Hid (res= false):=hid (by rw[HV.out];unfold bareB;simp[i1'])
    (try clear hi0);(try clear hm0);(try clear hn);(try clear hn1);(try clear hl)
    go_enter Tryz.func48,Tryz.ntmps48
    go_upto_region 1 with (fail)
    generalize w.alloc (.cells ⟨[.int .i64 2,.int .i64 n,.float .f64 f,.string s,.slice NA ns.length nc,.slice A its.length c]⟩ 26)= W at*
    have d0:W.cell? ⟨w.heap.size,0,none⟩= some (.int .i64 2):=by have:=HRG.out 0 _ rfl;simpa using this
    have d1:W.cell? ⟨w.heap.size,1,none⟩= some (.int .i64 n):=by have:=HRG.out 1 _ rfl;simpa using this
    have d3:W.cell? ⟨w.heap.size,3,none⟩= some (.string s):=by have:=HRG.out 3 _ rfl;simpa using this
    have d4:W.cell? ⟨w.heap.size,4,none⟩= some (.slice NA ns.length nc):=by have:=HRG.out 4 _ rfl;simpa using this
    have d5:W.cell? ⟨w.heap.size,5,none⟩= some (.slice A its.length c):=by have:=HRG.out 5 _ rfl;simpa using this
    go_wp2
    go_ret
    exact⟨z7 HR.out.symm,HW.out⟩
  have HO3:=hid (HO2.out.trans (if_neg k2))
  clear HO2
  by_cases k3:k= 3
  ·subst k3
   have HV:=hid (HO3.out.trans (if_pos rfl))
   clear HO3
   by_cases hi0:its.length= 0
   ·have i1:((its.length:Int) ==0)= true:=by rw[hi0];rfl
    have i1':(its.length ==0)= true:=by rw[hi0];rfl
    by_cases hm0:ns.length= 0
    ·have m1:((ns.length:Int) ==0)= true:=by rw[hm0];rfl
     have m1':(ns.length ==0)= true:=by rw[hm0];rfl
     have HZ:=hid (fun k n s vn vi z=>z07 k n f s vn vi HF.out z)
     by_cases hn:n= 0
     ·have t2:(n ==0)= true:=by simpa using hn
      have t2':(n !=0)= false:=by rw[hn];rfl
      by_cases hs:s.toList=[]
      ·have t3:s.toList.isEmpty= true:=by rw[hs];rfl
       have HR:Hid (res= true):=hid (by rw[HV.out];unfold bareB;simp[i1',m1',t2,t3])
       (try clear hi0);(try clear hm0);(try clear hn);(try clear hn1);(try clear hl)
       go_enter Tryz.func48,Tryz.ntmps48
       go_upto_region 1 with (fail)
       generalize w.alloc (.cells ⟨[.int .i64 3,.int .i64 n,.float .f64 f,.string s,.slice NA ns.length nc,.slice A its.length c]⟩ 26)= W at*
       have d0:W.cell? ⟨w.heap.size,0,none⟩= some (.int .i64 3):=by have:=HRG.out 0 _ rfl;simpa using this
       have d1:W.cell? ⟨w.heap.size,1,none⟩= some (.int .i64 n):=by have:=HRG.out 1 _ rfl;simpa using this
       have d3:W.cell? ⟨w.heap.size,3,none⟩= some (.string s):=by have:=HRG.out 3 _ rfl;simpa using this
       have d4:W.cell? ⟨w.heap.size,4,none⟩= some (.slice NA ns.length nc):=by have:=HRG.out 4 _ rfl;simpa using this
       have d5:W.cell? ⟨w.heap.size,5,none⟩= some (.slice A its.length c):=by have:=HRG.out 5 _ rfl;simpa using this
       go_wp2
       go_ret
       exact⟨z7 HR.out.symm,HW.out⟩
      ·have t3:s.toList.isEmpty= false:=by rw[Bool.eq_false_iff];intro h;exact hs (List.isEmpty_iff.1 h)
       have HR:Hid (res= false):=hid (by rw[HV.out];unfold bareB;simp[i1',m1',t2,t3])
       (try clear hi0);(try clear hm0);(try clear hn);(try clear hn1);(try clear hl)
       go_enter Tryz.func48,Tryz.ntmps48
       go_upto_region 1 with (fail)
       generalize w.alloc (.cells ⟨[.int .i64 3,.int .i64 n,.float .f64 f,.string s,.slice NA ns.length nc,.slice A its.length c]⟩ 26)= W at*
       have d0:W.cell? ⟨w.heap.size,0,none⟩= some (.int .i64 3):=by have:=HRG.out 0 _ rfl;simpa using this
       have d1:W.cell? ⟨w.heap.size,1,none⟩= some (.int .i64 n):=by have:=HRG.out 1 _ rfl;simpa using this
       have d3:W.cell? ⟨w.heap.size,3,none⟩= some (.string s):=by have:=HRG.out 3 _ rfl;simpa using this
       have d4:W.cell? ⟨w.heap.size,4,none⟩= some (.slice NA ns.length nc):=by have:=HRG.out 4 _ rfl;simpa using this
       have d5:W.cell? ⟨w.heap.size,5,none⟩= some (.slice A its.length c):=by have:=HRG.out 5 _ rfl;simpa using this
       go_wp2
       go_ret
       exact⟨z7 HR.out.symm,HW.out⟩
     ·have t2:(n ==0)= false:=by simpa using hn
      have t2':(n !=0)= true:=by simpa using hn
      have HR:Hid (res= false):=hid (by rw[HV.out];unfold bareB;simp[i1',m1',t2])
      (try clear hi0);(try clear hm0);(try clear hn);(try clear hn1);(try clear hl)
      go_enter Tryz.func48,Tryz.ntmps48
      go_upto_region 1 with (fail)
      generalize w.alloc (.cells ⟨[.int .i64 3,.int .i64 n,.float .f64 f,.string s,.slice NA ns.length nc,.slice A its.length c]⟩ 26)= W at*
      have d0:W.cell? ⟨w.heap.size,0,none⟩= some (.int .i64 3):=by have:=HRG.out 0 _ rfl;simpa using this
      have d1:W.cell? ⟨w.heap.size,1,none⟩= some (.int .i64 n):=by have:=HRG.out 1 _ rfl;simpa using this
      have d3:W.cell? ⟨w.heap.size,3,none⟩= some (.string s):=by have:=HRG.out 3 _ rfl;simpa using this
      have d4:W.cell? ⟨w.heap.size,4,none⟩= some (.slice NA ns.length nc):=by have:=HRG.out 4 _ rfl;simpa using this
      have d5:W.cell? ⟨w.heap.size,5,none⟩= some (.slice A its.length c):=by have:=HRG.out 5 _ rfl;simpa using this
      go_wp2
      go_ret
      exact⟨z7 HR.out.symm,HW.out⟩
    ·have m1:((ns.length:Int) ==0)= false:=by rw[beq_eq_false_iff_ne];omega
     have m1':(ns.length ==0)= false:=by simpa using hm0
     have HR:Hid (res= false):=hid (by rw[HV.out];unfold bareB;simp[i1',m1'])
     (try clear hi0);(try clear hm0);(try clear hn);(try clear hn1);(try clear hl)
     go_enter Tryz.func48,Tryz.ntmps48
     go_upto_region 1 with (fail)
     generalize w.alloc (.cells ⟨[.int .i64 3,.int .i64 n,.float .f64 f,.string s,.slice NA ns.length nc,.slice A its.length c]⟩ 26)= W at*
     have d0:W.cell? ⟨w.heap.size,0,none⟩= some (.int .i64 3):=by have:=HRG.out 0 _ rfl;simpa using this
     have d1:W.cell? ⟨w.heap.size,1,none⟩= some (.int .i64 n):=by have:=HRG.out 1 _ rfl;simpa using this
     have d3:W.cell? ⟨w.heap.size,3,none⟩= some (.string s):=by have:=HRG.out 3 _ rfl;simpa using this
     have d4:W.cell? ⟨w.heap.size,4,none⟩= some (.slice NA ns.length nc):=by have:=HRG.out 4 _ rfl;simpa using this
     have d5:W.cell? ⟨w.heap.size,5,none⟩= some (.slice A its.length c):=by have:=HRG.out 5 _ rfl;simpa using this
     go_wp2
     go_ret
     exact⟨z7 HR.out.symm,HW.out⟩
   ·have i1:((its.length:Int) ==0)= false:=by rw[beq_eq_false_iff_ne];omega
    have i1':(its.length ==0)= false:=by simpa using hi0
    have HR:Hid (res= false):=hid (by rw[HV.out];unfold bareB;simp[i1'])
    (try clear hi0);(try clear hm0);(try clear hn);(try clear hn1);(try clear hl)
    go_enter Tryz.func48,Tryz.ntmps48
    go_upto_region 1 with (fail)
    generalize w.alloc (.cells ⟨[.int .i64 3,.int .i64 n,.float .f64 f,.string s,.slice NA ns.length nc,.slice A its.length c]⟩ 26)= W at*
    have d0:W.cell? ⟨w.heap.size,0,none⟩= some (.int .i64 3):=by have:=HRG.out 0 _ rfl;simpa using this
    have d1:W.cell? ⟨w.heap.size,1,none⟩= some (.int .i64 n):=by have:=HRG.out 1 _ rfl;simpa using this
    have d3:W.cell? ⟨w.heap.size,3,none⟩= some (.string s):=by have:=HRG.out 3 _ rfl;simpa using this
    have d4:W.cell? ⟨w.heap.size,4,none⟩= some (.slice NA ns.length nc):=by have:=HRG.out 4 _ rfl;simpa using this
    have d5:W.cell? ⟨w.heap.size,5,none⟩= some (.slice A its.length c):=by have:=HRG.out 5 _ rfl;simpa using this
    go_wp2
    go_ret
    exact⟨z7 HR.out.symm,HW.out⟩
  have HO4:=hid (HO3.out.trans (if_neg k3))
  clear HO3
  by_cases k4:k= 4
  ·subst k4
   have HV:=hid (HO4.out.trans (if_pos rfl))
   clear HO4
   by_cases hi0:its.length= 0
   ·have i1:((its.length:Int) ==0)= true:=by rw[hi0];rfl
    have i1':(its.length ==0)= true:=by rw[hi0];rfl
    by_cases hm0:ns.length= 0
    ·have m1:((ns.length:Int) ==0)= true:=by rw[hm0];rfl
     have m1':(ns.length ==0)= true:=by rw[hm0];rfl
     have HZ:=hid (fun k n s vn vi z=>z07 k n f s vn vi HF.out z)
     cases hz:(cmpF f 0 ==0) with
     |true=>
      rw[hz] at HZ
      by_cases hn:n= 0
      ·have t2:(n ==0)= true:=by simpa using hn
       have t2':(n !=0)= false:=by rw[hn];rfl
       by_cases hl:s.size≤200
       ·have t4:(s.size:Int)≤200:=by omega
        have HR:Hid (res= true):=hid (by rw[HV.out];unfold bareB;simp[i1',m1',hz,t2,hl])
        (try clear hi0);(try clear hm0);(try clear hn);(try clear hn1);(try clear hl)
        go_enter Tryz.func48,Tryz.ntmps48
        go_upto_region 1 with (fail)
        generalize w.alloc (.cells ⟨[.int .i64 4,.int .i64 n,.float .f64 f,.string s,.slice NA ns.length nc,.slice A its.length c]⟩ 26)= W at*
        have d0:W.cell? ⟨w.heap.size,0,none⟩= some (.int .i64 4):=by have:=HRG.out 0 _ rfl;simpa using this
        have d1:W.cell? ⟨w.heap.size,1,none⟩= some (.int .i64 n):=by have:=HRG.out 1 _ rfl;simpa using this
        have d3:W.cell? ⟨w.heap.size,3,none⟩= some (.string s):=by have:=HRG.out 3 _ rfl;simpa using this
        have d4:W.cell? ⟨w.heap.size,4,none⟩= some (.slice NA ns.length nc):=by have:=HRG.out 4 _ rfl;simpa using this
        have d5:W.cell? ⟨w.heap.size,5,none⟩= some (.slice A its.length c):=by have:=HRG.out 5 _ rfl;simpa using this
        go_wp2_with (first|((with_reducible refine z8 26 _ rfl ?hwa w.heap.size 0 [.int .i64 4,.int .i64 n,.float .f64 f,.string s,.slice NA ns.length nc,.slice A its.length c] _ rfl HRG.out Tryz.underlying26 rfl ?hia ?_);(case hwa=>(exact wantA rfl));(case hia=>kernel_rfl))|(go_at_call 86;refine(HZ.out _ _ _ _ _ _).mono ?_;rintro e z ⟨rfl,hbz⟩;have HB2:=hid hbz;have d0':=(hbz.cell (p:=⟨w.heap.size,0,none⟩) HSZ.out).trans d0;have d1':=(hbz.cell (p:=⟨w.heap.size,1,none⟩) HSZ.out).trans d1;have d3':=(hbz.cell (p:=⟨w.heap.size,3,none⟩) HSZ.out).trans d3;have d4':=(hbz.cell (p:=⟨w.heap.size,4,none⟩) HSZ.out).trans d4;have d5':=(hbz.cell (p:=⟨w.heap.size,5,none⟩) HSZ.out).trans d5;clear hbz))
        go_ret
        exact⟨z7 HR.out.symm,HW.out.trans (HB2.out.mono HW.out.size)⟩
       ·have t4:decide ((s.size:Int)≤200)= false:=decide_eq_false (by omega)
        have t4':(200:Int) <(s.size:Int):=by omega
        have HR:Hid (res= false):=hid (by rw[HV.out];unfold bareB;simp[i1',m1',hz,t2,hl])
        (try clear hi0);(try clear hm0);(try clear hn);(try clear hn1);(try clear hl)
        go_enter Tryz.func48,Tryz.ntmps48
        go_upto_region 1 with (fail)
        generalize w.alloc (.cells ⟨[.int .i64 4,.int .i64 n,.float .f64 f,.string s,.slice NA ns.length nc,.slice A its.length c]⟩ 26)= W at*
        have d0:W.cell? ⟨w.heap.size,0,none⟩= some (.int .i64 4):=by have:=HRG.out 0 _ rfl;simpa using this
        have d1:W.cell? ⟨w.heap.size,1,none⟩= some (.int .i64 n):=by have:=HRG.out 1 _ rfl;simpa using this
        have d3:W.cell? ⟨w.heap.size,3,none⟩= some (.string s):=by have:=HRG.out 3 _ rfl;simpa using this
        have d4:W.cell? ⟨w.heap.size,4,none⟩= some (.slice NA ns.length nc):=by have:=HRG.out 4 _ rfl;simpa using this
        have d5:W.cell? ⟨w.heap.size,5,none⟩= some (.slice A its.length c):=by have:=HRG.out 5 _ rfl;simpa using this
        go_wp2_with (first|((with_reducible refine z8 26 _ rfl ?hwa w.heap.size 0 [.int .i64 4,.int .i64 n,.float .f64 f,.string s,.slice NA ns.length nc,.slice A its.length c] _ rfl HRG.out Tryz.underlying26 rfl ?hia ?_);(case hwa=>(exact wantA rfl));(case hia=>kernel_rfl))|(go_at_call 86;refine(HZ.out _ _ _ _ _ _).mono ?_;rintro e z ⟨rfl,hbz⟩;have HB2:=hid hbz;have d0':=(hbz.cell (p:=⟨w.heap.size,0,none⟩) HSZ.out).trans d0;have d1':=(hbz.cell (p:=⟨w.heap.size,1,none⟩) HSZ.out).trans d1;have d3':=(hbz.cell (p:=⟨w.heap.size,3,none⟩) HSZ.out).trans d3;have d4':=(hbz.cell (p:=⟨w.heap.size,4,none⟩) HSZ.out).trans d4;have d5':=(hbz.cell (p:=⟨w.heap.size,5,none⟩) HSZ.out).trans d5;clear hbz))
        go_ret
        exact⟨z7 HR.out.symm,HW.out.trans (HB2.out.mono HW.out.size)⟩
      ·have t2:(n ==0)= false:=by simpa using hn
       have t2':(n !=0)= true:=by simpa using hn
       have HR:Hid (res= false):=hid (by rw[HV.out];unfold bareB;simp[i1',m1',hz,t2])
       (try clear hi0);(try clear hm0);(try clear hn);(try clear hn1);(try clear hl)
       go_enter Tryz.func48,Tryz.ntmps48
       go_upto_region 1 with (fail)
       generalize w.alloc (.cells ⟨[.int .i64 4,.int .i64 n,.float .f64 f,.string s,.slice NA ns.length nc,.slice A its.length c]⟩ 26)= W at*
       have d0:W.cell? ⟨w.heap.size,0,none⟩= some (.int .i64 4):=by have:=HRG.out 0 _ rfl;simpa using this
       have d1:W.cell? ⟨w.heap.size,1,none⟩= some (.int .i64 n):=by have:=HRG.out 1 _ rfl;simpa using this
       have d3:W.cell? ⟨w.heap.size,3,none⟩= some (.string s):=by have:=HRG.out 3 _ rfl;simpa using this
       have d4:W.cell? ⟨w.heap.size,4,none⟩= some (.slice NA ns.length nc):=by have:=HRG.out 4 _ rfl;simpa using this
       have d5:W.cell? ⟨w.heap.size,5,none⟩= some (.slice A its.length c):=by have:=HRG.out 5 _ rfl;simpa using this
       go_wp2_with (first|((with_reducible refine z8 26 _ rfl ?hwa w.heap.size 0 [.int .i64 4,.int .i64 n,.float .f64 f,.string s,.slice NA ns.length nc,.slice A its.length c] _ rfl HRG.out Tryz.underlying26 rfl ?hia ?_);(case hwa=>(exact wantA rfl));(case hia=>kernel_rfl))|(go_at_call 86;refine(HZ.out _ _ _ _ _ _).mono ?_;rintro e z ⟨rfl,hbz⟩;have HB2:=hid hbz;have d0':=(hbz.cell (p:=⟨w.heap.size,0,none⟩) HSZ.out).trans d0;have d1':=(hbz.cell (p:=⟨w.heap.size,1,none⟩) HSZ.out).trans d1;have d3':=(hbz.cell (p:=⟨w.heap.size,3,none⟩) HSZ.out).trans d3;have d4':=(hbz.cell (p:=⟨w.heap.size,4,none⟩) HSZ.out).trans d4;have d5':=(hbz.cell (p:=⟨w.heap.size,5,none⟩) HSZ.out).trans d5;clear hbz))
       go_ret
       exact⟨z7 HR.out.symm,HW.out.trans (HB2.out.mono HW.out.size)⟩
     |false=>
      rw[hz] at HZ
      have HR:Hid (res= false):=hid (by rw[HV.out];unfold bareB;simp[i1',m1',hz])
      (try clear hi0);(try clear hm0);(try clear hn);(try clear hn1);(try clear hl)
      go_enter Tryz.func48,Tryz.ntmps48
      go_upto_region 1 with (fail)
      generalize w.alloc (.cells ⟨[.int .i64 4,.int .i64 n,.float .f64 f,.string s,.slice NA ns.length nc,.slice A its.length c]⟩ 26)= W at*
      have d0:W.cell? ⟨w.heap.size,0,none⟩= some (.int .i64 4):=by have:=HRG.out 0 _ rfl;simpa using this
      have d1:W.cell? ⟨w.heap.size,1,none⟩= some (.int .i64 n):=by have:=HRG.out 1 _ rfl;simpa using this
      have d3:W.cell? ⟨w.heap.size,3,none⟩= some (.string s):=by have:=HRG.out 3 _ rfl;simpa using this
      have d4:W.cell? ⟨w.heap.size,4,none⟩= some (.slice NA ns.length nc):=by have:=HRG.out 4 _ rfl;simpa using this
      have d5:W.cell? ⟨w.heap.size,5,none⟩= some (.slice A its.length c):=by have:=HRG.out 5 _ rfl;simpa using this
      go_wp2_with (first|((with_reducible refine z8 26 _ rfl ?hwa w.heap.size 0 [.int .i64 4,.int .i64 n,.float .f64 f,.string s,.slice NA ns.length nc,.slice A its.length c] _ rfl HRG.out Tryz.underlying26 rfl ?hia ?_);(case hwa=>(exact wantA rfl));(case hia=>kernel_rfl))|(go_at_call 86;refine(HZ.out _ _ _ _ _ _).mono ?_;rintro e z ⟨rfl,hbz⟩;have HB2:=hid hbz;have d0':=(hbz.cell (p:=⟨w.heap.size,0,none⟩) HSZ.out).trans d0;have d1':=(hbz.cell (p:=⟨w.heap.size,1,none⟩) HSZ.out).trans d1;have d3':=(hbz.cell (p:=⟨w.heap.size,3,none⟩) HSZ.out).trans d3;have d4':=(hbz.cell (p:=⟨w.heap.size,4,none⟩) HSZ.out).trans d4;have d5':=(hbz.cell (p:=⟨w.heap.size,5,none⟩) HSZ.out).trans d5;clear hbz))
      go_ret
      exact⟨z7 HR.out.symm,HW.out.trans (HB2.out.mono HW.out.size)⟩
    ·have m1:((ns.length:Int) ==0)= false:=by rw[beq_eq_false_iff_ne];omega
     have m1':(ns.length ==0)= false:=by simpa using hm0
     have HR:Hid (res= false):=hid (by rw[HV.out];unfold bareB;simp[i1',m1'])
     (try clear hi0);(try clear hm0);(try clear hn);(try clear hn1);(try clear hl)
     go_enter Tryz.func48,Tryz.ntmps48
     go_upto_region 1 with (fail)
     generalize w.alloc (.cells ⟨[.int .i64 4,.int .i64 n,.float .f64 f,.string s,.slice NA ns.length nc,.slice A its.length c]⟩ 26)= W at*
     have d0:W.cell? ⟨w.heap.size,0,none⟩= some (.int .i64 4):=by have:=HRG.out 0 _ rfl;simpa using this
     have d1:W.cell? ⟨w.heap.size,1,none⟩= some (.int .i64 n):=by have:=HRG.out 1 _ rfl;simpa using this
     have d3:W.cell? ⟨w.heap.size,3,none⟩= some (.string s):=by have:=HRG.out 3 _ rfl;simpa using this
     have d4:W.cell? ⟨w.heap.size,4,none⟩= some (.slice NA ns.length nc):=by have:=HRG.out 4 _ rfl;simpa using this
     have d5:W.cell? ⟨w.heap.size,5,none⟩= some (.slice A its.length c):=by have:=HRG.out 5 _ rfl;simpa using this
     go_wp2
     go_ret
     exact⟨z7 HR.out.symm,HW.out⟩
   ·have i1:((its.length:Int) ==0)= false:=by rw[beq_eq_false_iff_ne];omega
    have i1':(its.length ==0)= false:=by simpa using hi0
    have HR:Hid (res= false):=hid (by rw[HV.out];unfold bareB;simp[i1'])
    (try clear hi0);(try clear hm0);(try clear hn);(try clear hn1);(try clear hl)
    go_enter Tryz.func48,Tryz.ntmps48
    go_upto_region 1 with (fail)
    generalize w.alloc (.cells ⟨[.int .i64 4,.int .i64 n,.float .f64 f,.string s,.slice NA ns.length nc,.slice A its.length c]⟩ 26)= W at*
    have d0:W.cell? ⟨w.heap.size,0,none⟩= some (.int .i64 4):=by have:=HRG.out 0 _ rfl;simpa using this
    have d1:W.cell? ⟨w.heap.size,1,none⟩= some (.int .i64 n):=by have:=HRG.out 1 _ rfl;simpa using this
    have d3:W.cell? ⟨w.heap.size,3,none⟩= some (.string s):=by have:=HRG.out 3 _ rfl;simpa using this
    have d4:W.cell? ⟨w.heap.size,4,none⟩= some (.slice NA ns.length nc):=by have:=HRG.out 4 _ rfl;simpa using this
    have d5:W.cell? ⟨w.heap.size,5,none⟩= some (.slice A its.length c):=by have:=HRG.out 5 _ rfl;simpa using this
    go_wp2
    go_ret
    exact⟨z7 HR.out.symm,HW.out⟩
  have HO5:=hid (HO4.out.trans (if_neg k4))
  clear HO4
  by_cases k6:k= 6
  ·subst k6
   have HV:=hid (HO5.out.trans (if_pos rfl))
   clear HO5
   by_cases hi0:its.length= 0
   ·have i1:((its.length:Int) ==0)= true:=by rw[hi0];rfl
    have i1':(its.length ==0)= true:=by rw[hi0];rfl
    by_cases hm0:ns.length= 0
    ·have m1:((ns.length:Int) ==0)= true:=by rw[hm0];rfl
     have m1':(ns.length ==0)= true:=by rw[hm0];rfl
     have HZ:=hid (fun k n s vn vi z=>z07 k n f s vn vi HF.out z)
     cases hz:(cmpF f 0 ==0) with
     |true=>
      rw[hz] at HZ
      by_cases hn:n= 0
      ·have t2:(n ==0)= true:=by simpa using hn
       have t2':(n !=0)= false:=by rw[hn];rfl
       by_cases hs:s.toList=[]
       ·have t3:s.toList.isEmpty= true:=by rw[hs];rfl
        have HNS:=hid (fun z (hz:Below w.heap.size w z)=>z2X (.slice NA ns.length nc) ns its.length z ((HN.out.below hz fun _ _ _ h=>h).more hz.size))
        cases hnm:(riseB none ns && (ns.length ==its.length)) with
        |true=>
         have hq:=hnm
         rw[Bool.and_eq_true] at hq
         obtain⟨q1,q2⟩:=hq
         rw[hnm] at HNS
         have HR:Hid (res= zA its (d+1)):=hid (by rw[HV.out];unfold bareB;rw[q1,q2];simp[hz,t2,t3,q1,q2])
         clear q1 q2
         (try clear hi0);(try clear hm0);(try clear hn);(try clear hn1);(try clear hl)
         go_enter Tryz.func48,Tryz.ntmps48
         go_upto_region 1 with (fail)
         generalize w.alloc (.cells ⟨[.int .i64 6,.int .i64 n,.float .f64 f,.string s,.slice NA ns.length nc,.slice A its.length c]⟩ 26)= W at*
         have d0:W.cell? ⟨w.heap.size,0,none⟩= some (.int .i64 6):=by have:=HRG.out 0 _ rfl;simpa using this
         have d1:W.cell? ⟨w.heap.size,1,none⟩= some (.int .i64 n):=by have:=HRG.out 1 _ rfl;simpa using this
         have d3:W.cell? ⟨w.heap.size,3,none⟩= some (.string s):=by have:=HRG.out 3 _ rfl;simpa using this
         have d4:W.cell? ⟨w.heap.size,4,none⟩= some (.slice NA ns.length nc):=by have:=HRG.out 4 _ rfl;simpa using this
         have d5:W.cell? ⟨w.heap.size,5,none⟩= some (.slice A its.length c):=by have:=HRG.out 5 _ rfl;simpa using this
         have D5:=hid d5
         go_wp2_with (first|((with_reducible refine z8 26 _ rfl ?hwa w.heap.size 0 [.int .i64 6,.int .i64 n,.float .f64 f,.string s,.slice NA ns.length nc,.slice A its.length c] _ rfl HRG.out Tryz.underlying26 rfl ?hia ?_);(case hwa=>(exact wantA rfl));(case hia=>kernel_rfl))|(go_at_call 86;refine(HZ.out _ _ _ _ _ _).mono ?_;rintro e z ⟨rfl,hbz⟩;have HB2:=hid hbz;have d0':=(hbz.cell (p:=⟨w.heap.size,0,none⟩) HSZ.out).trans d0;have d1':=(hbz.cell (p:=⟨w.heap.size,1,none⟩) HSZ.out).trans d1;have d3':=(hbz.cell (p:=⟨w.heap.size,3,none⟩) HSZ.out).trans d3;have d4':=(hbz.cell (p:=⟨w.heap.size,4,none⟩) HSZ.out).trans d4;have d5':=(hbz.cell (p:=⟨w.heap.size,5,none⟩) HSZ.out).trans d5;have HBN:=HW.out.trans (hbz.mono HW.out.size);clear hbz)|(go_at_call 87;refine(HNS.out _ HBN).mono ?_;rintro e z2 ⟨rfl,hbz⟩;have HB4:=hid (HB2.out.trans (hbz.mono HB2.out.size));clear hbz))
         go_loopg [6] its.length (fun q x u=>∃ j:Nat,j+q= its.length∧x= .int .i64 j∧Below W.heap.size W u∧zA (its.drop j) (d+1)= res)
         case atStart=>exact⟨0,by omega,rfl,HB4.out,HR.out.symm⟩
         case round=>
          obtain⟨j,hj,rfl,hb,hres⟩:=hrel
          have HR2:=hid hres
          have HBK:=hid hb
          have d5':=(hb.cell (p:=⟨w.heap.size,5,none⟩) HSZ.out).trans D5.out
          clear hres hb
          cases gk with
          |zero=>
           obtain rfl:j= its.length:=by omega
           have hge: ¬ ((its.length:Int) <(its.length:Int)):=by omega
           have HVE:=hid (HR2.out.symm.trans z0H)
           go_wp2
           go_ret
           exact⟨z7 HVE.out.symm,HW.out.trans (HBK.out.mono HW.out.size)⟩
          |succ q=>
           have hlt:(j:Int) <(its.length:Int):=by omega
           obtain⟨x,hx⟩:∃ x,its[j]?= some x:=⟨_,List.getElem?_eq_getElem (by omega)⟩
           obtain⟨b,o',rfl,hbl,hc⟩:=HA.out (by omega)
           obtain⟨ks,hks,hvx⟩:=hc j x hx
           have HVS:=hid (HR2.out.symm.trans (z0z hx))
           have HBT:=hid (HW.out.trans (HBK.out.mono HW.out.size))
           have HKS:=hid (zd hks HBT.out hbl)
           have HKL:=hid (zi hvx)
           have HC:=hid (IH.out x (List.mem_of_getElem? hx) (far - 1) (d+1) ks wr (by omega) (hvx.next HBT.out))
           have hd1:((far - 1:Nat):Int)=(far:Int) - 1:=by omega
           rw[hd1] at HC
           clear hc hks hvx hx hd1
           generalize zo x (d+1)= rx at*
           cases rx with
           |true=>
            have HV2:=hid (HVS.out.trans (Bool.true_and _))
            clear HVS
            go_wp2_with (first|((with_reducible refine z8 26 _ rfl ?hwa b (o'+j*6) ks _ rfl HKS.out Tryz.underlying26 rfl ?hia ?_);(case hwa=>(exact wantA rfl));(case hia=>rw[HKL.out.1];kernel_rfl))|(go_at_call 48;refine HC.out.mono ?_;rintro e z ⟨rfl,hbz⟩;have HB3:=hid hbz;clear hbz))
            go_roundg q
            case measure=>omega
            case rel=>exact⟨j+1,by omega,by go_num,HBK.out.trans (HB3.out.mono HBK.out.size),HV2.out.symm⟩
           |false=>
            have HV2:Hid (res= false):=hid (HVS.out.trans (Bool.false_and _))
            clear HVS
            go_wp2_with (first|((with_reducible refine z8 26 _ rfl ?hwa b (o'+j*6) ks _ rfl HKS.out Tryz.underlying26 rfl ?hia ?_);(case hwa=>(exact wantA rfl));(case hia=>rw[HKL.out.1];kernel_rfl))|(go_at_call 48;refine HC.out.mono ?_;rintro e z ⟨rfl,hbz⟩;have HB3:=hid hbz;clear hbz))
            go_ret
            exact⟨z7 HV2.out.symm,HBT.out.trans (HB3.out.mono HBT.out.size)⟩
        |false=>
         rw[hnm] at HNS
         have HR:Hid (res= false):=hid (by
          rw[HV.out]
          cases h1:riseB none ns with
          |false=>simp
          |true=>rw[h1,Bool.true_and] at hnm;rw[hnm];simp)
         (try clear hi0);(try clear hm0);(try clear hn);(try clear hn1);(try clear hl)
         go_enter Tryz.func48,Tryz.ntmps48
         go_upto_region 1 with (fail)
         generalize w.alloc (.cells ⟨[.int .i64 6,.int .i64 n,.float .f64 f,.string s,.slice NA ns.length nc,.slice A its.length c]⟩ 26)= W at*
         have d0:W.cell? ⟨w.heap.size,0,none⟩= some (.int .i64 6):=by have:=HRG.out 0 _ rfl;simpa using this
         have d1:W.cell? ⟨w.heap.size,1,none⟩= some (.int .i64 n):=by have:=HRG.out 1 _ rfl;simpa using this
         have d3:W.cell? ⟨w.heap.size,3,none⟩= some (.string s):=by have:=HRG.out 3 _ rfl;simpa using this
         have d4:W.cell? ⟨w.heap.size,4,none⟩= some (.slice NA ns.length nc):=by have:=HRG.out 4 _ rfl;simpa using this
         have d5:W.cell? ⟨w.heap.size,5,none⟩= some (.slice A its.length c):=by have:=HRG.out 5 _ rfl;simpa using this
         go_wp2_with (first|((with_reducible refine z8 26 _ rfl ?hwa w.heap.size 0 [.int .i64 6,.int .i64 n,.float .f64 f,.string s,.slice NA ns.length nc,.slice A its.length c] _ rfl HRG.out Tryz.underlying26 rfl ?hia ?_);(case hwa=>(exact wantA rfl));(case hia=>kernel_rfl))|(go_at_call 86;refine(HZ.out _ _ _ _ _ _).mono ?_;rintro e z ⟨rfl,hbz⟩;have HB2:=hid hbz;have d0':=(hbz.cell (p:=⟨w.heap.size,0,none⟩) HSZ.out).trans d0;have d1':=(hbz.cell (p:=⟨w.heap.size,1,none⟩) HSZ.out).trans d1;have d3':=(hbz.cell (p:=⟨w.heap.size,3,none⟩) HSZ.out).trans d3;have d4':=(hbz.cell (p:=⟨w.heap.size,4,none⟩) HSZ.out).trans d4;have d5':=(hbz.cell (p:=⟨w.heap.size,5,none⟩) HSZ.out).trans d5;have HBN:=HW.out.trans (hbz.mono HW.out.size);clear hbz)|(go_at_call 87;refine(HNS.out _ HBN).mono ?_;rintro e z2 ⟨rfl,hbz⟩;have HB4:=hid (HB2.out.trans (hbz.mono HB2.out.size));clear hbz))
         go_ret
         exact⟨z7 HR.out.symm,HW.out.trans (HB4.out.mono HW.out.size)⟩
       ·have t3:s.toList.isEmpty= false:=by rw[Bool.eq_false_iff];intro h;exact hs (List.isEmpty_iff.1 h)
        have HR:Hid (res= false):=hid (by rw[HV.out];unfold bareB;simp[hz,t2,t3])
        (try clear hi0);(try clear hm0);(try clear hn);(try clear hn1);(try clear hl)
        go_enter Tryz.func48,Tryz.ntmps48
        go_upto_region 1 with (fail)
        generalize w.alloc (.cells ⟨[.int .i64 6,.int .i64 n,.float .f64 f,.string s,.slice NA ns.length nc,.slice A its.length c]⟩ 26)= W at*
        have d0:W.cell? ⟨w.heap.size,0,none⟩= some (.int .i64 6):=by have:=HRG.out 0 _ rfl;simpa using this
        have d1:W.cell? ⟨w.heap.size,1,none⟩= some (.int .i64 n):=by have:=HRG.out 1 _ rfl;simpa using this
        have d3:W.cell? ⟨w.heap.size,3,none⟩= some (.string s):=by have:=HRG.out 3 _ rfl;simpa using this
        have d4:W.cell? ⟨w.heap.size,4,none⟩= some (.slice NA ns.length nc):=by have:=HRG.out 4 _ rfl;simpa using this
        have d5:W.cell? ⟨w.heap.size,5,none⟩= some (.slice A its.length c):=by have:=HRG.out 5 _ rfl;simpa using this
        go_wp2_with (first|((with_reducible refine z8 26 _ rfl ?hwa w.heap.size 0 [.int .i64 6,.int .i64 n,.float .f64 f,.string s,.slice NA ns.length nc,.slice A its.length c] _ rfl HRG.out Tryz.underlying26 rfl ?hia ?_);(case hwa=>(exact wantA rfl));(case hia=>kernel_rfl))|(go_at_call 86;refine(HZ.out _ _ _ _ _ _).mono ?_;rintro e z ⟨rfl,hbz⟩;have HB2:=hid hbz;have d0':=(hbz.cell (p:=⟨w.heap.size,0,none⟩) HSZ.out).trans d0;have d1':=(hbz.cell (p:=⟨w.heap.size,1,none⟩) HSZ.out).trans d1;have d3':=(hbz.cell (p:=⟨w.heap.size,3,none⟩) HSZ.out).trans d3;have d4':=(hbz.cell (p:=⟨w.heap.size,4,none⟩) HSZ.out).trans d4;have d5':=(hbz.cell (p:=⟨w.heap.size,5,none⟩) HSZ.out).trans d5;clear hbz))
        go_ret
        exact⟨z7 HR.out.symm,HW.out.trans (HB2.out.mono HW.out.size)⟩
      ·have t2:(n ==0)= false:=by simpa using hn
       have t2':(n !=0)= true:=by simpa using hn
       have HR:Hid (res= false):=hid (by rw[HV.out];unfold bareB;simp[hz,t2])
       (try clear hi0);(try clear hm0);(try clear hn);(try clear hn1);(try clear hl)
       go_enter Tryz.func48,Tryz.ntmps48
       go_upto_region 1 with (fail)
       generalize w.alloc (.cells ⟨[.int .i64 6,.int .i64 n,.float .f64 f,.string s,.slice NA ns.length nc,.slice A its.length c]⟩ 26)= W at*
       have d0:W.cell? ⟨w.heap.size,0,none⟩= some (.int .i64 6):=by have:=HRG.out 0 _ rfl;simpa using this
       have d1:W.cell? ⟨w.heap.size,1,none⟩= some (.int .i64 n):=by have:=HRG.out 1 _ rfl;simpa using this
       have d3:W.cell? ⟨w.heap.size,3,none⟩= some (.string s):=by have:=HRG.out 3 _ rfl;simpa using this
       have d4:W.cell? ⟨w.heap.size,4,none⟩= some (.slice NA ns.length nc):=by have:=HRG.out 4 _ rfl;simpa using this
       have d5:W.cell? ⟨w.heap.size,5,none⟩= some (.slice A its.length c):=by have:=HRG.out 5 _ rfl;simpa using this
       go_wp2_with (first|((with_reducible refine z8 26 _ rfl ?hwa w.heap.size 0 [.int .i64 6,.int .i64 n,.float .f64 f,.string s,.slice NA ns.length nc,.slice A its.length c] _ rfl HRG.out Tryz.underlying26 rfl ?hia ?_);(case hwa=>(exact wantA rfl));(case hia=>kernel_rfl))|(go_at_call 86;refine(HZ.out _ _ _ _ _ _).mono ?_;rintro e z ⟨rfl,hbz⟩;have HB2:=hid hbz;have d0':=(hbz.cell (p:=⟨w.heap.size,0,none⟩) HSZ.out).trans d0;have d1':=(hbz.cell (p:=⟨w.heap.size,1,none⟩) HSZ.out).trans d1;have d3':=(hbz.cell (p:=⟨w.heap.size,3,none⟩) HSZ.out).trans d3;have d4':=(hbz.cell (p:=⟨w.heap.size,4,none⟩) HSZ.out).trans d4;have d5':=(hbz.cell (p:=⟨w.heap.size,5,none⟩) HSZ.out).trans d5;clear hbz))
       go_ret
       exact⟨z7 HR.out.symm,HW.out.trans (HB2.out.mono HW.out.size)⟩
     |false=>
      rw[hz] at HZ
      have HR:Hid (res= false):=hid (by rw[HV.out];unfold bareB;simp[hz])
      (try clear hi0);(try clear hm0);(try clear hn);(try clear hn1);(try clear hl)
      go_enter Tryz.func48,Tryz.ntmps48
      go_upto_region 1 with (fail)
      generalize w.alloc (.cells ⟨[.int .i64 6,.int .i64 n,.float .f64 f,.string s,.slice NA ns.length nc,.slice A its.length c]⟩ 26)= W at*
      have d0:W.cell? ⟨w.heap.size,0,none⟩= some (.int .i64 6):=by have:=HRG.out 0 _ rfl;simpa using this
      have d1:W.cell? ⟨w.heap.size,1,none⟩= some (.int .i64 n):=by have:=HRG.out 1 _ rfl;simpa using this
      have d3:W.cell? ⟨w.heap.size,3,none⟩= some (.string s):=by have:=HRG.out 3 _ rfl;simpa using this
      have d4:W.cell? ⟨w.heap.size,4,none⟩= some (.slice NA ns.length nc):=by have:=HRG.out 4 _ rfl;simpa using this
      have d5:W.cell? ⟨w.heap.size,5,none⟩= some (.slice A its.length c):=by have:=HRG.out 5 _ rfl;simpa using this
      go_wp2_with (first|((with_reducible refine z8 26 _ rfl ?hwa w.heap.size 0 [.int .i64 6,.int .i64 n,.float .f64 f,.string s,.slice NA ns.length nc,.slice A its.length c] _ rfl HRG.out Tryz.underlying26 rfl ?hia ?_);(case hwa=>(exact wantA rfl));(case hia=>kernel_rfl))|(go_at_call 86;refine(HZ.out _ _ _ _ _ _).mono ?_;rintro e z ⟨rfl,hbz⟩;have HB2:=hid hbz;have d0':=(hbz.cell (p:=⟨w.heap.size,0,none⟩) HSZ.out).trans d0;have d1':=(hbz.cell (p:=⟨w.heap.size,1,none⟩) HSZ.out).trans d1;have d3':=(hbz.cell (p:=⟨w.heap.size,3,none⟩) HSZ.out).trans d3;have d4':=(hbz.cell (p:=⟨w.heap.size,4,none⟩) HSZ.out).trans d4;have d5':=(hbz.cell (p:=⟨w.heap.size,5,none⟩) HSZ.out).trans d5;clear hbz))
      go_ret
      exact⟨z7 HR.out.symm,HW.out.trans (HB2.out.mono HW.out.size)⟩
    ·have m1:((ns.length:Int) ==0)= false:=by rw[beq_eq_false_iff_ne];omega
     have m1':(ns.length ==0)= false:=by simpa using hm0
     have HZ:=hid (fun k n s vn vi z=>z07 k n f s vn vi HF.out z)
     cases hz:(cmpF f 0 ==0) with
     |true=>
      rw[hz] at HZ
      by_cases hn:n= 0
      ·have t2:(n ==0)= true:=by simpa using hn
       have t2':(n !=0)= false:=by rw[hn];rfl
       by_cases hs:s.toList=[]
       ·have t3:s.toList.isEmpty= true:=by rw[hs];rfl
        have HNS:=hid (fun z (hz:Below w.heap.size w z)=>z2X (.slice NA ns.length nc) ns its.length z ((HN.out.below hz fun _ _ _ h=>h).more hz.size))
        cases hnm:(riseB none ns && (ns.length ==its.length)) with
        |true=>
         have hq:=hnm
         rw[Bool.and_eq_true] at hq
         obtain⟨q1,q2⟩:=hq
         rw[hnm] at HNS
         have HR:Hid (res= zA its (d+1)):=hid (by rw[HV.out];unfold bareB;rw[q1,q2];simp[hz,t2,t3,q1,q2])
         clear q1 q2
         (try clear hi0);(try clear hm0);(try clear hn);(try clear hn1);(try clear hl)
         go_enter Tryz.func48,Tryz.ntmps48
         go_upto_region 1 with (fail)
         generalize w.alloc (.cells ⟨[.int .i64 6,.int .i64 n,.float .f64 f,.string s,.slice NA ns.length nc,.slice A its.length c]⟩ 26)= W at*
         have d0:W.cell? ⟨w.heap.size,0,none⟩= some (.int .i64 6):=by have:=HRG.out 0 _ rfl;simpa using this
         have d1:W.cell? ⟨w.heap.size,1,none⟩= some (.int .i64 n):=by have:=HRG.out 1 _ rfl;simpa using this
         have d3:W.cell? ⟨w.heap.size,3,none⟩= some (.string s):=by have:=HRG.out 3 _ rfl;simpa using this
         have d4:W.cell? ⟨w.heap.size,4,none⟩= some (.slice NA ns.length nc):=by have:=HRG.out 4 _ rfl;simpa using this
         have d5:W.cell? ⟨w.heap.size,5,none⟩= some (.slice A its.length c):=by have:=HRG.out 5 _ rfl;simpa using this
         have D5:=hid d5
         go_wp2_with (first|((with_reducible refine z8 26 _ rfl ?hwa w.heap.size 0 [.int .i64 6,.int .i64 n,.float .f64 f,.string s,.slice NA ns.length nc,.slice A its.length c] _ rfl HRG.out Tryz.underlying26 rfl ?hia ?_);(case hwa=>(exact wantA rfl));(case hia=>kernel_rfl))|(go_at_call 86;refine(HZ.out _ _ _ _ _ _).mono ?_;rintro e z ⟨rfl,hbz⟩;have HB2:=hid hbz;have d0':=(hbz.cell (p:=⟨w.heap.size,0,none⟩) HSZ.out).trans d0;have d1':=(hbz.cell (p:=⟨w.heap.size,1,none⟩) HSZ.out).trans d1;have d3':=(hbz.cell (p:=⟨w.heap.size,3,none⟩) HSZ.out).trans d3;have d4':=(hbz.cell (p:=⟨w.heap.size,4,none⟩) HSZ.out).trans d4;have d5':=(hbz.cell (p:=⟨w.heap.size,5,none⟩) HSZ.out).trans d5;have HBN:=HW.out.trans (hbz.mono HW.out.size);clear hbz)|(go_at_call 87;refine(HNS.out _ HBN).mono ?_;rintro e z2 ⟨rfl,hbz⟩;have HB4:=hid (HB2.out.trans (hbz.mono HB2.out.size));clear hbz))
         go_loopg [6] its.length (fun q x u=>∃ j:Nat,j+q= its.length∧x= .int .i64 j∧Below W.heap.size W u∧zA (its.drop j) (d+1)= res)
         case atStart=>exact⟨0,by omega,rfl,HB4.out,HR.out.symm⟩
         case round=>
          obtain⟨j,hj,rfl,hb,hres⟩:=hrel
          have HR2:=hid hres
          have HBK:=hid hb
          have d5':=(hb.cell (p:=⟨w.heap.size,5,none⟩) HSZ.out).trans D5.out
          clear hres hb
          cases gk with
          |zero=>
           obtain rfl:j= its.length:=by omega
           have hge: ¬ ((its.length:Int) <(its.length:Int)):=by omega
           have HVE:=hid (HR2.out.symm.trans z0H)
           go_wp2
           go_ret
           exact⟨z7 HVE.out.symm,HW.out.trans (HBK.out.mono HW.out.size)⟩
          |succ q=>
           have hlt:(j:Int) <(its.length:Int):=by omega
           obtain⟨x,hx⟩:∃ x,its[j]?= some x:=⟨_,List.getElem?_eq_getElem (by omega)⟩
           obtain⟨b,o',rfl,hbl,hc⟩:=HA.out (by omega)
           obtain⟨ks,hks,hvx⟩:=hc j x hx
           have HVS:=hid (HR2.out.symm.trans (z0z hx))
           have HBT:=hid (HW.out.trans (HBK.out.mono HW.out.size))
           have HKS:=hid (zd hks HBT.out hbl)
           have HKL:=hid (zi hvx)
           have HC:=hid (IH.out x (List.mem_of_getElem? hx) (far - 1) (d+1) ks wr (by omega) (hvx.next HBT.out))
           have hd1:((far - 1:Nat):Int)=(far:Int) - 1:=by omega
           rw[hd1] at HC
           clear hc hks hvx hx hd1
           generalize zo x (d+1)= rx at*
           cases rx with
           |true=>
            have HV2:=hid (HVS.out.trans (Bool.true_and _))
            clear HVS
            go_wp2_with (first|((with_reducible refine z8 26 _ rfl ?hwa b (o'+j*6) ks _ rfl HKS.out Tryz.underlying26 rfl ?hia ?_);(case hwa=>(exact wantA rfl));(case hia=>rw[HKL.out.1];kernel_rfl))|(go_at_call 48;refine HC.out.mono ?_;rintro e z ⟨rfl,hbz⟩;have HB3:=hid hbz;clear hbz))
            go_roundg q
            case measure=>omega
            case rel=>exact⟨j+1,by omega,by go_num,HBK.out.trans (HB3.out.mono HBK.out.size),HV2.out.symm⟩
           |false=>
            have HV2:Hid (res= false):=hid (HVS.out.trans (Bool.false_and _))
            clear HVS
            go_wp2_with (first|((with_reducible refine z8 26 _ rfl ?hwa b (o'+j*6) ks _ rfl HKS.out Tryz.underlying26 rfl ?hia ?_);(case hwa=>(exact wantA rfl));(case hia=>rw[HKL.out.1];kernel_rfl))|(go_at_call 48;refine HC.out.mono ?_;rintro e z ⟨rfl,hbz⟩;have HB3:=hid hbz;clear hbz))
            go_ret
            exact⟨z7 HV2.out.symm,HBT.out.trans (HB3.out.mono HBT.out.size)⟩
        |false=>
         rw[hnm] at HNS
         have HR:Hid (res= false):=hid (by
          rw[HV.out]
          cases h1:riseB none ns with
          |false=>simp
          |true=>rw[h1,Bool.true_and] at hnm;rw[hnm];simp)
         (try clear hi0);(try clear hm0);(try clear hn);(try clear hn1);(try clear hl)
         go_enter Tryz.func48,Tryz.ntmps48
         go_upto_region 1 with (fail)
         generalize w.alloc (.cells ⟨[.int .i64 6,.int .i64 n,.float .f64 f,.string s,.slice NA ns.length nc,.slice A its.length c]⟩ 26)= W at*
         have d0:W.cell? ⟨w.heap.size,0,none⟩= some (.int .i64 6):=by have:=HRG.out 0 _ rfl;simpa using this
         have d1:W.cell? ⟨w.heap.size,1,none⟩= some (.int .i64 n):=by have:=HRG.out 1 _ rfl;simpa using this
         have d3:W.cell? ⟨w.heap.size,3,none⟩= some (.string s):=by have:=HRG.out 3 _ rfl;simpa using this
         have d4:W.cell? ⟨w.heap.size,4,none⟩= some (.slice NA ns.length nc):=by have:=HRG.out 4 _ rfl;simpa using this
         have d5:W.cell? ⟨w.heap.size,5,none⟩= some (.slice A its.length c):=by have:=HRG.out 5 _ rfl;simpa using this
         go_wp2_with (first|((with_reducible refine z8 26 _ rfl ?hwa w.heap.size 0 [.int .i64 6,.int .i64 n,.float .f64 f,.string s,.slice NA ns.length nc,.slice A its.length c] _ rfl HRG.out Tryz.underlying26 rfl ?hia ?_);(case hwa=>(exact wantA rfl));(case hia=>kernel_rfl))|(go_at_call 86;refine(HZ.out _ _ _ _ _ _).mono ?_;rintro e z ⟨rfl,hbz⟩;have HB2:=hid hbz;have d0':=(hbz.cell (p:=⟨w.heap.size,0,none⟩) HSZ.out).trans d0;have d1':=(hbz.cell (p:=⟨w.heap.size,1,none⟩) HSZ.out).trans d1;have d3':=(hbz.cell (p:=⟨w.heap.size,3,none⟩) HSZ.out).trans d3;have d4':=(hbz.cell (p:=⟨w.heap.size,4,none⟩) HSZ.out).trans d4;have d5':=(hbz.cell (p:=⟨w.heap.size,5,none⟩) HSZ.out).trans d5;have HBN:=HW.out.trans (hbz.mono HW.out.size);clear hbz)|(go_at_call 87;refine(HNS.out _ HBN).mono ?_;rintro e z2 ⟨rfl,hbz⟩;have HB4:=hid (HB2.out.trans (hbz.mono HB2.out.size));clear hbz))
         go_ret
         exact⟨z7 HR.out.symm,HW.out.trans (HB4.out.mono HW.out.size)⟩
       ·have t3:s.toList.isEmpty= false:=by rw[Bool.eq_false_iff];intro h;exact hs (List.isEmpty_iff.1 h)
        have HR:Hid (res= false):=hid (by rw[HV.out];unfold bareB;simp[hz,t2,t3])
        (try clear hi0);(try clear hm0);(try clear hn);(try clear hn1);(try clear hl)
        go_enter Tryz.func48,Tryz.ntmps48
        go_upto_region 1 with (fail)
        generalize w.alloc (.cells ⟨[.int .i64 6,.int .i64 n,.float .f64 f,.string s,.slice NA ns.length nc,.slice A its.length c]⟩ 26)= W at*
        have d0:W.cell? ⟨w.heap.size,0,none⟩= some (.int .i64 6):=by have:=HRG.out 0 _ rfl;simpa using this
        have d1:W.cell? ⟨w.heap.size,1,none⟩= some (.int .i64 n):=by have:=HRG.out 1 _ rfl;simpa using this
        have d3:W.cell? ⟨w.heap.size,3,none⟩= some (.string s):=by have:=HRG.out 3 _ rfl;simpa using this
        have d4:W.cell? ⟨w.heap.size,4,none⟩= some (.slice NA ns.length nc):=by have:=HRG.out 4 _ rfl;simpa using this
        have d5:W.cell? ⟨w.heap.size,5,none⟩= some (.slice A its.length c):=by have:=HRG.out 5 _ rfl;simpa using this
        go_wp2_with (first|((with_reducible refine z8 26 _ rfl ?hwa w.heap.size 0 [.int .i64 6,.int .i64 n,.float .f64 f,.string s,.slice NA ns.length nc,.slice A its.length c] _ rfl HRG.out Tryz.underlying26 rfl ?hia ?_);(case hwa=>(exact wantA rfl));(case hia=>kernel_rfl))|(go_at_call 86;refine(HZ.out _ _ _ _ _ _).mono ?_;rintro e z ⟨rfl,hbz⟩;have HB2:=hid hbz;have d0':=(hbz.cell (p:=⟨w.heap.size,0,none⟩) HSZ.out).trans d0;have d1':=(hbz.cell (p:=⟨w.heap.size,1,none⟩) HSZ.out).trans d1;have d3':=(hbz.cell (p:=⟨w.heap.size,3,none⟩) HSZ.out).trans d3;have d4':=(hbz.cell (p:=⟨w.heap.size,4,none⟩) HSZ.out).trans d4;have d5':=(hbz.cell (p:=⟨w.heap.size,5,none⟩) HSZ.out).trans d5;clear hbz))
        go_ret
        exact⟨z7 HR.out.symm,HW.out.trans (HB2.out.mono HW.out.size)⟩
      ·have t2:(n ==0)= false:=by simpa using hn
       have t2':(n !=0)= true:=by simpa using hn
       have HR:Hid (res= false):=hid (by rw[HV.out];unfold bareB;simp[hz,t2])
       (try clear hi0);(try clear hm0);(try clear hn);(try clear hn1);(try clear hl)
       go_enter Tryz.func48,Tryz.ntmps48
       go_upto_region 1 with (fail)
       generalize w.alloc (.cells ⟨[.int .i64 6,.int .i64 n,.float .f64 f,.string s,.slice NA ns.length nc,.slice A its.length c]⟩ 26)= W at*
       have d0:W.cell? ⟨w.heap.size,0,none⟩= some (.int .i64 6):=by have:=HRG.out 0 _ rfl;simpa using this
       have d1:W.cell? ⟨w.heap.size,1,none⟩= some (.int .i64 n):=by have:=HRG.out 1 _ rfl;simpa using this
       have d3:W.cell? ⟨w.heap.size,3,none⟩= some (.string s):=by have:=HRG.out 3 _ rfl;simpa using this
       have d4:W.cell? ⟨w.heap.size,4,none⟩= some (.slice NA ns.length nc):=by have:=HRG.out 4 _ rfl;simpa using this
       have d5:W.cell? ⟨w.heap.size,5,none⟩= some (.slice A its.length c):=by have:=HRG.out 5 _ rfl;simpa using this
       go_wp2_with (first|((with_reducible refine z8 26 _ rfl ?hwa w.heap.size 0 [.int .i64 6,.int .i64 n,.float .f64 f,.string s,.slice NA ns.length nc,.slice A its.length c] _ rfl HRG.out Tryz.underlying26 rfl ?hia ?_);(case hwa=>(exact wantA rfl));(case hia=>kernel_rfl))|(go_at_call 86;refine(HZ.out _ _ _ _ _ _).mono ?_;rintro e z ⟨rfl,hbz⟩;have HB2:=hid hbz;have d0':=(hbz.cell (p:=⟨w.heap.size,0,none⟩) HSZ.out).trans d0;have d1':=(hbz.cell (p:=⟨w.heap.size,1,none⟩) HSZ.out).trans d1;have d3':=(hbz.cell (p:=⟨w.heap.size,3,none⟩) HSZ.out).trans d3;have d4':=(hbz.cell (p:=⟨w.heap.size,4,none⟩) HSZ.out).trans d4;have d5':=(hbz.cell (p:=⟨w.heap.size,5,none⟩) HSZ.out).trans d5;clear hbz))
       go_ret
       exact⟨z7 HR.out.symm,HW.out.trans (HB2.out.mono HW.out.size)⟩
     |false=>
      rw[hz] at HZ
      have HR:Hid (res= false):=hid (by rw[HV.out];unfold bareB;simp[hz])
      (try clear hi0);(try clear hm0);(try clear hn);(try clear hn1);(try clear hl)
      go_enter Tryz.func48,Tryz.ntmps48
      go_upto_region 1 with (fail)
      generalize w.alloc (.cells ⟨[.int .i64 6,.int .i64 n,.float .f64 f,.string s,.slice NA ns.length nc,.slice A its.length c]⟩ 26)= W at*
      have d0:W.cell? ⟨w.heap.size,0,none⟩= some (.int .i64 6):=by have:=HRG.out 0 _ rfl;simpa using this
      have d1:W.cell? ⟨w.heap.size,1,none⟩= some (.int .i64 n):=by have:=HRG.out 1 _ rfl;simpa using this
      have d3:W.cell? ⟨w.heap.size,3,none⟩= some (.string s):=by have:=HRG.out 3 _ rfl;simpa using this
      have d4:W.cell? ⟨w.heap.size,4,none⟩= some (.slice NA ns.length nc):=by have:=HRG.out 4 _ rfl;simpa using this
      have d5:W.cell? ⟨w.heap.size,5,none⟩= some (.slice A its.length c):=by have:=HRG.out 5 _ rfl;simpa using this
      go_wp2_with (first|((with_reducible refine z8 26 _ rfl ?hwa w.heap.size 0 [.int .i64 6,.int .i64 n,.float .f64 f,.string s,.slice NA ns.length nc,.slice A its.length c] _ rfl HRG.out Tryz.underlying26 rfl ?hia ?_);(case hwa=>(exact wantA rfl));(case hia=>kernel_rfl))|(go_at_call 86;refine(HZ.out _ _ _ _ _ _).mono ?_;rintro e z ⟨rfl,hbz⟩;have HB2:=hid hbz;have d0':=(hbz.cell (p:=⟨w.heap.size,0,none⟩) HSZ.out).trans d0;have d1':=(hbz.cell (p:=⟨w.heap.size,1,none⟩) HSZ.out).trans d1;have d3':=(hbz.cell (p:=⟨w.heap.size,3,none⟩) HSZ.out).trans d3;have d4':=(hbz.cell (p:=⟨w.heap.size,4,none⟩) HSZ.out).trans d4;have d5':=(hbz.cell (p:=⟨w.heap.size,5,none⟩) HSZ.out).trans d5;clear hbz))
      go_ret
      exact⟨z7 HR.out.symm,HW.out.trans (HB2.out.mono HW.out.size)⟩
   ·have i1:((its.length:Int) ==0)= false:=by rw[beq_eq_false_iff_ne];omega
    have i1':(its.length ==0)= false:=by simpa using hi0
    have HZ:=hid (fun k n s vn vi z=>z07 k n f s vn vi HF.out z)
    cases hz:(cmpF f 0 ==0) with
    |true=>
     rw[hz] at HZ
     by_cases hn:n= 0
     ·have t2:(n ==0)= true:=by simpa using hn
      have t2':(n !=0)= false:=by rw[hn];rfl
      by_cases hs:s.toList=[]
      ·have t3:s.toList.isEmpty= true:=by rw[hs];rfl
       have HNS:=hid (fun z (hz:Below w.heap.size w z)=>z2X (.slice NA ns.length nc) ns its.length z ((HN.out.below hz fun _ _ _ h=>h).more hz.size))
       cases hnm:(riseB none ns && (ns.length ==its.length)) with
       |true=>
        have hq:=hnm
        rw[Bool.and_eq_true] at hq
        obtain⟨q1,q2⟩:=hq
        rw[hnm] at HNS
        have HR:Hid (res= zA its (d+1)):=hid (by rw[HV.out];unfold bareB;rw[q1,q2];simp[hz,t2,t3,q1,q2])
        clear q1 q2
        (try clear hi0);(try clear hm0);(try clear hn);(try clear hn1);(try clear hl)
        go_enter Tryz.func48,Tryz.ntmps48
        go_upto_region 1 with (fail)
        generalize w.alloc (.cells ⟨[.int .i64 6,.int .i64 n,.float .f64 f,.string s,.slice NA ns.length nc,.slice A its.length c]⟩ 26)= W at*
        have d0:W.cell? ⟨w.heap.size,0,none⟩= some (.int .i64 6):=by have:=HRG.out 0 _ rfl;simpa using this
        have d1:W.cell? ⟨w.heap.size,1,none⟩= some (.int .i64 n):=by have:=HRG.out 1 _ rfl;simpa using this
        have d3:W.cell? ⟨w.heap.size,3,none⟩= some (.string s):=by have:=HRG.out 3 _ rfl;simpa using this
        have d4:W.cell? ⟨w.heap.size,4,none⟩= some (.slice NA ns.length nc):=by have:=HRG.out 4 _ rfl;simpa using this
        have d5:W.cell? ⟨w.heap.size,5,none⟩= some (.slice A its.length c):=by have:=HRG.out 5 _ rfl;simpa using this
        have D5:=hid d5
        go_wp2_with (first|((with_reducible refine z8 26 _ rfl ?hwa w.heap.size 0 [.int .i64 6,.int .i64 n,.float .f64 f,.string s,.slice NA ns.length nc,.slice A its.length c] _ rfl HRG.out Tryz.underlying26 rfl ?hia ?_);(case hwa=>(exact wantA rfl));(case hia=>kernel_rfl))|(go_at_call 86;refine(HZ.out _ _ _ _ _ _).mono ?_;rintro e z ⟨rfl,hbz⟩;have HB2:=hid hbz;have d0':=(hbz.cell (p:=⟨w.heap.size,0,none⟩) HSZ.out).trans d0;have d1':=(hbz.cell (p:=⟨w.heap.size,1,none⟩) HSZ.out).trans d1;have d3':=(hbz.cell (p:=⟨w.heap.size,3,none⟩) HSZ.out).trans d3;have d4':=(hbz.cell (p:=⟨w.heap.size,4,none⟩) HSZ.out).trans d4;have d5':=(hbz.cell (p:=⟨w.heap.size,5,none⟩) HSZ.out).trans d5;have HBN:=HW.out.trans (hbz.mono HW.out.size);clear hbz)|(go_at_call 87;refine(HNS.out _ HBN).mono ?_;rintro e z2 ⟨rfl,hbz⟩;have HB4:=hid (HB2.out.trans (hbz.mono HB2.out.size));clear hbz))
        go_loopg [6] its.length (fun q x u=>∃ j:Nat,j+q= its.length∧x= .int .i64 j∧Below W.heap.size W u∧zA (its.drop j) (d+1)= res)
        case atStart=>exact⟨0,by omega,rfl,HB4.out,HR.out.symm⟩
        case round=>
         obtain⟨j,hj,rfl,hb,hres⟩:=hrel
         have HR2:=hid hres
         have HBK:=hid hb
         have d5':=(hb.cell (p:=⟨w.heap.size,5,none⟩) HSZ.out).trans D5.out
         clear hres hb
         cases gk with
         |zero=>
          obtain rfl:j= its.length:=by omega
          have hge: ¬ ((its.length:Int) <(its.length:Int)):=by omega
          have HVE:=hid (HR2.out.symm.trans z0H)
          go_wp2
          go_ret
          exact⟨z7 HVE.out.symm,HW.out.trans (HBK.out.mono HW.out.size)⟩
         |succ q=>
          have hlt:(j:Int) <(its.length:Int):=by omega
          obtain⟨x,hx⟩:∃ x,its[j]?= some x:=⟨_,List.getElem?_eq_getElem (by omega)⟩
          obtain⟨b,o',rfl,hbl,hc⟩:=HA.out (by omega)
          obtain⟨ks,hks,hvx⟩:=hc j x hx
          have HVS:=hid (HR2.out.symm.trans (z0z hx))
          have HBT:=hid (HW.out.trans (HBK.out.mono HW.out.size))
          have HKS:=hid (zd hks HBT.out hbl)
          have HKL:=hid (zi hvx)
          have HC:=hid (IH.out x (List.mem_of_getElem? hx) (far - 1) (d+1) ks wr (by omega) (hvx.next HBT.out))
          have hd1:((far - 1:Nat):Int)=(far:Int) - 1:=by omega
          rw[hd1] at HC
          clear hc hks hvx hx hd1
          generalize zo x (d+1)= rx at*
          cases rx with
          |true=>
           have HV2:=hid (HVS.out.trans (Bool.true_and _))
           clear HVS
           go_wp2_with (first|((with_reducible refine z8 26 _ rfl ?hwa b (o'+j*6) ks _ rfl HKS.out Tryz.underlying26 rfl ?hia ?_);(case hwa=>(exact wantA rfl));(case hia=>rw[HKL.out.1];kernel_rfl))|(go_at_call 48;refine HC.out.mono ?_;rintro e z ⟨rfl,hbz⟩;have HB3:=hid hbz;clear hbz))
           go_roundg q
           case measure=>omega
           case rel=>exact⟨j+1,by omega,by go_num,HBK.out.trans (HB3.out.mono HBK.out.size),HV2.out.symm⟩
          |false=>
           have HV2:Hid (res= false):=hid (HVS.out.trans (Bool.false_and _))
           clear HVS
           go_wp2_with (first|((with_reducible refine z8 26 _ rfl ?hwa b (o'+j*6) ks _ rfl HKS.out Tryz.underlying26 rfl ?hia ?_);(case hwa=>(exact wantA rfl));(case hia=>rw[HKL.out.1];kernel_rfl))|(go_at_call 48;refine HC.out.mono ?_;rintro e z ⟨rfl,hbz⟩;have HB3:=hid hbz;clear hbz))
           go_ret
           exact⟨z7 HV2.out.symm,HBT.out.trans (HB3.out.mono HBT.out.size)⟩
       |false=>
        rw[hnm] at HNS
        have HR:Hid (res= false):=hid (by
         rw[HV.out]
         cases h1:riseB none ns with
         |false=>simp
         |true=>rw[h1,Bool.true_and] at hnm;rw[hnm];simp)
        (try clear hi0);(try clear hm0);(try clear hn);(try clear hn1);(try clear hl)
        go_enter Tryz.func48,Tryz.ntmps48
        go_upto_region 1 with (fail)
        generalize w.alloc (.cells ⟨[.int .i64 6,.int .i64 n,.float .f64 f,.string s,.slice NA ns.length nc,.slice A its.length c]⟩ 26)= W at*
        have d0:W.cell? ⟨w.heap.size,0,none⟩= some (.int .i64 6):=by have:=HRG.out 0 _ rfl;simpa using this
        have d1:W.cell? ⟨w.heap.size,1,none⟩= some (.int .i64 n):=by have:=HRG.out 1 _ rfl;simpa using this
        have d3:W.cell? ⟨w.heap.size,3,none⟩= some (.string s):=by have:=HRG.out 3 _ rfl;simpa using this
        have d4:W.cell? ⟨w.heap.size,4,none⟩= some (.slice NA ns.length nc):=by have:=HRG.out 4 _ rfl;simpa using this
        have d5:W.cell? ⟨w.heap.size,5,none⟩= some (.slice A its.length c):=by have:=HRG.out 5 _ rfl;simpa using this
        go_wp2_with (first|((with_reducible refine z8 26 _ rfl ?hwa w.heap.size 0 [.int .i64 6,.int .i64 n,.float .f64 f,.string s,.slice NA ns.length nc,.slice A its.length c] _ rfl HRG.out Tryz.underlying26 rfl ?hia ?_);(case hwa=>(exact wantA rfl));(case hia=>kernel_rfl))|(go_at_call 86;refine(HZ.out _ _ _ _ _ _).mono ?_;rintro e z ⟨rfl,hbz⟩;have HB2:=hid hbz;have d0':=(hbz.cell (p:=⟨w.heap.size,0,none⟩) HSZ.out).trans d0;have d1':=(hbz.cell (p:=⟨w.heap.size,1,none⟩) HSZ.out).trans d1;have d3':=(hbz.cell (p:=⟨w.heap.size,3,none⟩) HSZ.out).trans d3;have d4':=(hbz.cell (p:=⟨w.heap.size,4,none⟩) HSZ.out).trans d4;have d5':=(hbz.cell (p:=⟨w.heap.size,5,none⟩) HSZ.out).trans d5;have HBN:=HW.out.trans (hbz.mono HW.out.size);clear hbz)|(go_at_call 87;refine(HNS.out _ HBN).mono ?_;rintro e z2 ⟨rfl,hbz⟩;have HB4:=hid (HB2.out.trans (hbz.mono HB2.out.size));clear hbz))
        go_ret
        exact⟨z7 HR.out.symm,HW.out.trans (HB4.out.mono HW.out.size)⟩
      ·have t3:s.toList.isEmpty= false:=by rw[Bool.eq_false_iff];intro h;exact hs (List.isEmpty_iff.1 h)
       have HR:Hid (res= false):=hid (by rw[HV.out];unfold bareB;simp[hz,t2,t3])
       (try clear hi0);(try clear hm0);(try clear hn);(try clear hn1);(try clear hl)
       go_enter Tryz.func48,Tryz.ntmps48
       go_upto_region 1 with (fail)
       generalize w.alloc (.cells ⟨[.int .i64 6,.int .i64 n,.float .f64 f,.string s,.slice NA ns.length nc,.slice A its.length c]⟩ 26)= W at*
       have d0:W.cell? ⟨w.heap.size,0,none⟩= some (.int .i64 6):=by have:=HRG.out 0 _ rfl;simpa using this
       have d1:W.cell? ⟨w.heap.size,1,none⟩= some (.int .i64 n):=by have:=HRG.out 1 _ rfl;simpa using this
       have d3:W.cell? ⟨w.heap.size,3,none⟩= some (.string s):=by have:=HRG.out 3 _ rfl;simpa using this
       have d4:W.cell? ⟨w.heap.size,4,none⟩= some (.slice NA ns.length nc):=by have:=HRG.out 4 _ rfl;simpa using this
       have d5:W.cell? ⟨w.heap.size,5,none⟩= some (.slice A its.length c):=by have:=HRG.out 5 _ rfl;simpa using this
       go_wp2_with (first|((with_reducible refine z8 26 _ rfl ?hwa w.heap.size 0 [.int .i64 6,.int .i64 n,.float .f64 f,.string s,.slice NA ns.length nc,.slice A its.length c] _ rfl HRG.out Tryz.underlying26 rfl ?hia ?_);(case hwa=>(exact wantA rfl));(case hia=>kernel_rfl))|(go_at_call 86;refine(HZ.out _ _ _ _ _ _).mono ?_;rintro e z ⟨rfl,hbz⟩;have HB2:=hid hbz;have d0':=(hbz.cell (p:=⟨w.heap.size,0,none⟩) HSZ.out).trans d0;have d1':=(hbz.cell (p:=⟨w.heap.size,1,none⟩) HSZ.out).trans d1;have d3':=(hbz.cell (p:=⟨w.heap.size,3,none⟩) HSZ.out).trans d3;have d4':=(hbz.cell (p:=⟨w.heap.size,4,none⟩) HSZ.out).trans d4;have d5':=(hbz.cell (p:=⟨w.heap.size,5,none⟩) HSZ.out).trans d5;clear hbz))
       go_ret
       exact⟨z7 HR.out.symm,HW.out.trans (HB2.out.mono HW.out.size)⟩
     ·have t2:(n ==0)= false:=by simpa using hn
      have t2':(n !=0)= true:=by simpa using hn
      have HR:Hid (res= false):=hid (by rw[HV.out];unfold bareB;simp[hz,t2])
      (try clear hi0);(try clear hm0);(try clear hn);(try clear hn1);(try clear hl)
      go_enter Tryz.func48,Tryz.ntmps48
      go_upto_region 1 with (fail)
      generalize w.alloc (.cells ⟨[.int .i64 6,.int .i64 n,.float .f64 f,.string s,.slice NA ns.length nc,.slice A its.length c]⟩ 26)= W at*
      have d0:W.cell? ⟨w.heap.size,0,none⟩= some (.int .i64 6):=by have:=HRG.out 0 _ rfl;simpa using this
      have d1:W.cell? ⟨w.heap.size,1,none⟩= some (.int .i64 n):=by have:=HRG.out 1 _ rfl;simpa using this
      have d3:W.cell? ⟨w.heap.size,3,none⟩= some (.string s):=by have:=HRG.out 3 _ rfl;simpa using this
      have d4:W.cell? ⟨w.heap.size,4,none⟩= some (.slice NA ns.length nc):=by have:=HRG.out 4 _ rfl;simpa using this
      have d5:W.cell? ⟨w.heap.size,5,none⟩= some (.slice A its.length c):=by have:=HRG.out 5 _ rfl;simpa using this
      go_wp2_with (first|((with_reducible refine z8 26 _ rfl ?hwa w.heap.size 0 [.int .i64 6,.int .i64 n,.float .f64 f,.string s,.slice NA ns.length nc,.slice A its.length c] _ rfl HRG.out Tryz.underlying26 rfl ?hia ?_);(case hwa=>(exact wantA rfl));(case hia=>kernel_rfl))|(go_at_call 86;refine(HZ.out _ _ _ _ _ _).mono ?_;rintro e z ⟨rfl,hbz⟩;have HB2:=hid hbz;have d0':=(hbz.cell (p:=⟨w.heap.size,0,none⟩) HSZ.out).trans d0;have d1':=(hbz.cell (p:=⟨w.heap.size,1,none⟩) HSZ.out).trans d1;have d3':=(hbz.cell (p:=⟨w.heap.size,3,none⟩) HSZ.out).trans d3;have d4':=(hbz.cell (p:=⟨w.heap.size,4,none⟩) HSZ.out).trans d4;have d5':=(hbz.cell (p:=⟨w.heap.size,5,none⟩) HSZ.out).trans d5;clear hbz))
      go_ret
      exact⟨z7 HR.out.symm,HW.out.trans (HB2.out.mono HW.out.size)⟩
    |false=>
     rw[hz] at HZ
     have HR:Hid (res= false):=hid (by rw[HV.out];unfold bareB;simp[hz])
     (try clear hi0);(try clear hm0);(try clear hn);(try clear hn1);(try clear hl)
     go_enter Tryz.func48,Tryz.ntmps48
     go_upto_region 1 with (fail)
     generalize w.alloc (.cells ⟨[.int .i64 6,.int .i64 n,.float .f64 f,.string s,.slice NA ns.length nc,.slice A its.length c]⟩ 26)= W at*
     have d0:W.cell? ⟨w.heap.size,0,none⟩= some (.int .i64 6):=by have:=HRG.out 0 _ rfl;simpa using this
     have d1:W.cell? ⟨w.heap.size,1,none⟩= some (.int .i64 n):=by have:=HRG.out 1 _ rfl;simpa using this
     have d3:W.cell? ⟨w.heap.size,3,none⟩= some (.string s):=by have:=HRG.out 3 _ rfl;simpa using this
     have d4:W.cell? ⟨w.heap.size,4,none⟩= some (.slice NA ns.length nc):=by have:=HRG.out 4 _ rfl;simpa using this
     have d5:W.cell? ⟨w.heap.size,5,none⟩= some (.slice A its.length c):=by have:=HRG.out 5 _ rfl;simpa using this
     go_wp2_with (first|((with_reducible refine z8 26 _ rfl ?hwa w.heap.size 0 [.int .i64 6,.int .i64 n,.float .f64 f,.string s,.slice NA ns.length nc,.slice A its.length c] _ rfl HRG.out Tryz.underlying26 rfl ?hia ?_);(case hwa=>(exact wantA rfl));(case hia=>kernel_rfl))|(go_at_call 86;refine(HZ.out _ _ _ _ _ _).mono ?_;rintro e z ⟨rfl,hbz⟩;have HB2:=hid hbz;have d0':=(hbz.cell (p:=⟨w.heap.size,0,none⟩) HSZ.out).trans d0;have d1':=(hbz.cell (p:=⟨w.heap.size,1,none⟩) HSZ.out).trans d1;have d3':=(hbz.cell (p:=⟨w.heap.size,3,none⟩) HSZ.out).trans d3;have d4':=(hbz.cell (p:=⟨w.heap.size,4,none⟩) HSZ.out).trans d4;have d5':=(hbz.cell (p:=⟨w.heap.size,5,none⟩) HSZ.out).trans d5;clear hbz))
     go_ret
     exact⟨z7 HR.out.symm,HW.out.trans (HB2.out.mono HW.out.size)⟩
  have HO6:=hid (HO5.out.trans (if_neg k6))
  clear HO5
  by_cases k5:k= 5
  ·subst k5
   have HV:=hid (HO6.out.trans (if_pos rfl))
   clear HO6
   by_cases hi0:its.length= 0
   ·have i1:((its.length:Int) ==0)= true:=by rw[hi0];rfl
    have i1':(its.length ==0)= true:=by rw[hi0];rfl
    by_cases hm0:ns.length= 0
    ·have m1:((ns.length:Int) ==0)= true:=by rw[hm0];rfl
     have m1':(ns.length ==0)= true:=by rw[hm0];rfl
     have HZ:=hid (fun k n s vn vi z=>z07 k n f s vn vi HF.out z)
     cases hz:(cmpF f 0 ==0) with
     |true=>
      rw[hz] at HZ
      by_cases hn:n= 0
      ·have t2:(n ==0)= true:=by simpa using hn
       have t2':(n !=0)= false:=by rw[hn];rfl
       by_cases hs:s.toList=[]
       ·have t3:s.toList.isEmpty= true:=by rw[hs];rfl
        have HM0:=hid hm0
        have HR:Hid (res= zA its (d+1)):=hid (by rw[HV.out];unfold bareB;simp[hz,t2,t3,m1'])
        clear m1 m1'
        (try clear hi0);(try clear hm0);(try clear hn);(try clear hn1);(try clear hl)
        go_enter Tryz.func48,Tryz.ntmps48
        go_upto_region 1 with (fail)
        generalize w.alloc (.cells ⟨[.int .i64 5,.int .i64 n,.float .f64 f,.string s,.slice NA ns.length nc,.slice A its.length c]⟩ 26)= W at*
        have d0:W.cell? ⟨w.heap.size,0,none⟩= some (.int .i64 5):=by have:=HRG.out 0 _ rfl;simpa using this
        have d1:W.cell? ⟨w.heap.size,1,none⟩= some (.int .i64 n):=by have:=HRG.out 1 _ rfl;simpa using this
        have d3:W.cell? ⟨w.heap.size,3,none⟩= some (.string s):=by have:=HRG.out 3 _ rfl;simpa using this
        have d4:W.cell? ⟨w.heap.size,4,none⟩= some (.slice NA ns.length nc):=by have:=HRG.out 4 _ rfl;simpa using this
        have d5:W.cell? ⟨w.heap.size,5,none⟩= some (.slice A its.length c):=by have:=HRG.out 5 _ rfl;simpa using this
        have hm0:=HM0.out
        rw[hm0] at d4
        clear hm0
        have D5:=hid d5
        go_wp2_with (first|((with_reducible refine z8 26 _ rfl ?hwa w.heap.size 0 [.int .i64 5,.int .i64 n,.float .f64 f,.string s,.slice NA ns.length nc,.slice A its.length c] _ rfl HRG.out Tryz.underlying26 rfl ?hia ?_);(case hwa=>(exact wantA rfl));(case hia=>kernel_rfl))|(go_at_call 86;refine(HZ.out _ _ _ _ _ _).mono ?_;rintro e z ⟨rfl,hbz⟩;have HB2:=hid hbz;have d0':=(hbz.cell (p:=⟨w.heap.size,0,none⟩) HSZ.out).trans d0;have d1':=(hbz.cell (p:=⟨w.heap.size,1,none⟩) HSZ.out).trans d1;have d3':=(hbz.cell (p:=⟨w.heap.size,3,none⟩) HSZ.out).trans d3;have d4':=(hbz.cell (p:=⟨w.heap.size,4,none⟩) HSZ.out).trans d4;have d5':=(hbz.cell (p:=⟨w.heap.size,5,none⟩) HSZ.out).trans d5;clear hbz))
        go_loopg [6] its.length (fun q x u=>∃ j:Nat,j+q= its.length∧x= .int .i64 j∧Below W.heap.size W u∧zA (its.drop j) (d+1)= res)
        case atStart=>exact⟨0,by omega,rfl,HB2.out,HR.out.symm⟩
        case round=>
         obtain⟨j,hj,rfl,hb,hres⟩:=hrel
         have HR2:=hid hres
         have HBK:=hid hb
         have d5':=(hb.cell (p:=⟨w.heap.size,5,none⟩) HSZ.out).trans D5.out
         clear hres hb
         cases gk with
         |zero=>
          obtain rfl:j= its.length:=by omega
          have hge: ¬ ((its.length:Int) <(its.length:Int)):=by omega
          have HVE:=hid (HR2.out.symm.trans z0H)
          go_wp2
          go_ret
          exact⟨z7 HVE.out.symm,HW.out.trans (HBK.out.mono HW.out.size)⟩
         |succ q=>
          have hlt:(j:Int) <(its.length:Int):=by omega
          obtain⟨x,hx⟩:∃ x,its[j]?= some x:=⟨_,List.getElem?_eq_getElem (by omega)⟩
          obtain⟨b,o',rfl,hbl,hc⟩:=HA.out (by omega)
          obtain⟨ks,hks,hvx⟩:=hc j x hx
          have HVS:=hid (HR2.out.symm.trans (z0z hx))
          have HBT:=hid (HW.out.trans (HBK.out.mono HW.out.size))
          have HKS:=hid (zd hks HBT.out hbl)
          have HKL:=hid (zi hvx)
          have HC:=hid (IH.out x (List.mem_of_getElem? hx) (far - 1) (d+1) ks wr (by omega) (hvx.next HBT.out))
          have hd1:((far - 1:Nat):Int)=(far:Int) - 1:=by omega
          rw[hd1] at HC
          clear hc hks hvx hx hd1
          generalize zo x (d+1)= rx at*
          cases rx with
          |true=>
           have HV2:=hid (HVS.out.trans (Bool.true_and _))
           clear HVS
           go_wp2_with (first|((with_reducible refine z8 26 _ rfl ?hwa b (o'+j*6) ks _ rfl HKS.out Tryz.underlying26 rfl ?hia ?_);(case hwa=>(exact wantA rfl));(case hia=>rw[HKL.out.1];kernel_rfl))|(go_at_call 48;refine HC.out.mono ?_;rintro e z ⟨rfl,hbz⟩;have HB3:=hid hbz;clear hbz))
           go_roundg q
           case measure=>omega
           case rel=>exact⟨j+1,by omega,by go_num,HBK.out.trans (HB3.out.mono HBK.out.size),HV2.out.symm⟩
          |false=>
           have HV2:Hid (res= false):=hid (HVS.out.trans (Bool.false_and _))
           clear HVS
           go_wp2_with (first|((with_reducible refine z8 26 _ rfl ?hwa b (o'+j*6) ks _ rfl HKS.out Tryz.underlying26 rfl ?hia ?_);(case hwa=>(exact wantA rfl));(case hia=>rw[HKL.out.1];kernel_rfl))|(go_at_call 48;refine HC.out.mono ?_;rintro e z ⟨rfl,hbz⟩;have HB3:=hid hbz;clear hbz))
           go_ret
           exact⟨z7 HV2.out.symm,HBT.out.trans (HB3.out.mono HBT.out.size)⟩
       ·have t3:s.toList.isEmpty= false:=by rw[Bool.eq_false_iff];intro h;exact hs (List.isEmpty_iff.1 h)
        have HR:Hid (res= false):=hid (by rw[HV.out];unfold bareB;simp[hz,t2,t3])
        (try clear hi0);(try clear hm0);(try clear hn);(try clear hn1);(try clear hl)
        go_enter Tryz.func48,Tryz.ntmps48
        go_upto_region 1 with (fail)
        generalize w.alloc (.cells ⟨[.int .i64 5,.int .i64 n,.float .f64 f,.string s,.slice NA ns.length nc,.slice A its.length c]⟩ 26)= W at*
        have d0:W.cell? ⟨w.heap.size,0,none⟩= some (.int .i64 5):=by have:=HRG.out 0 _ rfl;simpa using this
        have d1:W.cell? ⟨w.heap.size,1,none⟩= some (.int .i64 n):=by have:=HRG.out 1 _ rfl;simpa using this
        have d3:W.cell? ⟨w.heap.size,3,none⟩= some (.string s):=by have:=HRG.out 3 _ rfl;simpa using this
        have d4:W.cell? ⟨w.heap.size,4,none⟩= some (.slice NA ns.length nc):=by have:=HRG.out 4 _ rfl;simpa using this
        have d5:W.cell? ⟨w.heap.size,5,none⟩= some (.slice A its.length c):=by have:=HRG.out 5 _ rfl;simpa using this
        go_wp2_with (first|((with_reducible refine z8 26 _ rfl ?hwa w.heap.size 0 [.int .i64 5,.int .i64 n,.float .f64 f,.string s,.slice NA ns.length nc,.slice A its.length c] _ rfl HRG.out Tryz.underlying26 rfl ?hia ?_);(case hwa=>(exact wantA rfl));(case hia=>kernel_rfl))|(go_at_call 86;refine(HZ.out _ _ _ _ _ _).mono ?_;rintro e z ⟨rfl,hbz⟩;have HB2:=hid hbz;have d0':=(hbz.cell (p:=⟨w.heap.size,0,none⟩) HSZ.out).trans d0;have d1':=(hbz.cell (p:=⟨w.heap.size,1,none⟩) HSZ.out).trans d1;have d3':=(hbz.cell (p:=⟨w.heap.size,3,none⟩) HSZ.out).trans d3;have d4':=(hbz.cell (p:=⟨w.heap.size,4,none⟩) HSZ.out).trans d4;have d5':=(hbz.cell (p:=⟨w.heap.size,5,none⟩) HSZ.out).trans d5;clear hbz))
        go_ret
        exact⟨z7 HR.out.symm,HW.out.trans (HB2.out.mono HW.out.size)⟩
      ·have t2:(n ==0)= false:=by simpa using hn
       have t2':(n !=0)= true:=by simpa using hn
       have HR:Hid (res= false):=hid (by rw[HV.out];unfold bareB;simp[hz,t2])
       (try clear hi0);(try clear hm0);(try clear hn);(try clear hn1);(try clear hl)
       go_enter Tryz.func48,Tryz.ntmps48
       go_upto_region 1 with (fail)
       generalize w.alloc (.cells ⟨[.int .i64 5,.int .i64 n,.float .f64 f,.string s,.slice NA ns.length nc,.slice A its.length c]⟩ 26)= W at*
       have d0:W.cell? ⟨w.heap.size,0,none⟩= some (.int .i64 5):=by have:=HRG.out 0 _ rfl;simpa using this
       have d1:W.cell? ⟨w.heap.size,1,none⟩= some (.int .i64 n):=by have:=HRG.out 1 _ rfl;simpa using this
       have d3:W.cell? ⟨w.heap.size,3,none⟩= some (.string s):=by have:=HRG.out 3 _ rfl;simpa using this
       have d4:W.cell? ⟨w.heap.size,4,none⟩= some (.slice NA ns.length nc):=by have:=HRG.out 4 _ rfl;simpa using this
       have d5:W.cell? ⟨w.heap.size,5,none⟩= some (.slice A its.length c):=by have:=HRG.out 5 _ rfl;simpa using this
       go_wp2_with (first|((with_reducible refine z8 26 _ rfl ?hwa w.heap.size 0 [.int .i64 5,.int .i64 n,.float .f64 f,.string s,.slice NA ns.length nc,.slice A its.length c] _ rfl HRG.out Tryz.underlying26 rfl ?hia ?_);(case hwa=>(exact wantA rfl));(case hia=>kernel_rfl))|(go_at_call 86;refine(HZ.out _ _ _ _ _ _).mono ?_;rintro e z ⟨rfl,hbz⟩;have HB2:=hid hbz;have d0':=(hbz.cell (p:=⟨w.heap.size,0,none⟩) HSZ.out).trans d0;have d1':=(hbz.cell (p:=⟨w.heap.size,1,none⟩) HSZ.out).trans d1;have d3':=(hbz.cell (p:=⟨w.heap.size,3,none⟩) HSZ.out).trans d3;have d4':=(hbz.cell (p:=⟨w.heap.size,4,none⟩) HSZ.out).trans d4;have d5':=(hbz.cell (p:=⟨w.heap.size,5,none⟩) HSZ.out).trans d5;clear hbz))
       go_ret
       exact⟨z7 HR.out.symm,HW.out.trans (HB2.out.mono HW.out.size)⟩
     |false=>
      rw[hz] at HZ
      have HR:Hid (res= false):=hid (by rw[HV.out];unfold bareB;simp[hz])
      (try clear hi0);(try clear hm0);(try clear hn);(try clear hn1);(try clear hl)
      go_enter Tryz.func48,Tryz.ntmps48
      go_upto_region 1 with (fail)
      generalize w.alloc (.cells ⟨[.int .i64 5,.int .i64 n,.float .f64 f,.string s,.slice NA ns.length nc,.slice A its.length c]⟩ 26)= W at*
      have d0:W.cell? ⟨w.heap.size,0,none⟩= some (.int .i64 5):=by have:=HRG.out 0 _ rfl;simpa using this
      have d1:W.cell? ⟨w.heap.size,1,none⟩= some (.int .i64 n):=by have:=HRG.out 1 _ rfl;simpa using this
      have d3:W.cell? ⟨w.heap.size,3,none⟩= some (.string s):=by have:=HRG.out 3 _ rfl;simpa using this
      have d4:W.cell? ⟨w.heap.size,4,none⟩= some (.slice NA ns.length nc):=by have:=HRG.out 4 _ rfl;simpa using this
      have d5:W.cell? ⟨w.heap.size,5,none⟩= some (.slice A its.length c):=by have:=HRG.out 5 _ rfl;simpa using this
      go_wp2_with (first|((with_reducible refine z8 26 _ rfl ?hwa w.heap.size 0 [.int .i64 5,.int .i64 n,.float .f64 f,.string s,.slice NA ns.length nc,.slice A its.length c] _ rfl HRG.out Tryz.underlying26 rfl ?hia ?_);(case hwa=>(exact wantA rfl));(case hia=>kernel_rfl))|(go_at_call 86;refine(HZ.out _ _ _ _ _ _).mono ?_;rintro e z ⟨rfl,hbz⟩;have HB2:=hid hbz;have d0':=(hbz.cell (p:=⟨w.heap.size,0,none⟩) HSZ.out).trans d0;have d1':=(hbz.cell (p:=⟨w.heap.size,1,none⟩) HSZ.out).trans d1;have d3':=(hbz.cell (p:=⟨w.heap.size,3,none⟩) HSZ.out).trans d3;have d4':=(hbz.cell (p:=⟨w.heap.size,4,none⟩) HSZ.out).trans d4;have d5':=(hbz.cell (p:=⟨w.heap.size,5,none⟩) HSZ.out).trans d5;clear hbz))
      go_ret
      exact⟨z7 HR.out.symm,HW.out.trans (HB2.out.mono HW.out.size)⟩
    ·have m1:((ns.length:Int) ==0)= false:=by rw[beq_eq_false_iff_ne];omega
     have m1':(ns.length ==0)= false:=by simpa using hm0
     have HZ:=hid (fun k n s vn vi z=>z07 k n f s vn vi HF.out z)
     cases hz:(cmpF f 0 ==0) with
     |true=>
      rw[hz] at HZ
      by_cases hn:n= 0
      ·have t2:(n ==0)= true:=by simpa using hn
       have t2':(n !=0)= false:=by rw[hn];rfl
       by_cases hs:s.toList=[]
       ·have t3:s.toList.isEmpty= true:=by rw[hs];rfl
        have m2:0 < ns.length:=by omega
        have HR:Hid (res= false):=hid (by rw[HV.out];unfold bareB;simp[hz,t2,t3,m1'])
        (try clear hi0);(try clear hm0);(try clear hn);(try clear hn1);(try clear hl)
        go_enter Tryz.func48,Tryz.ntmps48
        go_upto_region 1 with (fail)
        generalize w.alloc (.cells ⟨[.int .i64 5,.int .i64 n,.float .f64 f,.string s,.slice NA ns.length nc,.slice A its.length c]⟩ 26)= W at*
        have d0:W.cell? ⟨w.heap.size,0,none⟩= some (.int .i64 5):=by have:=HRG.out 0 _ rfl;simpa using this
        have d1:W.cell? ⟨w.heap.size,1,none⟩= some (.int .i64 n):=by have:=HRG.out 1 _ rfl;simpa using this
        have d3:W.cell? ⟨w.heap.size,3,none⟩= some (.string s):=by have:=HRG.out 3 _ rfl;simpa using this
        have d4:W.cell? ⟨w.heap.size,4,none⟩= some (.slice NA ns.length nc):=by have:=HRG.out 4 _ rfl;simpa using this
        have d5:W.cell? ⟨w.heap.size,5,none⟩= some (.slice A its.length c):=by have:=HRG.out 5 _ rfl;simpa using this
        go_wp2_with (first|((with_reducible refine z8 26 _ rfl ?hwa w.heap.size 0 [.int .i64 5,.int .i64 n,.float .f64 f,.string s,.slice NA ns.length nc,.slice A its.length c] _ rfl HRG.out Tryz.underlying26 rfl ?hia ?_);(case hwa=>(exact wantA rfl));(case hia=>kernel_rfl))|(go_at_call 86;refine(HZ.out _ _ _ _ _ _).mono ?_;rintro e z ⟨rfl,hbz⟩;have HB2:=hid hbz;have d0':=(hbz.cell (p:=⟨w.heap.size,0,none⟩) HSZ.out).trans d0;have d1':=(hbz.cell (p:=⟨w.heap.size,1,none⟩) HSZ.out).trans d1;have d3':=(hbz.cell (p:=⟨w.heap.size,3,none⟩) HSZ.out).trans d3;have d4':=(hbz.cell (p:=⟨w.heap.size,4,none⟩) HSZ.out).trans d4;have d5':=(hbz.cell (p:=⟨w.heap.size,5,none⟩) HSZ.out).trans d5;clear hbz))
        go_ret
        exact⟨z7 HR.out.symm,HW.out.trans (HB2.out.mono HW.out.size)⟩
       ·have t3:s.toList.isEmpty= false:=by rw[Bool.eq_false_iff];intro h;exact hs (List.isEmpty_iff.1 h)
        have HR:Hid (res= false):=hid (by rw[HV.out];unfold bareB;simp[hz,t2,t3])
        (try clear hi0);(try clear hm0);(try clear hn);(try clear hn1);(try clear hl)
        go_enter Tryz.func48,Tryz.ntmps48
        go_upto_region 1 with (fail)
        generalize w.alloc (.cells ⟨[.int .i64 5,.int .i64 n,.float .f64 f,.string s,.slice NA ns.length nc,.slice A its.length c]⟩ 26)= W at*
        have d0:W.cell? ⟨w.heap.size,0,none⟩= some (.int .i64 5):=by have:=HRG.out 0 _ rfl;simpa using this
        have d1:W.cell? ⟨w.heap.size,1,none⟩= some (.int .i64 n):=by have:=HRG.out 1 _ rfl;simpa using this
        have d3:W.cell? ⟨w.heap.size,3,none⟩= some (.string s):=by have:=HRG.out 3 _ rfl;simpa using this
        have d4:W.cell? ⟨w.heap.size,4,none⟩= some (.slice NA ns.length nc):=by have:=HRG.out 4 _ rfl;simpa using this
        have d5:W.cell? ⟨w.heap.size,5,none⟩= some (.slice A its.length c):=by have:=HRG.out 5 _ rfl;simpa using this
        go_wp2_with (first|((with_reducible refine z8 26 _ rfl ?hwa w.heap.size 0 [.int .i64 5,.int .i64 n,.float .f64 f,.string s,.slice NA ns.length nc,.slice A its.length c] _ rfl HRG.out Tryz.underlying26 rfl ?hia ?_);(case hwa=>(exact wantA rfl));(case hia=>kernel_rfl))|(go_at_call 86;refine(HZ.out _ _ _ _ _ _).mono ?_;rintro e z ⟨rfl,hbz⟩;have HB2:=hid hbz;have d0':=(hbz.cell (p:=⟨w.heap.size,0,none⟩) HSZ.out).trans d0;have d1':=(hbz.cell (p:=⟨w.heap.size,1,none⟩) HSZ.out).trans d1;have d3':=(hbz.cell (p:=⟨w.heap.size,3,none⟩) HSZ.out).trans d3;have d4':=(hbz.cell (p:=⟨w.heap.size,4,none⟩) HSZ.out).trans d4;have d5':=(hbz.cell (p:=⟨w.heap.size,5,none⟩) HSZ.out).trans d5;clear hbz))
        go_ret
        exact⟨z7 HR.out.symm,HW.out.trans (HB2.out.mono HW.out.size)⟩
      ·have t2:(n ==0)= false:=by simpa using hn
       have t2':(n !=0)= true:=by simpa using hn
       have HR:Hid (res= false):=hid (by rw[HV.out];unfold bareB;simp[hz,t2])
       (try clear hi0);(try clear hm0);(try clear hn);(try clear hn1);(try clear hl)
       go_enter Tryz.func48,Tryz.ntmps48
       go_upto_region 1 with (fail)
       generalize w.alloc (.cells ⟨[.int .i64 5,.int .i64 n,.float .f64 f,.string s,.slice NA ns.length nc,.slice A its.length c]⟩ 26)= W at*
       have d0:W.cell? ⟨w.heap.size,0,none⟩= some (.int .i64 5):=by have:=HRG.out 0 _ rfl;simpa using this
       have d1:W.cell? ⟨w.heap.size,1,none⟩= some (.int .i64 n):=by have:=HRG.out 1 _ rfl;simpa using this
       have d3:W.cell? ⟨w.heap.size,3,none⟩= some (.string s):=by have:=HRG.out 3 _ rfl;simpa using this
       have d4:W.cell? ⟨w.heap.size,4,none⟩= some (.slice NA ns.length nc):=by have:=HRG.out 4 _ rfl;simpa using this
       have d5:W.cell? ⟨w.heap.size,5,none⟩= some (.slice A its.length c):=by have:=HRG.out 5 _ rfl;simpa using this
       go_wp2_with (first|((with_reducible refine z8 26 _ rfl ?hwa w.heap.size 0 [.int .i64 5,.int .i64 n,.float .f64 f,.string s,.slice NA ns.length nc,.slice A its.length c] _ rfl HRG.out Tryz.underlying26 rfl ?hia ?_);(case hwa=>(exact wantA rfl));(case hia=>kernel_rfl))|(go_at_call 86;refine(HZ.out _ _ _ _ _ _).mono ?_;rintro e z ⟨rfl,hbz⟩;have HB2:=hid hbz;have d0':=(hbz.cell (p:=⟨w.heap.size,0,none⟩) HSZ.out).trans d0;have d1':=(hbz.cell (p:=⟨w.heap.size,1,none⟩) HSZ.out).trans d1;have d3':=(hbz.cell (p:=⟨w.heap.size,3,none⟩) HSZ.out).trans d3;have d4':=(hbz.cell (p:=⟨w.heap.size,4,none⟩) HSZ.out).trans d4;have d5':=(hbz.cell (p:=⟨w.heap.size,5,none⟩) HSZ.out).trans d5;clear hbz))
       go_ret
       exact⟨z7 HR.out.symm,HW.out.trans (HB2.out.mono HW.out.size)⟩
     |false=>
      rw[hz] at HZ
      have HR:Hid (res= false):=hid (by rw[HV.out];unfold bareB;simp[hz])
      (try clear hi0);(try clear hm0);(try clear hn);(try clear hn1);(try clear hl)
      go_enter Tryz.func48,Tryz.ntmps48
      go_upto_region 1 with (fail)
      generalize w.alloc (.cells ⟨[.int .i64 5,.int .i64 n,.float .f64 f,.string s,.slice NA ns.length nc,.slice A its.length c]⟩ 26)= W at*
      have d0:W.cell? ⟨w.heap.size,0,none⟩= some (.int .i64 5):=by have:=HRG.out 0 _ rfl;simpa using this
      have d1:W.cell? ⟨w.heap.size,1,none⟩= some (.int .i64 n):=by have:=HRG.out 1 _ rfl;simpa using this
      have d3:W.cell? ⟨w.heap.size,3,none⟩= some (.string s):=by have:=HRG.out 3 _ rfl;simpa using this
      have d4:W.cell? ⟨w.heap.size,4,none⟩= some (.slice NA ns.length nc):=by have:=HRG.out 4 _ rfl;simpa using this
      have d5:W.cell? ⟨w.heap.size,5,none⟩= some (.slice A its.length c):=by have:=HRG.out 5 _ rfl;simpa using this
      go_wp2_with (first|((with_reducible refine z8 26 _ rfl ?hwa w.heap.size 0 [.int .i64 5,.int .i64 n,.float .f64 f,.string s,.slice NA ns.length nc,.slice A its.length c] _ rfl HRG.out Tryz.underlying26 rfl ?hia ?_);(case hwa=>(exact wantA rfl));(case hia=>kernel_rfl))|(go_at_call 86;refine(HZ.out _ _ _ _ _ _).mono ?_;rintro e z ⟨rfl,hbz⟩;have HB2:=hid hbz;have d0':=(hbz.cell (p:=⟨w.heap.size,0,none⟩) HSZ.out).trans d0;have d1':=(hbz.cell (p:=⟨w.heap.size,1,none⟩) HSZ.out).trans d1;have d3':=(hbz.cell (p:=⟨w.heap.size,3,none⟩) HSZ.out).trans d3;have d4':=(hbz.cell (p:=⟨w.heap.size,4,none⟩) HSZ.out).trans d4;have d5':=(hbz.cell (p:=⟨w.heap.size,5,none⟩) HSZ.out).trans d5;clear hbz))
      go_ret
      exact⟨z7 HR.out.symm,HW.out.trans (HB2.out.mono HW.out.size)⟩
   ·have i1:((its.length:Int) ==0)= false:=by rw[beq_eq_false_iff_ne];omega
    have i1':(its.length ==0)= false:=by simpa using hi0
    have HZ:=hid (fun k n s vn vi z=>z07 k n f s vn vi HF.out z)
    cases hz:(cmpF f 0 ==0) with
    |true=>
     rw[hz] at HZ
     by_cases hn:n= 0
     ·have t2:(n ==0)= true:=by simpa using hn
      have t2':(n !=0)= false:=by rw[hn];rfl
      by_cases hs:s.toList=[]
      ·have t3:s.toList.isEmpty= true:=by rw[hs];rfl
       by_cases hm0:ns.length= 0
       ·have m1:((ns.length:Int) ==0)= true:=by rw[hm0];rfl
        have m1':(ns.length ==0)= true:=by rw[hm0];rfl
        have HM0:=hid hm0
        have HR:Hid (res= zA its (d+1)):=hid (by rw[HV.out];unfold bareB;simp[hz,t2,t3,m1'])
        clear m1 m1'
        (try clear hi0);(try clear hm0);(try clear hn);(try clear hn1);(try clear hl)
        go_enter Tryz.func48,Tryz.ntmps48
        go_upto_region 1 with (fail)
        generalize w.alloc (.cells ⟨[.int .i64 5,.int .i64 n,.float .f64 f,.string s,.slice NA ns.length nc,.slice A its.length c]⟩ 26)= W at*
        have d0:W.cell? ⟨w.heap.size,0,none⟩= some (.int .i64 5):=by have:=HRG.out 0 _ rfl;simpa using this
        have d1:W.cell? ⟨w.heap.size,1,none⟩= some (.int .i64 n):=by have:=HRG.out 1 _ rfl;simpa using this
        have d3:W.cell? ⟨w.heap.size,3,none⟩= some (.string s):=by have:=HRG.out 3 _ rfl;simpa using this
        have d4:W.cell? ⟨w.heap.size,4,none⟩= some (.slice NA ns.length nc):=by have:=HRG.out 4 _ rfl;simpa using this
        have d5:W.cell? ⟨w.heap.size,5,none⟩= some (.slice A its.length c):=by have:=HRG.out 5 _ rfl;simpa using this
        have hm0:=HM0.out
        rw[hm0] at d4
        clear hm0
        have D5:=hid d5
        go_wp2_with (first|((with_reducible refine z8 26 _ rfl ?hwa w.heap.size 0 [.int .i64 5,.int .i64 n,.float .f64 f,.string s,.slice NA ns.length nc,.slice A its.length c] _ rfl HRG.out Tryz.underlying26 rfl ?hia ?_);(case hwa=>(exact wantA rfl));(case hia=>kernel_rfl))|(go_at_call 86;refine(HZ.out _ _ _ _ _ _).mono ?_;rintro e z ⟨rfl,hbz⟩;have HB2:=hid hbz;have d0':=(hbz.cell (p:=⟨w.heap.size,0,none⟩) HSZ.out).trans d0;have d1':=(hbz.cell (p:=⟨w.heap.size,1,none⟩) HSZ.out).trans d1;have d3':=(hbz.cell (p:=⟨w.heap.size,3,none⟩) HSZ.out).trans d3;have d4':=(hbz.cell (p:=⟨w.heap.size,4,none⟩) HSZ.out).trans d4;have d5':=(hbz.cell (p:=⟨w.heap.size,5,none⟩) HSZ.out).trans d5;clear hbz))
        go_loopg [6] its.length (fun q x u=>∃ j:Nat,j+q= its.length∧x= .int .i64 j∧Below W.heap.size W u∧zA (its.drop j) (d+1)= res)
        case atStart=>exact⟨0,by omega,rfl,HB2.out,HR.out.symm⟩
        case round=>
         obtain⟨j,hj,rfl,hb,hres⟩:=hrel
         have HR2:=hid hres
         have HBK:=hid hb
         have d5':=(hb.cell (p:=⟨w.heap.size,5,none⟩) HSZ.out).trans D5.out
         clear hres hb
         cases gk with
         |zero=>
          obtain rfl:j= its.length:=by omega
          have hge: ¬ ((its.length:Int) <(its.length:Int)):=by omega
          have HVE:=hid (HR2.out.symm.trans z0H)
          go_wp2
          go_ret
          exact⟨z7 HVE.out.symm,HW.out.trans (HBK.out.mono HW.out.size)⟩
         |succ q=>
          have hlt:(j:Int) <(its.length:Int):=by omega
          obtain⟨x,hx⟩:∃ x,its[j]?= some x:=⟨_,List.getElem?_eq_getElem (by omega)⟩
          obtain⟨b,o',rfl,hbl,hc⟩:=HA.out (by omega)
          obtain⟨ks,hks,hvx⟩:=hc j x hx
          have HVS:=hid (HR2.out.symm.trans (z0z hx))
          have HBT:=hid (HW.out.trans (HBK.out.mono HW.out.size))
          have HKS:=hid (zd hks HBT.out hbl)
          have HKL:=hid (zi hvx)
          have HC:=hid (IH.out x (List.mem_of_getElem? hx) (far - 1) (d+1) ks wr (by omega) (hvx.next HBT.out))
          have hd1:((far - 1:Nat):Int)=(far:Int) - 1:=by omega
          rw[hd1] at HC
          clear hc hks hvx hx hd1
          generalize zo x (d+1)= rx at*
          cases rx with
          |true=>
           have HV2:=hid (HVS.out.trans (Bool.true_and _))
           clear HVS
           go_wp2_with (first|((with_reducible refine z8 26 _ rfl ?hwa b (o'+j*6) ks _ rfl HKS.out Tryz.underlying26 rfl ?hia ?_);(case hwa=>(exact wantA rfl));(case hia=>rw[HKL.out.1];kernel_rfl))|(go_at_call 48;refine HC.out.mono ?_;rintro e z ⟨rfl,hbz⟩;have HB3:=hid hbz;clear hbz))
           go_roundg q
           case measure=>omega
           case rel=>exact⟨j+1,by omega,by go_num,HBK.out.trans (HB3.out.mono HBK.out.size),HV2.out.symm⟩
          |false=>
           have HV2:Hid (res= false):=hid (HVS.out.trans (Bool.false_and _))
           clear HVS
           go_wp2_with (first|((with_reducible refine z8 26 _ rfl ?hwa b (o'+j*6) ks _ rfl HKS.out Tryz.underlying26 rfl ?hia ?_);(case hwa=>(exact wantA rfl));(case hia=>rw[HKL.out.1];kernel_rfl))|(go_at_call 48;refine HC.out.mono ?_;rintro e z ⟨rfl,hbz⟩;have HB3:=hid hbz;clear hbz))
           go_ret
           exact⟨z7 HV2.out.symm,HBT.out.trans (HB3.out.mono HBT.out.size)⟩
       ·have m1:((ns.length:Int) ==0)= false:=by rw[beq_eq_false_iff_ne];omega
        have m1':(ns.length ==0)= false:=by simpa using hm0
        have m2:0 < ns.length:=by omega
        have HR:Hid (res= false):=hid (by rw[HV.out];unfold bareB;simp[hz,t2,t3,m1'])
        (try clear hi0);(try clear hm0);(try clear hn);(try clear hn1);(try clear hl)
        go_enter Tryz.func48,Tryz.ntmps48
        go_upto_region 1 with (fail)
        generalize w.alloc (.cells ⟨[.int .i64 5,.int .i64 n,.float .f64 f,.string s,.slice NA ns.length nc,.slice A its.length c]⟩ 26)= W at*
        have d0:W.cell? ⟨w.heap.size,0,none⟩= some (.int .i64 5):=by have:=HRG.out 0 _ rfl;simpa using this
        have d1:W.cell? ⟨w.heap.size,1,none⟩= some (.int .i64 n):=by have:=HRG.out 1 _ rfl;simpa using this
        have d3:W.cell? ⟨w.heap.size,3,none⟩= some (.string s):=by have:=HRG.out 3 _ rfl;simpa using this
        have d4:W.cell? ⟨w.heap.size,4,none⟩= some (.slice NA ns.length nc):=by have:=HRG.out 4 _ rfl;simpa using this
        have d5:W.cell? ⟨w.heap.size,5,none⟩= some (.slice A its.length c):=by have:=HRG.out 5 _ rfl;simpa using this
        go_wp2_with (first|((with_reducible refine z8 26 _ rfl ?hwa w.heap.size 0 [.int .i64 5,.int .i64 n,.float .f64 f,.string s,.slice NA ns.length nc,.slice A its.length c] _ rfl HRG.out Tryz.underlying26 rfl ?hia ?_);(case hwa=>(exact wantA rfl));(case hia=>kernel_rfl))|(go_at_call 86;refine(HZ.out _ _ _ _ _ _).mono ?_;rintro e z ⟨rfl,hbz⟩;have HB2:=hid hbz;have d0':=(hbz.cell (p:=⟨w.heap.size,0,none⟩) HSZ.out).trans d0;have d1':=(hbz.cell (p:=⟨w.heap.size,1,none⟩) HSZ.out).trans d1;have d3':=(hbz.cell (p:=⟨w.heap.size,3,none⟩) HSZ.out).trans d3;have d4':=(hbz.cell (p:=⟨w.heap.size,4,none⟩) HSZ.out).trans d4;have d5':=(hbz.cell (p:=⟨w.heap.size,5,none⟩) HSZ.out).trans d5;clear hbz))
        go_ret
        exact⟨z7 HR.out.symm,HW.out.trans (HB2.out.mono HW.out.size)⟩
      ·have t3:s.toList.isEmpty= false:=by rw[Bool.eq_false_iff];intro h;exact hs (List.isEmpty_iff.1 h)
       have HR:Hid (res= false):=hid (by rw[HV.out];unfold bareB;simp[hz,t2,t3])
       (try clear hi0);(try clear hm0);(try clear hn);(try clear hn1);(try clear hl)
       go_enter Tryz.func48,Tryz.ntmps48
       go_upto_region 1 with (fail)
       generalize w.alloc (.cells ⟨[.int .i64 5,.int .i64 n,.float .f64 f,.string s,.slice NA ns.length nc,.slice A its.length c]⟩ 26)= W at*
       have d0:W.cell? ⟨w.heap.size,0,none⟩= some (.int .i64 5):=by have:=HRG.out 0 _ rfl;simpa using this
       have d1:W.cell? ⟨w.heap.size,1,none⟩= some (.int .i64 n):=by have:=HRG.out 1 _ rfl;simpa using this
       have d3:W.cell? ⟨w.heap.size,3,none⟩= some (.string s):=by have:=HRG.out 3 _ rfl;simpa using this
       have d4:W.cell? ⟨w.heap.size,4,none⟩= some (.slice NA ns.length nc):=by have:=HRG.out 4 _ rfl;simpa using this
       have d5:W.cell? ⟨w.heap.size,5,none⟩= some (.slice A its.length c):=by have:=HRG.out 5 _ rfl;simpa using this
       go_wp2_with (first|((with_reducible refine z8 26 _ rfl ?hwa w.heap.size 0 [.int .i64 5,.int .i64 n,.float .f64 f,.string s,.slice NA ns.length nc,.slice A its.length c] _ rfl HRG.out Tryz.underlying26 rfl ?hia ?_);(case hwa=>(exact wantA rfl));(case hia=>kernel_rfl))|(go_at_call 86;refine(HZ.out _ _ _ _ _ _).mono ?_;rintro e z ⟨rfl,hbz⟩;have HB2:=hid hbz;have d0':=(hbz.cell (p:=⟨w.heap.size,0,none⟩) HSZ.out).trans d0;have d1':=(hbz.cell (p:=⟨w.heap.size,1,none⟩) HSZ.out).trans d1;have d3':=(hbz.cell (p:=⟨w.heap.size,3,none⟩) HSZ.out).trans d3;have d4':=(hbz.cell (p:=⟨w.heap.size,4,none⟩) HSZ.out).trans d4;have d5':=(hbz.cell (p:=⟨w.heap.size,5,none⟩) HSZ.out).trans d5;clear hbz))
       go_ret
       exact⟨z7 HR.out.symm,HW.out.trans (HB2.out.mono HW.out.size)⟩
     ·have t2:(n ==0)= false:=by simpa using hn
      have t2':(n !=0)= true:=by simpa using hn
      have HR:Hid (res= false):=hid (by rw[HV.out];unfold bareB;simp[hz,t2])
      (try clear hi0);(try clear hm0);(try clear hn);(try clear hn1);(try clear hl)
      go_enter Tryz.func48,Tryz.ntmps48
      go_upto_region 1 with (fail)
      generalize w.alloc (.cells ⟨[.int .i64 5,.int .i64 n,.float .f64 f,.string s,.slice NA ns.length nc,.slice A its.length c]⟩ 26)= W at*
      have d0:W.cell? ⟨w.heap.size,0,none⟩= some (.int .i64 5):=by have:=HRG.out 0 _ rfl;simpa using this
      have d1:W.cell? ⟨w.heap.size,1,none⟩= some (.int .i64 n):=by have:=HRG.out 1 _ rfl;simpa using this
      have d3:W.cell? ⟨w.heap.size,3,none⟩= some (.string s):=by have:=HRG.out 3 _ rfl;simpa using this
      have d4:W.cell? ⟨w.heap.size,4,none⟩= some (.slice NA ns.length nc):=by have:=HRG.out 4 _ rfl;simpa using this
      have d5:W.cell? ⟨w.heap.size,5,none⟩= some (.slice A its.length c):=by have:=HRG.out 5 _ rfl;simpa using this
      go_wp2_with (first|((with_reducible refine z8 26 _ rfl ?hwa w.heap.size 0 [.int .i64 5,.int .i64 n,.float .f64 f,.string s,.slice NA ns.length nc,.slice A its.length c] _ rfl HRG.out Tryz.underlying26 rfl ?hia ?_);(case hwa=>(exact wantA rfl));(case hia=>kernel_rfl))|(go_at_call 86;refine(HZ.out _ _ _ _ _ _).mono ?_;rintro e z ⟨rfl,hbz⟩;have HB2:=hid hbz;have d0':=(hbz.cell (p:=⟨w.heap.size,0,none⟩) HSZ.out).trans d0;have d1':=(hbz.cell (p:=⟨w.heap.size,1,none⟩) HSZ.out).trans d1;have d3':=(hbz.cell (p:=⟨w.heap.size,3,none⟩) HSZ.out).trans d3;have d4':=(hbz.cell (p:=⟨w.heap.size,4,none⟩) HSZ.out).trans d4;have d5':=(hbz.cell (p:=⟨w.heap.size,5,none⟩) HSZ.out).trans d5;clear hbz))
      go_ret
      exact⟨z7 HR.out.symm,HW.out.trans (HB2.out.mono HW.out.size)⟩
    |false=>
     rw[hz] at HZ
     have HR:Hid (res= false):=hid (by rw[HV.out];unfold bareB;simp[hz])
     (try clear hi0);(try clear hm0);(try clear hn);(try clear hn1);(try clear hl)
     go_enter Tryz.func48,Tryz.ntmps48
     go_upto_region 1 with (fail)
     generalize w.alloc (.cells ⟨[.int .i64 5,.int .i64 n,.float .f64 f,.string s,.slice NA ns.length nc,.slice A its.length c]⟩ 26)= W at*
     have d0:W.cell? ⟨w.heap.size,0,none⟩= some (.int .i64 5):=by have:=HRG.out 0 _ rfl;simpa using this
     have d1:W.cell? ⟨w.heap.size,1,none⟩= some (.int .i64 n):=by have:=HRG.out 1 _ rfl;simpa using this
     have d3:W.cell? ⟨w.heap.size,3,none⟩= some (.string s):=by have:=HRG.out 3 _ rfl;simpa using this
     have d4:W.cell? ⟨w.heap.size,4,none⟩= some (.slice NA ns.length nc):=by have:=HRG.out 4 _ rfl;simpa using this
     have d5:W.cell? ⟨w.heap.size,5,none⟩= some (.slice A its.length c):=by have:=HRG.out 5 _ rfl;simpa using this
     go_wp2_with (first|((with_reducible refine z8 26 _ rfl ?hwa w.heap.size 0 [.int .i64 5,.int .i64 n,.float .f64 f,.string s,.slice NA ns.length nc,.slice A its.length c] _ rfl HRG.out Tryz.underlying26 rfl ?hia ?_);(case hwa=>(exact wantA rfl));(case hia=>kernel_rfl))|(go_at_call 86;refine(HZ.out _ _ _ _ _ _).mono ?_;rintro e z ⟨rfl,hbz⟩;have HB2:=hid hbz;have d0':=(hbz.cell (p:=⟨w.heap.size,0,none⟩) HSZ.out).trans d0;have d1':=(hbz.cell (p:=⟨w.heap.size,1,none⟩) HSZ.out).trans d1;have d3':=(hbz.cell (p:=⟨w.heap.size,3,none⟩) HSZ.out).trans d3;have d4':=(hbz.cell (p:=⟨w.heap.size,4,none⟩) HSZ.out).trans d4;have d5':=(hbz.cell (p:=⟨w.heap.size,5,none⟩) HSZ.out).trans d5;clear hbz))
     go_ret
     exact⟨z7 HR.out.symm,HW.out.trans (HB2.out.mono HW.out.size)⟩
  have HO7:=hid (HO6.out.trans (if_neg k5))
  clear HO6
  have HV:Hid (res= false):=HO7
  have s1:(k ==1)= false:=by simpa using k1
  have s2:(k ==2)= false:=by simpa using k2
  have s3:(k ==3)= false:=by simpa using k3
  have s4:(k ==4)= false:=by simpa using k4
  have s5:(k ==5)= false:=by simpa using k5
  have s6:(k ==6)= false:=by simpa using k6
  clear HO7 k1 k2 k3 k4 k5 k6
  by_cases hi0:its.length= 0
  ·have i1:((its.length:Int) ==0)= true:=by rw[hi0];rfl
   have i1':(its.length ==0)= true:=by rw[hi0];rfl
   by_cases hm0:ns.length= 0
   ·have m1:((ns.length:Int) ==0)= true:=by rw[hm0];rfl
    have m1':(ns.length ==0)= true:=by rw[hm0];rfl
    have HR:Hid (res= false):=hid (by exact HV.out)
    (try clear hi0);(try clear hm0);(try clear hn);(try clear hn1);(try clear hl)
    go_enter Tryz.func48,Tryz.ntmps48
    go_upto_region 1 with (fail)
    generalize w.alloc (.cells ⟨[.int .i64 k,.int .i64 n,.float .f64 f,.string s,.slice NA ns.length nc,.slice A its.length c]⟩ 26)= W at*
    have d0:W.cell? ⟨w.heap.size,0,none⟩= some (.int .i64 k):=by have:=HRG.out 0 _ rfl;simpa using this
    have d1:W.cell? ⟨w.heap.size,1,none⟩= some (.int .i64 n):=by have:=HRG.out 1 _ rfl;simpa using this
    have d3:W.cell? ⟨w.heap.size,3,none⟩= some (.string s):=by have:=HRG.out 3 _ rfl;simpa using this
    have d4:W.cell? ⟨w.heap.size,4,none⟩= some (.slice NA ns.length nc):=by have:=HRG.out 4 _ rfl;simpa using this
    have d5:W.cell? ⟨w.heap.size,5,none⟩= some (.slice A its.length c):=by have:=HRG.out 5 _ rfl;simpa using this
    go_wp2
    go_ret
    exact⟨z7 HR.out.symm,HW.out⟩
   ·have m1:((ns.length:Int) ==0)= false:=by rw[beq_eq_false_iff_ne];omega
    have m1':(ns.length ==0)= false:=by simpa using hm0
    have HR:Hid (res= false):=hid (by exact HV.out)
    (try clear hi0);(try clear hm0);(try clear hn);(try clear hn1);(try clear hl)
    go_enter Tryz.func48,Tryz.ntmps48
    go_upto_region 1 with (fail)
    generalize w.alloc (.cells ⟨[.int .i64 k,.int .i64 n,.float .f64 f,.string s,.slice NA ns.length nc,.slice A its.length c]⟩ 26)= W at*
    have d0:W.cell? ⟨w.heap.size,0,none⟩= some (.int .i64 k):=by have:=HRG.out 0 _ rfl;simpa using this
    have d1:W.cell? ⟨w.heap.size,1,none⟩= some (.int .i64 n):=by have:=HRG.out 1 _ rfl;simpa using this
    have d3:W.cell? ⟨w.heap.size,3,none⟩= some (.string s):=by have:=HRG.out 3 _ rfl;simpa using this
    have d4:W.cell? ⟨w.heap.size,4,none⟩= some (.slice NA ns.length nc):=by have:=HRG.out 4 _ rfl;simpa using this
    have d5:W.cell? ⟨w.heap.size,5,none⟩= some (.slice A its.length c):=by have:=HRG.out 5 _ rfl;simpa using this
    go_wp2
    go_ret
    exact⟨z7 HR.out.symm,HW.out⟩
  ·have i1:((its.length:Int) ==0)= false:=by rw[beq_eq_false_iff_ne];omega
   have i1':(its.length ==0)= false:=by simpa using hi0
   have HR:Hid (res= false):=hid (by exact HV.out)
   (try clear hi0);(try clear hm0);(try clear hn);(try clear hn1);(try clear hl)
   go_enter Tryz.func48,Tryz.ntmps48
   go_upto_region 1 with (fail)
   generalize w.alloc (.cells ⟨[.int .i64 k,.int .i64 n,.float .f64 f,.string s,.slice NA ns.length nc,.slice A its.length c]⟩ 26)= W at*
   have d0:W.cell? ⟨w.heap.size,0,none⟩= some (.int .i64 k):=by have:=HRG.out 0 _ rfl;simpa using this
   have d1:W.cell? ⟨w.heap.size,1,none⟩= some (.int .i64 n):=by have:=HRG.out 1 _ rfl;simpa using this
   have d3:W.cell? ⟨w.heap.size,3,none⟩= some (.string s):=by have:=HRG.out 3 _ rfl;simpa using this
   have d4:W.cell? ⟨w.heap.size,4,none⟩= some (.slice NA ns.length nc):=by have:=HRG.out 4 _ rfl;simpa using this
   have d5:W.cell? ⟨w.heap.size,5,none⟩= some (.slice A its.length c):=by have:=HRG.out 5 _ rfl;simpa using this
   go_wp2
   go_ret
   exact⟨z7 HR.out.symm,HW.out⟩
theorem z8O (t:VT) (cs:List Value) (w:World) (hv:ValAt w w.heap.size cs t):Calls Tryz.prog 21 #[.agg ⟨cs⟩] w fun e w'=>e= .returned (.bool (decide (cntV t 0≤200) && zo t 1))∧Below w.heap.size w w':=by
 have HB1:=hid (zc w (.cells ⟨cs⟩ 26))
 have HS1:=hid (zw w (.cells ⟨cs⟩ 26))
 have HR1:=hid (zq w cs 26)
 have HL:=hid (zi hv)
 have HV:=hid (hv.next HB1.out)
 clear hv
 go_enter Tryz.func21,Tryz.ntmps21
 go_upto_region 1 with (fail)
 generalize w.alloc (.cells ⟨cs⟩ 26)= W at*
 have HP:=hid (z8J t cs W HV.out)
 by_cases hc:cntV t 0≤200
 ·have t1:((cntV t 0:Nat):Int)≤200:=by omega
  have HD:Hid ((decide (cntV t 0≤200) && zo t 1)= zo t 1):=hid (by rw[decide_eq_true hc];exact Bool.true_and _)
  go_wp2_with (first|((with_reducible refine z8 26 _ rfl ?hwa w.heap.size 0 cs _ rfl HR1.out Tryz.underlying26 rfl ?hia ?_);(case hwa=>(exact wantA rfl));(case hia=>rw[HL.out.1];kernel_rfl))|(go_at_call 47;refine HP.out.mono ?_;rintro e z ⟨rfl,hbz⟩;have HB2:=hid hbz;have HR2:=hid (zd HR1.out hbz HS1.out);clear hbz)|((with_reducible refine z8 26 _ rfl ?hwc w.heap.size 0 cs _ rfl HR2.out Tryz.underlying26 rfl ?hic ?_);(case hwc=>(exact wantA rfl));(case hic=>rw[HL.out.1];kernel_rfl))|(go_at_call 48;refine(z8M t 12 1 cs _ (by decide) (HV.out.next HB2.out)).mono ?_;rintro e z2 ⟨rfl,hbz⟩;have HB3:=hid hbz;clear hbz))
  go_ret
  exact⟨z7 HD.out.symm,HB1.out.trans ((HB2.out.trans (HB3.out.mono HB2.out.size)).mono HB1.out.size)⟩
 ·have t1: ¬ (((cntV t 0:Nat):Int)≤200):=by omega
  have HD:Hid ((decide (cntV t 0≤200) && zo t 1)= false):=hid (by rw[decide_eq_false hc];exact Bool.false_and _)
  go_wp2_with (first|((with_reducible refine z8 26 _ rfl ?hwa w.heap.size 0 cs _ rfl HR1.out Tryz.underlying26 rfl ?hia ?_);(case hwa=>(exact wantA rfl));(case hia=>rw[HL.out.1];kernel_rfl))|(go_at_call 47;refine HP.out.mono ?_;rintro e z ⟨rfl,hbz⟩;have HB2:=hid hbz;clear hbz))
  go_ret
  first|exact⟨z7 HD.out.symm,HB1.out.trans (HB2.out.mono HB1.out.size)⟩|exact⟨rfl,HB1.out.trans (HB2.out.mono HB1.out.size)⟩
end Go.Proofs.YtmpbepjjbaeebaaGreatDoor
