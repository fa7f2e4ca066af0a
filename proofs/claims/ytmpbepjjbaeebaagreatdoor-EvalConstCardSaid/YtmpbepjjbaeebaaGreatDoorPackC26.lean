/- Parts of a proof: EConst2, ERight. -/
import Derived.Test.YtmpbepjjbaeebaaGreatDoorPackC21
import Derived.Test.YtmpbepjjbaeebaaGreatDoorPackC25
set_option maxHeartbeats 8000000
set_option maxRecDepth 100000
set_option linter.unusedVariables false
set_option linter.unusedSimpArgs false
namespace Go.Proofs.YtmpbepjjbaeebaaGreatDoor
section
open Go Go.RowKit
theorem zat {s:ByteArray} {k:Nat} {c:UInt8} (h:s.data.toList[k]?= some c) (hk:k < s.size):s[k]'hk= c:=by
 have h2:s.data[k]?= some c:=by simpa using h
 obtain⟨h3,h4⟩:=Array.getElem?_eq_some_iff.1 h2
 exact h4
theorem z6c (t:VT) (cs:List Value) (w:World) (hv:ValAt w w.heap.size cs t):Calls Tryz.prog 107 #[.agg ⟨cs⟩] w fun e w'=>e= .returned (.bool (zN t))/\Below w.heap.size w w':=by
 cases t with
 |mk k n f s ns its=>
 obtain⟨vn,vi,rfl,_,_,hff,_,_,_,_⟩:=hv.inv
 have hf:=wf64 hff
 have HB1:=I (ze w (.cells ⟨[.int .i64 k,.int .i64 n,.float .f64 f,.string s,vn,vi]⟩ 26))
 have HRG:=I (zq w [.int .i64 k,.int .i64 n,.float .f64 f,.string s,vn,vi] 26)
 have HRT:Hid (Calls Tryz.prog 37 #[.agg ⟨[.int .i64 k,.int .i64 n,.float .f64 f,.string s,vn,vi]⟩] (w.alloc (.cells ⟨[.int .i64 k,.int .i64 n,.float .f64 f,.string s,vn,vi]⟩ 26)) fun e w'=>e= .returned (.bool (zj (.mk k n f s ns its)))/\Below (w.alloc (.cells ⟨[.int .i64 k,.int .i64 n,.float .f64 f,.string s,vn,vi]⟩ 26)).heap.size (w.alloc (.cells ⟨[.int .i64 k,.int .i64 n,.float .f64 f,.string s,vn,vi]⟩ 26)) w'):=I (z1O _ _ _ (hv.next HB1.out))
 have d0:=zA w ⟨[.int .i64 k,.int .i64 n,.float .f64 f,.string s,vn,vi]⟩ 26 0
 have d1:=zA w ⟨[.int .i64 k,.int .i64 n,.float .f64 f,.string s,vn,vi]⟩ 26 1
 have d2:=zA w ⟨[.int .i64 k,.int .i64 n,.float .f64 f,.string s,vn,vi]⟩ 26 2
 simp only[List.getElem?_toArray,List.getElem?_cons_succ,List.getElem?_cons_zero] at d0 d1 d2
 have D1:=I d1
 have D2:=I d2
 have HSZ:=I (zt w (.cells ⟨[.int .i64 k,.int .i64 n,.float .f64 f,.string s,vn,vi]⟩ 26))
 have HCV:Hid (zN (.mk k n f s ns its)=(((k ==1) ||((k ==4) ||(((k ==2) && decide (0<=n)) ||((k ==3) && !(negB f))))) && zj (.mk k n f s ns its))):=I rfl
 clear hv hff
 generalize zj (.mk k n f s ns its)= rr at*
 rcases Classical.em (k= 1) with hk1|hk1
 ·subst hk1
  have HR:Hid (zN (.mk 1 n f s ns its)= rr):=I (by rw[HCV.out];cases rr<;>rfl)
  go_enter Tryz.func107,Tryz.ntmps107
  go_upto_region 1 with (fail)
  generalize w.alloc (.cells ⟨[.int .i64 1,.int .i64 n,.float .f64 f,.string s,vn,vi]⟩ 26)= W at*
  go_wp2_with (first|((with_reducible refine zc 26 _ rfl ?hwa w.heap.size 0 [.int .i64 1,.int .i64 n,.float .f64 f,.string s,vn,vi] _ rfl HRG.out Tryz.underlying26 rfl ?hia ?_);(case hwa=>(exact wantA rfl));(case hia=>kernel_rfl))|(go_at_call 37;refine HRT.out.mono ?_;rintro e z ⟨rfl,hb⟩;have HB2:=I hb;clear hb))
  go_ret
  exact⟨za HR.out.symm,HB1.out.trans (HB2.out.mono HB1.out.size)⟩
 rcases Classical.em (k= 4) with hk4|hk4
 ·subst hk4
  have HR:Hid (zN (.mk 4 n f s ns its)= rr):=I (by rw[HCV.out];cases rr<;>rfl)
  go_enter Tryz.func107,Tryz.ntmps107
  go_upto_region 1 with (fail)
  generalize w.alloc (.cells ⟨[.int .i64 4,.int .i64 n,.float .f64 f,.string s,vn,vi]⟩ 26)= W at*
  go_wp2_with (first|((with_reducible refine zc 26 _ rfl ?hwa w.heap.size 0 [.int .i64 4,.int .i64 n,.float .f64 f,.string s,vn,vi] _ rfl HRG.out Tryz.underlying26 rfl ?hia ?_);(case hwa=>(exact wantA rfl));(case hia=>kernel_rfl))|(go_at_call 37;refine HRT.out.mono ?_;rintro e z ⟨rfl,hb⟩;have HB2:=I hb;clear hb))
  go_ret
  exact⟨za HR.out.symm,HB1.out.trans (HB2.out.mono HB1.out.size)⟩
 rcases Classical.em (k= 2) with hk2|hk2
 ·subst hk2
  by_cases hn:n < 0
  ·have hn2: ¬ 0<=n:=by omega
   have HR:Hid (zN (.mk 2 n f s ns its)= false):=I (by rw[HCV.out];rw[decide_eq_false hn2];rfl)
   go_enter Tryz.func107,Tryz.ntmps107
   go_upto_region 1 with (fail)
   generalize w.alloc (.cells ⟨[.int .i64 2,.int .i64 n,.float .f64 f,.string s,vn,vi]⟩ 26)= W at*
   go_wp2_with (first|((with_reducible refine zc 26 _ rfl ?hwa w.heap.size 0 [.int .i64 2,.int .i64 n,.float .f64 f,.string s,vn,vi] _ rfl HRG.out Tryz.underlying26 rfl ?hia ?_);(case hwa=>(exact wantA rfl));(case hia=>kernel_rfl))|(go_at_call 37;refine HRT.out.mono ?_;rintro e z ⟨rfl,hb⟩;have HB2:=I hb;clear hb))
   go_ret
   exact⟨za HR.out.symm,HB1.out⟩
  ·have hn2:0<=n:=by omega
   have HR:Hid (zN (.mk 2 n f s ns its)= rr):=I (by rw[HCV.out];rw[decide_eq_true hn2];cases rr<;>rfl)
   go_enter Tryz.func107,Tryz.ntmps107
   go_upto_region 1 with (fail)
   generalize w.alloc (.cells ⟨[.int .i64 2,.int .i64 n,.float .f64 f,.string s,vn,vi]⟩ 26)= W at*
   go_wp2_with (first|((with_reducible refine zc 26 _ rfl ?hwa w.heap.size 0 [.int .i64 2,.int .i64 n,.float .f64 f,.string s,vn,vi] _ rfl HRG.out Tryz.underlying26 rfl ?hia ?_);(case hwa=>(exact wantA rfl));(case hia=>kernel_rfl))|(go_at_call 37;refine HRT.out.mono ?_;rintro e z ⟨rfl,hb⟩;have HB2:=I hb;clear hb))
   go_ret
   exact⟨za HR.out.symm,HB1.out.trans (HB2.out.mono HB1.out.size)⟩
 rcases Classical.em (k= 3) with hk3|hk3
 ·subst hk3
  have HFO:=I (fun w=>z0L f 0 hf (by decide) w)
  cases hlt:(fOrd f 0 ==some .lt) with
  |true=>
   have hneg:negB f= true:=decide_eq_true (zei hf hlt)
   have t1:(FloatKind.f64.format.order f 0 ==some .lt)= true:=hlt
   clear hlt
   have HR:Hid (zN (.mk 3 n f s ns its)= false):=I (by rw[HCV.out];rw[hneg];rfl)
   go_enter Tryz.func107,Tryz.ntmps107
   go_upto_region 1 with (fail)
   generalize w.alloc (.cells ⟨[.int .i64 3,.int .i64 n,.float .f64 f,.string s,vn,vi]⟩ 26)= W at*
   go_wp2_with (first|((with_reducible refine zc 26 _ rfl ?hwa w.heap.size 0 [.int .i64 3,.int .i64 n,.float .f64 f,.string s,vn,vi] _ rfl HRG.out Tryz.underlying26 rfl ?hia ?_);(case hwa=>(exact wantA rfl));(case hia=>kernel_rfl))|(go_at_call 37;refine HRT.out.mono ?_;rintro e z ⟨rfl,hb⟩;have HB2:=I hb;clear hb)|(go_at_call 145;refine(HFO.out _).mono ?_;rintro e z ⟨rfl,rfl⟩))
   go_ret
   exact⟨za HR.out.symm,HB1.out⟩
  |false=>
   have t1:(FloatKind.f64.format.order f 0 ==some .lt)= false:=hlt
   clear hlt
   by_cases hc:cmpF f 0 < 0
   ·have hneg:negB f= true:=decide_eq_true hc
    have HNG:=I hneg
    generalize cmpF f 0= cf at*
    have HR:Hid (zN (.mk 3 n f s ns its)= false):=I (by rw[HCV.out];rw[HNG.out];rfl)
    go_enter Tryz.func107,Tryz.ntmps107
    go_upto_region 1 with (fail)
    generalize w.alloc (.cells ⟨[.int .i64 3,.int .i64 n,.float .f64 f,.string s,vn,vi]⟩ 26)= W at*
    go_wp2_with (first|((with_reducible refine zc 26 _ rfl ?hwa w.heap.size 0 [.int .i64 3,.int .i64 n,.float .f64 f,.string s,vn,vi] _ rfl HRG.out Tryz.underlying26 rfl ?hia ?_);(case hwa=>(exact wantA rfl));(case hia=>kernel_rfl))|(go_at_call 37;refine HRT.out.mono ?_;rintro e z ⟨rfl,hb⟩;have HB2:=I hb;clear hb)|(go_at_call 145;refine(HFO.out _).mono ?_;rintro e z ⟨rfl,rfl⟩))
    go_ret
    exact⟨za HR.out.symm,HB1.out⟩
   ·have hneg:negB f= false:=decide_eq_false hc
    have HNG:=I hneg
    generalize cmpF f 0= cf at*
    have HR:Hid (zN (.mk 3 n f s ns its)= rr):=I (by rw[HCV.out];rw[HNG.out];cases rr<;>rfl)
    go_enter Tryz.func107,Tryz.ntmps107
    go_upto_region 1 with (fail)
    generalize w.alloc (.cells ⟨[.int .i64 3,.int .i64 n,.float .f64 f,.string s,vn,vi]⟩ 26)= W at*
    go_wp2_with (first|((with_reducible refine zc 26 _ rfl ?hwa w.heap.size 0 [.int .i64 3,.int .i64 n,.float .f64 f,.string s,vn,vi] _ rfl HRG.out Tryz.underlying26 rfl ?hia ?_);(case hwa=>(exact wantA rfl));(case hia=>kernel_rfl))|(go_at_call 37;refine HRT.out.mono ?_;rintro e z ⟨rfl,hb⟩;have HB2:=I hb;clear hb)|(go_at_call 145;refine(HFO.out _).mono ?_;rintro e z ⟨rfl,rfl⟩))
    go_ret
    exact⟨za HR.out.symm,HB1.out.trans (HB2.out.mono HB1.out.size)⟩
 have e1:(k ==1)= false:=by rw[beq_eq_false_iff_ne];exact hk1
 have e4:(k ==4)= false:=by rw[beq_eq_false_iff_ne];exact hk4
 have e2:(k ==2)= false:=by rw[beq_eq_false_iff_ne];exact hk2
 have e3:(k ==3)= false:=by rw[beq_eq_false_iff_ne];exact hk3
 have HR:Hid (zN (.mk k n f s ns its)= false):=I (by rw[HCV.out];rw[e1,e2,e3,e4];rfl)
 go_enter Tryz.func107,Tryz.ntmps107
 go_upto_region 1 with (fail)
 generalize w.alloc (.cells ⟨[.int .i64 k,.int .i64 n,.float .f64 f,.string s,vn,vi]⟩ 26)= W at*
 go_wp2_with (first|((with_reducible refine zc 26 _ rfl ?hwa w.heap.size 0 [.int .i64 k,.int .i64 n,.float .f64 f,.string s,vn,vi] _ rfl HRG.out Tryz.underlying26 rfl ?hia ?_);(case hwa=>(exact wantA rfl));(case hia=>kernel_rfl))|(go_at_call 37;refine HRT.out.mono ?_;rintro e z ⟨rfl,hb⟩;have HB2:=I hb;clear hb))
 go_ret
 exact⟨za HR.out.symm,HB1.out⟩
theorem z9L (t:VT) (cs:List Value) (w:World) (hv:ValAt w w.heap.size cs t) (HR0:∀ z,ValAt z z.heap.size cs t->Calls Tryz.prog 21 #[.agg ⟨cs⟩] z fun e w'=>e= .returned (.bool (zj t))/\Below z.heap.size z w'):Calls Tryz.prog 90 #[.agg ⟨cs⟩] w fun e w'=>e= .returned (.bool (zN t))/\Below w.heap.size w w':=by
 cases t with
 |mk k n f s ns its=>
 obtain⟨vn,vi,rfl,_,_,hff,_,_,_,_⟩:=hv.inv
 have hf:=wf64 hff
 have HB1:=I (ze w (.cells ⟨[.int .i64 k,.int .i64 n,.float .f64 f,.string s,vn,vi]⟩ 26))
 have HRG:=I (zq w [.int .i64 k,.int .i64 n,.float .f64 f,.string s,vn,vi] 26)
 have HRT:Hid (Calls Tryz.prog 21 #[.agg ⟨[.int .i64 k,.int .i64 n,.float .f64 f,.string s,vn,vi]⟩] (w.alloc (.cells ⟨[.int .i64 k,.int .i64 n,.float .f64 f,.string s,vn,vi]⟩ 26)) fun e w'=>e= .returned (.bool (zj (.mk k n f s ns its)))/\Below (w.alloc (.cells ⟨[.int .i64 k,.int .i64 n,.float .f64 f,.string s,vn,vi]⟩ 26)).heap.size (w.alloc (.cells ⟨[.int .i64 k,.int .i64 n,.float .f64 f,.string s,vn,vi]⟩ 26)) w'):=I (HR0 _ (hv.next HB1.out))
 have d0:=zA w ⟨[.int .i64 k,.int .i64 n,.float .f64 f,.string s,vn,vi]⟩ 26 0
 have d1:=zA w ⟨[.int .i64 k,.int .i64 n,.float .f64 f,.string s,vn,vi]⟩ 26 1
 have d2:=zA w ⟨[.int .i64 k,.int .i64 n,.float .f64 f,.string s,vn,vi]⟩ 26 2
 simp only[List.getElem?_toArray,List.getElem?_cons_succ,List.getElem?_cons_zero] at d0 d1 d2
 have D1:=I d1
 have D2:=I d2
 have HSZ:=I (zt w (.cells ⟨[.int .i64 k,.int .i64 n,.float .f64 f,.string s,vn,vi]⟩ 26))
 have HCV:Hid (zN (.mk k n f s ns its)=(((k ==1) ||((k ==4) ||(((k ==2) && decide (0<=n)) ||((k ==3) && !(negB f))))) && zj (.mk k n f s ns its))):=I rfl
 clear hv hff HR0
 generalize zj (.mk k n f s ns its)= rr at*
 rcases Classical.em (k= 1) with hk1|hk1
 ·subst hk1
  cases rr with
  |false=>
   have HR:Hid (zN (.mk 1 n f s ns its)= false):=I (by rw[HCV.out];rfl)
   go_enter Tryz.func90,Tryz.ntmps90
   go_upto_region 1 with (fail)
   generalize w.alloc (.cells ⟨[.int .i64 1,.int .i64 n,.float .f64 f,.string s,vn,vi]⟩ 26)= W at*
   go_wp2_with (first|((with_reducible refine zc 26 _ rfl ?hwa w.heap.size 0 [.int .i64 1,.int .i64 n,.float .f64 f,.string s,vn,vi] _ rfl HRG.out Tryz.underlying26 rfl ?hia ?_);(case hwa=>(exact wantA rfl));(case hia=>kernel_rfl))|(go_at_call 21;refine HRT.out.mono ?_;rintro e z ⟨rfl,hb⟩;have HB2:=I hb;have z1:=(hb.cell (p:=⟨w.heap.size,1,none⟩) HSZ.out).trans D1.out;have z2:=(hb.cell (p:=⟨w.heap.size,2,none⟩) HSZ.out).trans D2.out;clear hb))
   go_ret
   exact⟨za HR.out.symm,HB1.out.trans (HB2.out.mono HB1.out.size)⟩
  |true=>
   have HR:Hid (zN (.mk 1 n f s ns its)= true):=I (by rw[HCV.out];rfl)
   go_enter Tryz.func90,Tryz.ntmps90
   go_upto_region 1 with (fail)
   generalize w.alloc (.cells ⟨[.int .i64 1,.int .i64 n,.float .f64 f,.string s,vn,vi]⟩ 26)= W at*
   go_wp2_with (first|((with_reducible refine zc 26 _ rfl ?hwa w.heap.size 0 [.int .i64 1,.int .i64 n,.float .f64 f,.string s,vn,vi] _ rfl HRG.out Tryz.underlying26 rfl ?hia ?_);(case hwa=>(exact wantA rfl));(case hia=>kernel_rfl))|(go_at_call 21;refine HRT.out.mono ?_;rintro e z ⟨rfl,hb⟩;have HB2:=I hb;have z1:=(hb.cell (p:=⟨w.heap.size,1,none⟩) HSZ.out).trans D1.out;have z2:=(hb.cell (p:=⟨w.heap.size,2,none⟩) HSZ.out).trans D2.out;clear hb))
   go_ret
   exact⟨za HR.out.symm,HB1.out.trans (HB2.out.mono HB1.out.size)⟩
 rcases Classical.em (k= 4) with hk4|hk4
 ·subst hk4
  cases rr with
  |false=>
   have HR:Hid (zN (.mk 4 n f s ns its)= false):=I (by rw[HCV.out];rfl)
   go_enter Tryz.func90,Tryz.ntmps90
   go_upto_region 1 with (fail)
   generalize w.alloc (.cells ⟨[.int .i64 4,.int .i64 n,.float .f64 f,.string s,vn,vi]⟩ 26)= W at*
   go_wp2_with (first|((with_reducible refine zc 26 _ rfl ?hwa w.heap.size 0 [.int .i64 4,.int .i64 n,.float .f64 f,.string s,vn,vi] _ rfl HRG.out Tryz.underlying26 rfl ?hia ?_);(case hwa=>(exact wantA rfl));(case hia=>kernel_rfl))|(go_at_call 21;refine HRT.out.mono ?_;rintro e z ⟨rfl,hb⟩;have HB2:=I hb;have z1:=(hb.cell (p:=⟨w.heap.size,1,none⟩) HSZ.out).trans D1.out;have z2:=(hb.cell (p:=⟨w.heap.size,2,none⟩) HSZ.out).trans D2.out;clear hb))
   go_ret
   exact⟨za HR.out.symm,HB1.out.trans (HB2.out.mono HB1.out.size)⟩
  |true=>
   have HR:Hid (zN (.mk 4 n f s ns its)= true):=I (by rw[HCV.out];rfl)
   go_enter Tryz.func90,Tryz.ntmps90
   go_upto_region 1 with (fail)
   generalize w.alloc (.cells ⟨[.int .i64 4,.int .i64 n,.float .f64 f,.string s,vn,vi]⟩ 26)= W at*
   go_wp2_with (first|((with_reducible refine zc 26 _ rfl ?hwa w.heap.size 0 [.int .i64 4,.int .i64 n,.float .f64 f,.string s,vn,vi] _ rfl HRG.out Tryz.underlying26 rfl ?hia ?_);(case hwa=>(exact wantA rfl));(case hia=>kernel_rfl))|(go_at_call 21;refine HRT.out.mono ?_;rintro e z ⟨rfl,hb⟩;have HB2:=I hb;have z1:=(hb.cell (p:=⟨w.heap.size,1,none⟩) HSZ.out).trans D1.out;have z2:=(hb.cell (p:=⟨w.heap.size,2,none⟩) HSZ.out).trans D2.out;clear hb))
   go_ret
   exact⟨za HR.out.symm,HB1.out.trans (HB2.out.mono HB1.out.size)⟩
 rcases Classical.em (k= 2) with hk2|hk2
 ·subst hk2
  cases rr with
  |false=>
   have HR:Hid (zN (.mk 2 n f s ns its)= false):=I (by rw[HCV.out];cases decide (0<=n)<;>rfl)
   go_enter Tryz.func90,Tryz.ntmps90
   go_upto_region 1 with (fail)
   generalize w.alloc (.cells ⟨[.int .i64 2,.int .i64 n,.float .f64 f,.string s,vn,vi]⟩ 26)= W at*
   go_wp2_with (first|((with_reducible refine zc 26 _ rfl ?hwa w.heap.size 0 [.int .i64 2,.int .i64 n,.float .f64 f,.string s,vn,vi] _ rfl HRG.out Tryz.underlying26 rfl ?hia ?_);(case hwa=>(exact wantA rfl));(case hia=>kernel_rfl))|(go_at_call 21;refine HRT.out.mono ?_;rintro e z ⟨rfl,hb⟩;have HB2:=I hb;have z1:=(hb.cell (p:=⟨w.heap.size,1,none⟩) HSZ.out).trans D1.out;have z2:=(hb.cell (p:=⟨w.heap.size,2,none⟩) HSZ.out).trans D2.out;clear hb))
   go_ret
   exact⟨za HR.out.symm,HB1.out.trans (HB2.out.mono HB1.out.size)⟩
  |true=>
   by_cases hn:0<=n
   ·have HR:Hid (zN (.mk 2 n f s ns its)= true):=I (by rw[HCV.out];rw[decide_eq_true hn];rfl)
    go_enter Tryz.func90,Tryz.ntmps90
    go_upto_region 1 with (fail)
    generalize w.alloc (.cells ⟨[.int .i64 2,.int .i64 n,.float .f64 f,.string s,vn,vi]⟩ 26)= W at*
    go_wp2_with (first|((with_reducible refine zc 26 _ rfl ?hwa w.heap.size 0 [.int .i64 2,.int .i64 n,.float .f64 f,.string s,vn,vi] _ rfl HRG.out Tryz.underlying26 rfl ?hia ?_);(case hwa=>(exact wantA rfl));(case hia=>kernel_rfl))|(go_at_call 21;refine HRT.out.mono ?_;rintro e z ⟨rfl,hb⟩;have HB2:=I hb;have z1:=(hb.cell (p:=⟨w.heap.size,1,none⟩) HSZ.out).trans D1.out;have z2:=(hb.cell (p:=⟨w.heap.size,2,none⟩) HSZ.out).trans D2.out;clear hb))
    go_ret
    exact⟨za HR.out.symm,HB1.out.trans (HB2.out.mono HB1.out.size)⟩
   ·have HN:=I hn
    have HR:Hid (zN (.mk 2 n f s ns its)= false):=I (by rw[HCV.out];rw[decide_eq_false hn];rfl)
    go_enter Tryz.func90,Tryz.ntmps90
    go_upto_region 1 with (fail)
    generalize w.alloc (.cells ⟨[.int .i64 2,.int .i64 n,.float .f64 f,.string s,vn,vi]⟩ 26)= W at*
    go_wp2_with (first|((with_reducible refine zc 26 _ rfl ?hwa w.heap.size 0 [.int .i64 2,.int .i64 n,.float .f64 f,.string s,vn,vi] _ rfl HRG.out Tryz.underlying26 rfl ?hia ?_);(case hwa=>(exact wantA rfl));(case hia=>kernel_rfl))|(go_at_call 21;refine HRT.out.mono ?_;rintro e z ⟨rfl,hb⟩;have HB2:=I hb;have z1:=(hb.cell (p:=⟨w.heap.size,1,none⟩) HSZ.out).trans D1.out;have z2:=(hb.cell (p:=⟨w.heap.size,2,none⟩) HSZ.out).trans D2.out;clear hb))
    go_ret
    exact⟨za ((decide_eq_false (Int.not_le.2 HN.out)).trans HR.out.symm),HB1.out.trans (HB2.out.mono HB1.out.size)⟩
 rcases Classical.em (k= 3) with hk3|hk3
 ·subst hk3
  have HNA:=I (fun w=>z3j f hf w)
  have HTX:=I (fun w=>zdo f hf w)
  obtain⟨c,tl,htx,hc1,hc2⟩:=z9p hf
  have hdk:∃ T:ByteArray,(⟨(textF f).toArray⟩:ByteArray)= T/\0 < T.size/\T.data.toList[0]?= some c:=⟨_,rfl,by rw[htx];show 0 <(c::tl).toArray.size;simp,by rw[htx];rfl⟩
  obtain⟨T,hT,hT0,hT1⟩:=hdk
  rw[hT] at HTX
  have dk:=fun h=>zat (k:=0) (c:=c) hT1 h
  have hnn:nanR f= true->negB f= false:=fun h=>decide_eq_false fun h2=>by
   have:=((z7F hf).1 h2).1
   rw[z5R hf] at h
   exact this (of_decide_eq_true h)
  clear hT hT1 htx
  cases rr with
  |false=>
   have HR:Hid (zN (.mk 3 n f s ns its)= false):=I (by rw[HCV.out];cases negB f<;>rfl)
   go_enter Tryz.func90,Tryz.ntmps90
   go_upto_region 1 with (fail)
   generalize w.alloc (.cells ⟨[.int .i64 3,.int .i64 n,.float .f64 f,.string s,vn,vi]⟩ 26)= W at*
   go_wp2_with (first|((with_reducible refine zc 26 _ rfl ?hwa w.heap.size 0 [.int .i64 3,.int .i64 n,.float .f64 f,.string s,vn,vi] _ rfl HRG.out Tryz.underlying26 rfl ?hia ?_);(case hwa=>(exact wantA rfl));(case hia=>kernel_rfl))|(go_at_call 21;refine HRT.out.mono ?_;rintro e z ⟨rfl,hb⟩;have HB2:=I hb;have z1:=(hb.cell (p:=⟨w.heap.size,1,none⟩) HSZ.out).trans D1.out;have z2:=(hb.cell (p:=⟨w.heap.size,2,none⟩) HSZ.out).trans D2.out;clear hb)|(go_at_call 138;refine(HNA.out _).mono ?_;rintro e z ⟨rfl,rfl⟩)|(go_at_call 139;refine(HTX.out _).mono ?_;rintro e z3 ⟨rfl,hb⟩;have HB3:=I hb;clear hb))
   go_ret
   exact⟨za HR.out.symm,HB1.out.trans (HB2.out.mono HB1.out.size)⟩
  |true=>
   cases hna:nanR f with
   |true=>
    have HNG:=I (hnn hna)
    rw[hna] at HNA
    clear hna hc1 hc2 hnn
    have HR:Hid (zN (.mk 3 n f s ns its)= true):=I (by rw[HCV.out];rw[HNG.out];rfl)
    go_enter Tryz.func90,Tryz.ntmps90
    go_upto_region 1 with (fail)
    generalize w.alloc (.cells ⟨[.int .i64 3,.int .i64 n,.float .f64 f,.string s,vn,vi]⟩ 26)= W at*
    go_wp2_with (first|((with_reducible refine zc 26 _ rfl ?hwa w.heap.size 0 [.int .i64 3,.int .i64 n,.float .f64 f,.string s,vn,vi] _ rfl HRG.out Tryz.underlying26 rfl ?hia ?_);(case hwa=>(exact wantA rfl));(case hia=>kernel_rfl))|(go_at_call 21;refine HRT.out.mono ?_;rintro e z ⟨rfl,hb⟩;have HB2:=I hb;have z1:=(hb.cell (p:=⟨w.heap.size,1,none⟩) HSZ.out).trans D1.out;have z2:=(hb.cell (p:=⟨w.heap.size,2,none⟩) HSZ.out).trans D2.out;clear hb)|(go_at_call 138;refine(HNA.out _).mono ?_;rintro e z ⟨rfl,rfl⟩)|(go_at_call 139;refine(HTX.out _).mono ?_;rintro e z3 ⟨rfl,hb⟩;have HB3:=I hb;clear hb))
    go_ret
    exact⟨za HR.out.symm,HB1.out.trans (HB2.out.mono HB1.out.size)⟩
   |false=>
    rw[hna] at HNA
    cases hng:negB f with
    |true=>
     have HNG:=I hng
     obtain rfl:=hc1 hng
     clear hna hc1 hc2 hnn hng
     have HR:Hid (zN (.mk 3 n f s ns its)= false):=I (by rw[HCV.out];rw[HNG.out];rfl)
     go_enter Tryz.func90,Tryz.ntmps90
     go_upto_region 1 with (fail)
     generalize w.alloc (.cells ⟨[.int .i64 3,.int .i64 n,.float .f64 f,.string s,vn,vi]⟩ 26)= W at*
     go_wp2_with (first|((with_reducible refine zc 26 _ rfl ?hwa w.heap.size 0 [.int .i64 3,.int .i64 n,.float .f64 f,.string s,vn,vi] _ rfl HRG.out Tryz.underlying26 rfl ?hia ?_);(case hwa=>(exact wantA rfl));(case hia=>kernel_rfl))|(go_at_call 21;refine HRT.out.mono ?_;rintro e z ⟨rfl,hb⟩;have HB2:=I hb;have z1:=(hb.cell (p:=⟨w.heap.size,1,none⟩) HSZ.out).trans D1.out;have z2:=(hb.cell (p:=⟨w.heap.size,2,none⟩) HSZ.out).trans D2.out;clear hb)|(go_at_call 138;refine(HNA.out _).mono ?_;rintro e z ⟨rfl,rfl⟩)|(go_at_call 139;refine(HTX.out _).mono ?_;rintro e z3 ⟨rfl,hb⟩;have HB3:=I hb;clear hb))
     go_ret
     exact⟨za HR.out.symm,(HB1.out.trans (HB2.out.mono HB1.out.size)).trans (HB3.out.mono (Nat.le_trans HB1.out.size HB2.out.size))⟩
    |false=>
     have HNG:=I hng
     have hne:((c.toNat:Int) ==45)= false:=by
      rw[beq_eq_false_iff_ne]
      intro h
      have:=hc2 hng hna
      exact this (UInt8.toNat_inj.1 (by show c.toNat= 45;omega))
     have HNE:=I hne
     clear hna hc1 hc2 hnn hng
     have HR:Hid (zN (.mk 3 n f s ns its)= true):=I (by rw[HCV.out];rw[HNG.out];rfl)
     go_enter Tryz.func90,Tryz.ntmps90
     go_upto_region 1 with (fail)
     generalize w.alloc (.cells ⟨[.int .i64 3,.int .i64 n,.float .f64 f,.string s,vn,vi]⟩ 26)= W at*
     go_wp2_with (first|((with_reducible refine zc 26 _ rfl ?hwa w.heap.size 0 [.int .i64 3,.int .i64 n,.float .f64 f,.string s,vn,vi] _ rfl HRG.out Tryz.underlying26 rfl ?hia ?_);(case hwa=>(exact wantA rfl));(case hia=>kernel_rfl))|(go_at_call 21;refine HRT.out.mono ?_;rintro e z ⟨rfl,hb⟩;have HB2:=I hb;have z1:=(hb.cell (p:=⟨w.heap.size,1,none⟩) HSZ.out).trans D1.out;have z2:=(hb.cell (p:=⟨w.heap.size,2,none⟩) HSZ.out).trans D2.out;clear hb)|(go_at_call 138;refine(HNA.out _).mono ?_;rintro e z ⟨rfl,rfl⟩)|(go_at_call 139;refine(HTX.out _).mono ?_;rintro e z3 ⟨rfl,hb⟩;have HB3:=I hb;clear hb))
     go_ret
     exact⟨za ((by show(!((c.toNat:Int) ==45))= true;rw[HNE.out];rfl:((c.toNat:Int) !=45)= true).trans HR.out.symm),(HB1.out.trans (HB2.out.mono HB1.out.size)).trans (HB3.out.mono (Nat.le_trans HB1.out.size HB2.out.size))⟩
 have e1:(k ==1)= false:=by rw[beq_eq_false_iff_ne];exact hk1
 have e4:(k ==4)= false:=by rw[beq_eq_false_iff_ne];exact hk4
 have e2:(k ==2)= false:=by rw[beq_eq_false_iff_ne];exact hk2
 have e3:(k ==3)= false:=by rw[beq_eq_false_iff_ne];exact hk3
 have HR:Hid (zN (.mk k n f s ns its)= false):=I (by rw[HCV.out];rw[e1,e2,e3,e4];rfl)
 go_enter Tryz.func90,Tryz.ntmps90
 go_upto_region 1 with (fail)
 generalize w.alloc (.cells ⟨[.int .i64 k,.int .i64 n,.float .f64 f,.string s,vn,vi]⟩ 26)= W at*
 go_wp2_with (first|((with_reducible refine zc 26 _ rfl ?hwa w.heap.size 0 [.int .i64 k,.int .i64 n,.float .f64 f,.string s,vn,vi] _ rfl HRG.out Tryz.underlying26 rfl ?hia ?_);(case hwa=>(exact wantA rfl));(case hia=>kernel_rfl))|(go_at_call 21;refine HRT.out.mono ?_;rintro e z ⟨rfl,hb⟩;have HB2:=I hb;have z1:=(hb.cell (p:=⟨w.heap.size,1,none⟩) HSZ.out).trans D1.out;have z2:=(hb.cell (p:=⟨w.heap.size,2,none⟩) HSZ.out).trans D2.out;clear hb))
 go_ret
 exact⟨za HR.out.symm,HB1.out⟩
end
section
open Go Go.RowKit
def kidsB (z:Int) (n:Nat):Bool:=!(z == -2) && (decide (z < 0) ||((n:Int) ==z))
def noneV:VT->Bool
 | .mk k n f s ns its=>noneB k n f s ns.length its.length
def valB (k:Int) (v:VT):Bool:=if k= 1 then zN v else noneV v
mutual
def z04:ET->Nat->Bool
 | .mk k s v ns its,d=>decide (d<=12) && (kidsB (z0r k) its.length && (zL k s ns its.length && (valB k v && zU its (d+1))))
def zU:List ET->Nat->Bool
 |[],_=>true
 |a::l,d=>z04 a d && zU l d
end
theorem z0X {l:List ET} {j d:Nat} {x:ET} (h:l[j]?= some x):zU (l.drop j) d=(z04 x d && zU (l.drop (j+1)) d):=by
 rw[z4R h,zU]
theorem z16 {l:List ET} {d:Nat}:zU (l.drop l.length) d= true:=by
 rw[List.drop_eq_nil_of_le (Nat.le_refl _),zU]
theorem z4u (k:Int): -2<=z0r k/\z0r k<=3:=by
 unfold z0r
 (repeat' split)<;>omega
theorem z3a {w:World} {p o i:Nat} {cs ds:List Value} (h:w.rangeAt p o cs) (hd:∀ j v,ds[j]?= some v->cs[i+j]?= some v):w.rangeAt p (o+i) ds:=fun j v hv=>by
 have:=h (i+j) v (hd j v hv)
 rw[show o+i+j= o+ (i+j) by omega];exact this
theorem z3T {w w':World} {p o:Nat} {cs:List Value} (h:w.rangeAt p o cs) (hb:Below w.heap.size w w') (hp:p < w.heap.size):w'.rangeAt p o cs:=zd h hb hp
theorem z99:∀ (t:ET) (d:Nat) (cs:List Value) (p o:Nat) (w:World),d<=13->w.rangeAt p o cs->ExpAt w w.heap.size cs t->
  Calls Tryz.prog 61 #[.pointer (some ⟨p,o,none⟩),.int .i64 d] w fun e w'=>e= .returned (.bool (z04 t d))/\Below w.heap.size w w':=by
 intro t
 induction t using ET.ind with
 |h k s v ns its ih=>
  intro d cs p o w hd13 hr hv
  have IH:=I ih
  obtain⟨v0,v1,v2,v3,v4,v5,vn0,vi0,rfl,_,_,hvv,hns,hil,hi⟩:=hv.inv
  obtain⟨_,A,c,rfl,hA⟩:=hi
  obtain⟨_,NA,nc,rfl,_⟩:=id hns
  cases v with
  |mk vk vn vf vs vns vits=>
  obtain⟨u0,u1,hcv,_,_,hvf,_,hvns,_,hvi⟩:=hvv.inv
  obtain⟨_,VA,vc,rfl,_⟩:=hvns
  obtain⟨_,VD,vd,rfl,_⟩:=hvi
  simp only[List.cons.injEq,and_true] at hcv
  obtain⟨rfl,rfl,rfl,rfl,rfl,rfl⟩:=hcv
  have hvf':=wf64 hvf
  have HA:=I hA
  have d0:w.cell? ⟨p,o,none⟩= some (.int .i64 k):=hr 0 _ rfl
  have d9:w.cell? ⟨p,o+9,none⟩= some (.slice A its.length c):=hr 9 _ rfl
  have HPL:Hid (p < w.heap.size):=I (z2a d0)
  have D0:=I d0
  have D9:=I d9
  have HRV:Hid (w.rangeAt p (o+2) [.int .i64 vk,.int .i64 vn,.float .f64 vf,.string vs,.slice VA vns.length vc,.slice VD vits.length vd]):=I (z3a hr (fun j x h=>match j,h with|0,h=>h|1,h=>h|2,h=>h|3,h=>h|4,h=>h|5,h=>h|j+6,h=>by simp at h))
  have HNM:=I (zaJ k p o s (.int .i64 vk) (.int .i64 vn) (.float .f64 vf) (.string vs) (.slice VA vns.length vc) (.slice VD vits.length vd) NA A nc its.length c ns w hr hns)
  have HKD:=I (fun w=>zcC k w)
  have HVV:=I hvv
  have HVF:=I hvf'
  have HRE:Hid (z04 (.mk k s (.mk vk vn vf vs vns vits) ns its) d=(decide (d<=12) && (kidsB (z0r k) its.length && (zL k s ns its.length && (valB k (.mk vk vn vf vs vns vits) && zU its (d+1)))))):=I (by rw[z04])
  have HWR:=z4u k
  obtain⟨zz,hz⟩:∃ z,z0r k= z:=⟨_,rfl⟩
  rw[hz] at HKD HRE HWR
  unfold maxLen at hil
  clear hr hv ih hA hns hvf hvf' hvv hz
  generalize z04 (.mk k s (.mk vk vn vf vs vns vits) ns its) d= res at*
  by_cases hd:d<=12
  ·have hd': ¬ ((d:Int) > 12):=by omega
   have HD:=I hd
   by_cases hz2:zz= -2
   ·have e2:(zz == -2)= true:=by simpa using hz2
    have HR:Hid (res= false):=I (by rw[HRE.out,(by unfold kidsB;rw[e2];rfl:kidsB zz its.length= false)];simp)
    go_enter Tryz.func61,Tryz.ntmps61
    go_wp2_with (go_at_call 105;refine(HKD.out _).mono ?_;rintro e z ⟨rfl,hzw⟩;rw[hzw];clear hzw z)
    go_ret
    exact⟨za HR.out.symm,Below.refl _ _⟩
   have e2:(zz == -2)= false:=by simpa using hz2
   by_cases hko:kidsB zz its.length= false
   ·have hz0:0<=zz/\¬ (its.length:Int)= zz:=by
     unfold kidsB at hko
     rw[e2] at hko
     simp at hko
     omega
    obtain⟨hz0,hz1⟩:=hz0
    have HR:Hid (res= false):=I (by rw[HRE.out,hko];simp)
    go_enter Tryz.func61,Tryz.ntmps61
    go_wp2_with (go_at_call 105;refine(HKD.out _).mono ?_;rintro e z ⟨rfl,hzw⟩;rw[hzw];clear hzw z)
    go_ret
    exact⟨za HR.out.symm,Below.refl _ _⟩
   have hko2:kidsB zz its.length= true:=by simpa using hko
   have HKO:=I hko2
   have hzc:zz < 0\/(its.length:Int)= zz:=by
    unfold kidsB at hko2
    rw[e2] at hko2
    simp at hko2
    exact hko2
   clear hko hko2
   rw[HKO.out,decide_eq_true HD.out,Bool.true_and,Bool.true_and] at HRE
   cases hnm:zL k s ns its.length with
   |false=>
    rw[hnm] at HNM HRE
    clear hnm
    rcases hzc with hz0|hz1
    ·have hz0': ¬ (0<=zz):=by omega
     clear hz0
     have HR:Hid (res= false):=I (HRE.out.trans (Bool.false_and _))
     go_enter Tryz.func61,Tryz.ntmps61
     go_wp2_with (first|(go_at_call 105;refine(HKD.out _).mono ?_;rintro e z ⟨rfl,hzw⟩;rw[hzw];clear hzw z)|(go_at_call 106;refine HNM.out.mono ?_;rintro e w1 ⟨rfl,hb⟩;have HB1:=I hb;have x0:=(hb.cell (p:=⟨p,o,none⟩) HPL.out).trans D0.out;have x9:=(hb.cell (p:=⟨p,o+9,none⟩) HPL.out).trans D9.out;clear hb))
     go_ret
     exact⟨za HR.out.symm,HB1.out⟩
    ·subst hz1
     have hz0':0<=(its.length:Int):=by omega
     have HR:Hid (res= false):=I (HRE.out.trans (Bool.false_and _))
     go_enter Tryz.func61,Tryz.ntmps61
     go_wp2_with (first|(go_at_call 105;refine(HKD.out _).mono ?_;rintro e z ⟨rfl,hzw⟩;rw[hzw];clear hzw z)|(go_at_call 106;refine HNM.out.mono ?_;rintro e w1 ⟨rfl,hb⟩;have HB1:=I hb;have x0:=(hb.cell (p:=⟨p,o,none⟩) HPL.out).trans D0.out;have x9:=(hb.cell (p:=⟨p,o+9,none⟩) HPL.out).trans D9.out;clear hb))
     go_ret
     exact⟨za HR.out.symm,HB1.out⟩
   |true=>
    rw[hnm,Bool.true_and] at HRE
    rw[hnm] at HNM
    clear hnm
    rcases hzc with hz0|hz1
    ·have hz0': ¬ (0<=zz):=by omega
     clear hz0
     go_enter Tryz.func61,Tryz.ntmps61
     go_upto_region 4 with (first|(go_at_call 105;refine(HKD.out _).mono ?_;rintro e z ⟨rfl,hzw⟩;rw[hzw];clear hzw z)|(go_at_call 106;refine HNM.out.mono ?_;rintro e w1 ⟨rfl,hb⟩;have HB1:=I hb;have x0:=(hb.cell (p:=⟨p,o,none⟩) HPL.out).trans D0.out;have x9:=(hb.cell (p:=⟨p,o+9,none⟩) HPL.out).trans D9.out;clear hb))
     have X9:=I x9
     have X0:=I x0
     have HRV1:=I (z3T HRV.out HB1.out HPL.out)
     clear x9
     by_cases hk1:k= 1
     ·subst hk1
      have HCC:=I (z6c (.mk vk vn vf vs vns vits) [.int .i64 vk,.int .i64 vn,.float .f64 vf,.string vs,.slice VA vns.length vc,.slice VD vits.length vd] w1 ((HVV.out.under HB1.out).more HB1.out.size))
      have hval:valB 1 (.mk vk vn vf vs vns vits)= zN (.mk vk vn vf vs vns vits):=by unfold valB;rw[if_pos rfl]
      rw[hval] at HRE
      cases hvb:zN (.mk vk vn vf vs vns vits) with
      |false=>
       have HR:Hid (res= false):=I (HRE.out.trans (by rw[hvb];exact Bool.false_and _))
       rw[hvb] at HCC
       clear hvb hval
       go_wp2_with (first|((with_reducible refine zc 26 _ rfl ?hwa p (o+2) [.int .i64 vk,.int .i64 vn,.float .f64 vf,.string vs,.slice VA vns.length vc,.slice VD vits.length vd] _ rfl HRV1.out Tryz.underlying26 rfl ?hia ?_);(case hwa=>(exact wantA rfl));(case hia=>kernel_rfl))|(go_at_call 107;refine HCC.out.mono ?_;rintro e w2 ⟨rfl,hb⟩;have HB2:=I hb;have y0:=(hb.cell (p:=⟨p,o,none⟩) (Nat.lt_of_lt_of_le HPL.out HB1.out.size)).trans X0.out;have y9:=(hb.cell (p:=⟨p,o+9,none⟩) (Nat.lt_of_lt_of_le HPL.out HB1.out.size)).trans X9.out;clear hb))
       go_ret
       exact⟨za HR.out.symm,HB1.out.trans (HB2.out.mono HB1.out.size)⟩
      |true=>
       have HRR:Hid (res= zU its (d+1)):=I (HRE.out.trans (by rw[hvb,Bool.true_and]))
       rw[hvb] at HCC
       clear hvb hval
       go_upto_region 7 with (first|((with_reducible refine zc 26 _ rfl ?hwa p (o+2) [.int .i64 vk,.int .i64 vn,.float .f64 vf,.string vs,.slice VA vns.length vc,.slice VD vits.length vd] _ rfl HRV1.out Tryz.underlying26 rfl ?hia ?_);(case hwa=>(exact wantA rfl));(case hia=>kernel_rfl))|(go_at_call 107;refine HCC.out.mono ?_;rintro e w2 ⟨rfl,hb⟩;have HB2:=I hb;have y0:=(hb.cell (p:=⟨p,o,none⟩) (Nat.lt_of_lt_of_le HPL.out HB1.out.size)).trans X0.out;have y9:=(hb.cell (p:=⟨p,o+9,none⟩) (Nat.lt_of_lt_of_le HPL.out HB1.out.size)).trans X9.out;clear hb))
       clear y9
       go_loopg [68] its.length (fun q x u=>∃ j:Nat,j+q= its.length/\x= .int .i64 j/\Below w.heap.size w u/\zU (its.drop j) (d+1)= res)
       case atStart=>exact⟨0,by omega,rfl,HB1.out.trans (HB2.out.mono HB1.out.size),HRR.out.symm⟩
       case round=>
        obtain⟨j,hj,rfl,hbu,hres⟩:=hrel
        have HBU:=I hbu
        have HR:=I hres
        have u9:=(hbu.cell (p:=⟨p,o+9,none⟩) HPL.out).trans D9.out
        clear hbu hres
        cases gk with
        |zero=>
         obtain rfl:j= its.length:=by omega
         have hge: ¬ ((its.length:Int) <(its.length:Int)):=by omega
         have HV:=I (HR.out.symm.trans z16)
         go_wp2
         go_ret
         exact⟨za HV.out.symm,HBU.out⟩
        |succ q=>
         have hlt:(j:Int) <(its.length:Int):=by omega
         obtain⟨y,hy⟩:∃ y,its[j]?= some y:=⟨_,List.getElem?_eq_getElem (by omega)⟩
         obtain⟨b,ob,rfl,hbl,hc⟩:=HA.out (by omega)
         obtain⟨ks,hkl,hks,hvx⟩:=hc j y hy
         have HV:=I (HR.out.symm.trans (z0X hy))
         have HC:=I (IH.out y (List.mem_of_getElem? hy) (d+1) ks b (ob+j*10) wr (by omega) (zd hks HBU.out hbl) ((hvx.under HBU.out).more HBU.out.size))
         clear hc hks hvx hy HR hkl hbl
         cases hrc:z04 y (d+1) with
         |false=>
          have HV2:Hid (res= false):=I (HV.out.trans (by rw[hrc];exact Bool.false_and _))
          rw[hrc] at HC
          clear hrc
          go_wp2_with (go_at_call 61;refine HC.out.mono ?_;rintro e w4 ⟨rfl,hb⟩;have HB4:=I hb;clear hb)
          go_ret
          exact⟨za HV2.out.symm,HBU.out.trans (HB4.out.mono HBU.out.size)⟩
         |true=>
          have HV2:=I (HV.out.trans (by rw[hrc,Bool.true_and]))
          rw[hrc] at HC
          clear hrc
          go_wp2_with (go_at_call 61;refine HC.out.mono ?_;rintro e w4 ⟨rfl,hb⟩;have HB4:=I hb;clear hb)
          go_roundg q
          case measure=>omega
          case rel=>exact⟨j+1,by omega,by go_num,HBU.out.trans (HB4.out.mono HBU.out.size),HV2.out.symm⟩
     ·have hk1n:(k !=1)= true:=by simpa using hk1
      have HCC:=I (z4p p (o+2) vk vn vf vs VA VD vns.length vits.length vc vd w1 HVF.out HRV1.out)
      have hval:valB k (.mk vk vn vf vs vns vits)= noneB vk vn vf vs vns.length vits.length:=by unfold valB;rw[if_neg hk1];rfl
      rw[hval] at HRE
      have x9:=X9.out
      cases hvb:noneB vk vn vf vs vns.length vits.length with
      |false=>
       have HR:Hid (res= false):=I (HRE.out.trans (by rw[hvb];exact Bool.false_and _))
       rw[hvb] at HCC
       clear hvb hval
       go_wp2_with (go_at_call 108;refine HCC.out.mono ?_;rintro e w2 ⟨rfl,hzw⟩;rw[hzw];clear hzw w2)
       go_ret
       exact⟨za HR.out.symm,HB1.out⟩
      |true=>
       have HRR:Hid (res= zU its (d+1)):=I (HRE.out.trans (by rw[hvb,Bool.true_and]))
       rw[hvb] at HCC
       clear hvb hval
       go_upto_region 7 with (go_at_call 108;refine HCC.out.mono ?_;rintro e w2 ⟨rfl,hzw⟩;rw[hzw];clear hzw w2)
       clear x9
       go_loopg [68] its.length (fun q x u=>∃ j:Nat,j+q= its.length/\x= .int .i64 j/\Below w.heap.size w u/\zU (its.drop j) (d+1)= res)
       case atStart=>exact⟨0,by omega,rfl,HB1.out,HRR.out.symm⟩
       case round=>
        obtain⟨j,hj,rfl,hbu,hres⟩:=hrel
        have HBU:=I hbu
        have HR:=I hres
        have u9:=(hbu.cell (p:=⟨p,o+9,none⟩) HPL.out).trans D9.out
        clear hbu hres
        cases gk with
        |zero=>
         obtain rfl:j= its.length:=by omega
         have hge: ¬ ((its.length:Int) <(its.length:Int)):=by omega
         have HV:=I (HR.out.symm.trans z16)
         go_wp2
         go_ret
         exact⟨za HV.out.symm,HBU.out⟩
        |succ q=>
         have hlt:(j:Int) <(its.length:Int):=by omega
         obtain⟨y,hy⟩:∃ y,its[j]?= some y:=⟨_,List.getElem?_eq_getElem (by omega)⟩
         obtain⟨b,ob,rfl,hbl,hc⟩:=HA.out (by omega)
         obtain⟨ks,hkl,hks,hvx⟩:=hc j y hy
         have HV:=I (HR.out.symm.trans (z0X hy))
         have HC:=I (IH.out y (List.mem_of_getElem? hy) (d+1) ks b (ob+j*10) wr (by omega) (zd hks HBU.out hbl) ((hvx.under HBU.out).more HBU.out.size))
         clear hc hks hvx hy HR hkl hbl
         cases hrc:z04 y (d+1) with
         |false=>
          have HV2:Hid (res= false):=I (HV.out.trans (by rw[hrc];exact Bool.false_and _))
          rw[hrc] at HC
          clear hrc
          go_wp2_with (go_at_call 61;refine HC.out.mono ?_;rintro e w4 ⟨rfl,hb⟩;have HB4:=I hb;clear hb)
          go_ret
          exact⟨za HV2.out.symm,HBU.out.trans (HB4.out.mono HBU.out.size)⟩
         |true=>
          have HV2:=I (HV.out.trans (by rw[hrc,Bool.true_and]))
          rw[hrc] at HC
          clear hrc
          go_wp2_with (go_at_call 61;refine HC.out.mono ?_;rintro e w4 ⟨rfl,hb⟩;have HB4:=I hb;clear hb)
          go_roundg q
          case measure=>omega
          case rel=>exact⟨j+1,by omega,by go_num,HBU.out.trans (HB4.out.mono HBU.out.size),HV2.out.symm⟩
    ·subst hz1
     have hz0':0<=(its.length:Int):=by omega
     go_enter Tryz.func61,Tryz.ntmps61
     go_upto_region 4 with (first|(go_at_call 105;refine(HKD.out _).mono ?_;rintro e z ⟨rfl,hzw⟩;rw[hzw];clear hzw z)|(go_at_call 106;refine HNM.out.mono ?_;rintro e w1 ⟨rfl,hb⟩;have HB1:=I hb;have x0:=(hb.cell (p:=⟨p,o,none⟩) HPL.out).trans D0.out;have x9:=(hb.cell (p:=⟨p,o+9,none⟩) HPL.out).trans D9.out;clear hb))
     have X9:=I x9
     have X0:=I x0
     have HRV1:=I (z3T HRV.out HB1.out HPL.out)
     clear x9
     by_cases hk1:k= 1
     ·subst hk1
      have HCC:=I (z6c (.mk vk vn vf vs vns vits) [.int .i64 vk,.int .i64 vn,.float .f64 vf,.string vs,.slice VA vns.length vc,.slice VD vits.length vd] w1 ((HVV.out.under HB1.out).more HB1.out.size))
      have hval:valB 1 (.mk vk vn vf vs vns vits)= zN (.mk vk vn vf vs vns vits):=by unfold valB;rw[if_pos rfl]
      rw[hval] at HRE
      cases hvb:zN (.mk vk vn vf vs vns vits) with
      |false=>
       have HR:Hid (res= false):=I (HRE.out.trans (by rw[hvb];exact Bool.false_and _))
       rw[hvb] at HCC
       clear hvb hval
       go_wp2_with (first|((with_reducible refine zc 26 _ rfl ?hwa p (o+2) [.int .i64 vk,.int .i64 vn,.float .f64 vf,.string vs,.slice VA vns.length vc,.slice VD vits.length vd] _ rfl HRV1.out Tryz.underlying26 rfl ?hia ?_);(case hwa=>(exact wantA rfl));(case hia=>kernel_rfl))|(go_at_call 107;refine HCC.out.mono ?_;rintro e w2 ⟨rfl,hb⟩;have HB2:=I hb;have y0:=(hb.cell (p:=⟨p,o,none⟩) (Nat.lt_of_lt_of_le HPL.out HB1.out.size)).trans X0.out;have y9:=(hb.cell (p:=⟨p,o+9,none⟩) (Nat.lt_of_lt_of_le HPL.out HB1.out.size)).trans X9.out;clear hb))
       go_ret
       exact⟨za HR.out.symm,HB1.out.trans (HB2.out.mono HB1.out.size)⟩
      |true=>
       have HRR:Hid (res= zU its (d+1)):=I (HRE.out.trans (by rw[hvb,Bool.true_and]))
       rw[hvb] at HCC
       clear hvb hval
       go_upto_region 7 with (first|((with_reducible refine zc 26 _ rfl ?hwa p (o+2) [.int .i64 vk,.int .i64 vn,.float .f64 vf,.string vs,.slice VA vns.length vc,.slice VD vits.length vd] _ rfl HRV1.out Tryz.underlying26 rfl ?hia ?_);(case hwa=>(exact wantA rfl));(case hia=>kernel_rfl))|(go_at_call 107;refine HCC.out.mono ?_;rintro e w2 ⟨rfl,hb⟩;have HB2:=I hb;have y0:=(hb.cell (p:=⟨p,o,none⟩) (Nat.lt_of_lt_of_le HPL.out HB1.out.size)).trans X0.out;have y9:=(hb.cell (p:=⟨p,o+9,none⟩) (Nat.lt_of_lt_of_le HPL.out HB1.out.size)).trans X9.out;clear hb))
       clear y9
       go_loopg [68] its.length (fun q x u=>∃ j:Nat,j+q= its.length/\x= .int .i64 j/\Below w.heap.size w u/\zU (its.drop j) (d+1)= res)
       case atStart=>exact⟨0,by omega,rfl,HB1.out.trans (HB2.out.mono HB1.out.size),HRR.out.symm⟩
       case round=>
        obtain⟨j,hj,rfl,hbu,hres⟩:=hrel
        have HBU:=I hbu
        have HR:=I hres
        have u9:=(hbu.cell (p:=⟨p,o+9,none⟩) HPL.out).trans D9.out
        clear hbu hres
        cases gk with
        |zero=>
         obtain rfl:j= its.length:=by omega
         have hge: ¬ ((its.length:Int) <(its.length:Int)):=by omega
         have HV:=I (HR.out.symm.trans z16)
         go_wp2
         go_ret
         exact⟨za HV.out.symm,HBU.out⟩
        |succ q=>
         have hlt:(j:Int) <(its.length:Int):=by omega
         obtain⟨y,hy⟩:∃ y,its[j]?= some y:=⟨_,List.getElem?_eq_getElem (by omega)⟩
         obtain⟨b,ob,rfl,hbl,hc⟩:=HA.out (by omega)
         obtain⟨ks,hkl,hks,hvx⟩:=hc j y hy
         have HV:=I (HR.out.symm.trans (z0X hy))
         have HC:=I (IH.out y (List.mem_of_getElem? hy) (d+1) ks b (ob+j*10) wr (by omega) (zd hks HBU.out hbl) ((hvx.under HBU.out).more HBU.out.size))
         clear hc hks hvx hy HR hkl hbl
         cases hrc:z04 y (d+1) with
         |false=>
          have HV2:Hid (res= false):=I (HV.out.trans (by rw[hrc];exact Bool.false_and _))
          rw[hrc] at HC
          clear hrc
          go_wp2_with (go_at_call 61;refine HC.out.mono ?_;rintro e w4 ⟨rfl,hb⟩;have HB4:=I hb;clear hb)
          go_ret
          exact⟨za HV2.out.symm,HBU.out.trans (HB4.out.mono HBU.out.size)⟩
         |true=>
          have HV2:=I (HV.out.trans (by rw[hrc,Bool.true_and]))
          rw[hrc] at HC
          clear hrc
          go_wp2_with (go_at_call 61;refine HC.out.mono ?_;rintro e w4 ⟨rfl,hb⟩;have HB4:=I hb;clear hb)
          go_roundg q
          case measure=>omega
          case rel=>exact⟨j+1,by omega,by go_num,HBU.out.trans (HB4.out.mono HBU.out.size),HV2.out.symm⟩
     ·have hk1n:(k !=1)= true:=by simpa using hk1
      have HCC:=I (z4p p (o+2) vk vn vf vs VA VD vns.length vits.length vc vd w1 HVF.out HRV1.out)
      have hval:valB k (.mk vk vn vf vs vns vits)= noneB vk vn vf vs vns.length vits.length:=by unfold valB;rw[if_neg hk1];rfl
      rw[hval] at HRE
      have x9:=X9.out
      cases hvb:noneB vk vn vf vs vns.length vits.length with
      |false=>
       have HR:Hid (res= false):=I (HRE.out.trans (by rw[hvb];exact Bool.false_and _))
       rw[hvb] at HCC
       clear hvb hval
       go_wp2_with (go_at_call 108;refine HCC.out.mono ?_;rintro e w2 ⟨rfl,hzw⟩;rw[hzw];clear hzw w2)
       go_ret
       exact⟨za HR.out.symm,HB1.out⟩
      |true=>
       have HRR:Hid (res= zU its (d+1)):=I (HRE.out.trans (by rw[hvb,Bool.true_and]))
       rw[hvb] at HCC
       clear hvb hval
       go_upto_region 7 with (go_at_call 108;refine HCC.out.mono ?_;rintro e w2 ⟨rfl,hzw⟩;rw[hzw];clear hzw w2)
       clear x9
       go_loopg [68] its.length (fun q x u=>∃ j:Nat,j+q= its.length/\x= .int .i64 j/\Below w.heap.size w u/\zU (its.drop j) (d+1)= res)
       case atStart=>exact⟨0,by omega,rfl,HB1.out,HRR.out.symm⟩
       case round=>
        obtain⟨j,hj,rfl,hbu,hres⟩:=hrel
        have HBU:=I hbu
        have HR:=I hres
        have u9:=(hbu.cell (p:=⟨p,o+9,none⟩) HPL.out).trans D9.out
        clear hbu hres
        cases gk with
        |zero=>
         obtain rfl:j= its.length:=by omega
         have hge: ¬ ((its.length:Int) <(its.length:Int)):=by omega
         have HV:=I (HR.out.symm.trans z16)
         go_wp2
         go_ret
         exact⟨za HV.out.symm,HBU.out⟩
        |succ q=>
         have hlt:(j:Int) <(its.length:Int):=by omega
         obtain⟨y,hy⟩:∃ y,its[j]?= some y:=⟨_,List.getElem?_eq_getElem (by omega)⟩
         obtain⟨b,ob,rfl,hbl,hc⟩:=HA.out (by omega)
         obtain⟨ks,hkl,hks,hvx⟩:=hc j y hy
         have HV:=I (HR.out.symm.trans (z0X hy))
         have HC:=I (IH.out y (List.mem_of_getElem? hy) (d+1) ks b (ob+j*10) wr (by omega) (zd hks HBU.out hbl) ((hvx.under HBU.out).more HBU.out.size))
         clear hc hks hvx hy HR hkl hbl
         cases hrc:z04 y (d+1) with
         |false=>
          have HV2:Hid (res= false):=I (HV.out.trans (by rw[hrc];exact Bool.false_and _))
          rw[hrc] at HC
          clear hrc
          go_wp2_with (go_at_call 61;refine HC.out.mono ?_;rintro e w4 ⟨rfl,hb⟩;have HB4:=I hb;clear hb)
          go_ret
          exact⟨za HV2.out.symm,HBU.out.trans (HB4.out.mono HBU.out.size)⟩
         |true=>
          have HV2:=I (HV.out.trans (by rw[hrc,Bool.true_and]))
          rw[hrc] at HC
          clear hrc
          go_wp2_with (go_at_call 61;refine HC.out.mono ?_;rintro e w4 ⟨rfl,hb⟩;have HB4:=I hb;clear hb)
          go_roundg q
          case measure=>omega
          case rel=>exact⟨j+1,by omega,by go_num,HBU.out.trans (HB4.out.mono HBU.out.size),HV2.out.symm⟩
  ·have hd':(d:Int) > 12:=by omega
   have HR:Hid (res= false):=I (by rw[HRE.out,decide_eq_false hd];simp)
   go_enter Tryz.func61,Tryz.ntmps61
   go_wp2_with (go_at_call 105;refine(HKD.out _).mono ?_;rintro e z ⟨rfl,hzw⟩;rw[hzw];clear hzw z)
   go_ret
   exact⟨za HR.out.symm,Below.refl _ _⟩
def zJ (t:ET):Bool:=decide (cntE t 0<=200) && z04 t 1
theorem zdb (t:ET) (cs:List Value) (w:World) (hv:ExpAt w w.heap.size cs t):Calls Tryz.prog 38 #[.agg ⟨cs⟩] w fun e w'=>e= .returned (.bool (zJ t))/\Below w.heap.size w w':=by
 have HCL:=I (eslen hv)
 have HB:=I (ze w (.cells ⟨cs⟩ 29))
 have HR:=I (zq w cs 29)
 have HV:=I ((hv.under HB.out).more HB.out.size)
 have HS:=I (zt w (.cells ⟨cs⟩ 29))
 clear hv
 go_enter Tryz.func38,Tryz.ntmps38
 go_upto_region 1 with (fail)
 generalize w.alloc (.cells ⟨cs⟩ 29)= W at*
 have HC:=I (z9U t cs W HV.out)
 by_cases h:cntE t 0<=200
 ·have h2:(cntE t 0:Int)<=200:=by omega
  have HT:Hid (zJ t= z04 t 1):=I (by unfold zJ;rw[decide_eq_true h,Bool.true_and])
  clear h
  go_wp2_with (first|((with_reducible refine zc 29 _ rfl ?hwa w.heap.size 0 cs _ rfl HR.out Tryz.underlying29 rfl ?hia ?_);(case hwa=>(exact wantA rfl));(case hia=>rw[HCL.out];kernel_rfl))|(go_at_call 60;refine HC.out.mono ?_;rintro e z ⟨rfl,hb⟩;have HB2:=I hb;clear hb)|(go_at_call 61;refine(z99 t 1 cs w.heap.size 0 z (by omega) (zd HR.out HB2.out HS.out) ((HV.out.under HB2.out).more HB2.out.size)).mono ?_;rintro e z2 ⟨rfl,hb⟩;have HB3:=I hb;clear hb))
  go_ret
  exact⟨za HT.out.symm,(HB.out.trans (HB2.out.mono HB.out.size)).trans (HB3.out.mono (Nat.le_trans HB.out.size HB2.out.size))⟩
 ·have h2: ¬ (cntE t 0:Int)<=200:=by omega
  have HT:Hid (zJ t= false):=I (by unfold zJ;rw[decide_eq_false h];rfl)
  clear h
  go_wp2_with (first|((with_reducible refine zc 29 _ rfl ?hwa w.heap.size 0 cs _ rfl HR.out Tryz.underlying29 rfl ?hia ?_);(case hwa=>(exact wantA rfl));(case hia=>rw[HCL.out];kernel_rfl))|(go_at_call 60;refine HC.out.mono ?_;rintro e z ⟨rfl,hb⟩;have HB2:=I hb;clear hb))
  go_ret
  exact⟨za HT.out.symm,HB.out.trans (HB2.out.mono HB.out.size)⟩
end
end Go.Proofs.YtmpbepjjbaeebaaGreatDoor
