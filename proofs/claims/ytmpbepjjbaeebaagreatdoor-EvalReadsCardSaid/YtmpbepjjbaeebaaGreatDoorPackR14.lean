/- Parts of a proof: VRight, CanonP. -/
import Derived.Test.YtmpbepjjbaeebaaGreatDoorPackR12
import Derived.Test.YtmpbepjjbaeebaaGreatDoorPackR13
set_option maxHeartbeats 8000000
set_option maxRecDepth 100000
set_option linter.unusedVariables false
set_option linter.unusedSimpArgs false
section
namespace Go.Proofs.YtmpbepjjbaeebaaGreatDoor
open Go Go.RowKit
open Go.Lib (hid)
mutual
def zo:VT→Nat→Bool
 | .mk k n f s ns its,d=>
  if 12 < d then false
  else if k= 1 then bareB true false false false n f s ns.length its.length && (n / 2 ==0)
  else if k= 2 then bareB true false false false n f s ns.length its.length
  else if k= 3 then bareB false true false false n f s ns.length its.length
  else if k= 4 then bareB false false true false n f s ns.length its.length && decide (s.size≤200)
  else if k= 6 then(ns.length ==its.length) && (riseB none ns && (bareB false false false true n f s ns.length its.length && zA its (d+1)))
  else if k= 5 then bareB false false false true n f s ns.length its.length && ((ns.length ==0) && zA its (d+1))
  else false
def zA:List VT→Nat→Bool
 |[],_=>true
 |a::l,d=>zo a d && zA l d
end
theorem z0z {l:List VT} {k d:Nat} {x:VT} (h:l[k]?= some x):zA (l.drop k) d=(zo x d && zA (l.drop (k+1)) d):=by
 rw[z0m h,zA]
theorem z0H {l:List VT} {d:Nat}:zA (l.drop l.length) d= true:=by
 rw[List.drop_eq_nil_of_le (Nat.le_refl _),zA]
theorem zae:∀ (t:VT) (d:Nat) (cs:List Value) (p o:Nat) (w:World),d≤13→p < w.heap.size→w.rangeAt p o cs→ValAt w w.heap.size cs t→
  Calls Tryz.prog 59 #[.pointer (some ⟨p,o,none⟩),.int .i64 d] w fun e w'=>e= .returned (.bool (zo t d))∧Below w.heap.size w w':=by
 intro t
 induction t using VT.ind with
 |h k n f s ns its ih=>
  intro d cs p o w hd hp hr hv
  have IH:=hid ih
  obtain⟨vn,vi,rfl,_,_,hf,_,hn,_,hi⟩:=hv.inv
  obtain⟨_,NA,nc,rfl,_⟩:=id hn
  obtain⟨A,c,rfl,hil,hA⟩:=z0D hi
  have hnl:=hn.1
  have HF:=hid (wf64 hf)
  have HN:=hid hn
  have HA:=hid hA
  have HRG:=hid hr
  have HP:=hid hp
  have d0:w.cell? ⟨p,o,none⟩= some (.int .i64 k):=hr 0 _ rfl
  have d1:=hr 1 _ rfl
  have d3:=hr 3 _ rfl
  have d4:=hr 4 _ rfl
  have d5:=hr 5 _ rfl
  have HO:Hid (zo (.mk k n f s ns its) d= if 12 < d then false
   else if k= 1 then bareB true false false false n f s ns.length its.length && (n / 2 ==0)
   else if k= 2 then bareB true false false false n f s ns.length its.length
   else if k= 3 then bareB false true false false n f s ns.length its.length
   else if k= 4 then bareB false false true false n f s ns.length its.length && decide (s.size≤200)
   else if k= 6 then(ns.length ==its.length) && (riseB none ns && (bareB false false false true n f s ns.length its.length && zA its (d+1)))
   else if k= 5 then bareB false false false true n f s ns.length its.length && ((ns.length ==0) && zA its (d+1))
   else false):=hid (by rw[zo])
  generalize hres:zo (.mk k n f s ns its) d= res at*
  clear ih hr hv hn hi hA hf hp hres
  by_cases hdeep:12 < d
  ·have HV:=hid (HO.out.trans (if_pos hdeep))
   have t1:(12:Int) <(d:Int):=by omega
   clear HO hdeep
   go_enter Tryz.func59,Tryz.ntmps59
   go_wp2
   go_ret
   exact⟨z7 HV.out.symm,Below.refl _ w⟩
  have t1: ¬ ((12:Int) <(d:Int)):=by omega
  have HO1:=hid (HO.out.trans (if_neg hdeep))
  clear HO
  by_cases k1:k= 1
  ·subst k1
   have HV:=hid (HO1.out.trans (if_pos rfl))
   clear HO1
   have HBR:=hid (fun w' (h:w'.rangeAt p o [(.int .i64 1),.int .i64 n,.float .f64 f,.string s,.slice NA ns.length nc,.slice A its.length c])=>zaE p o 1 n f s NA A ns.length its.length nc c w' HF.out h)
   generalize bareB true false false false n f s ns.length its.length= bb at*
   cases bb with
   |false=>
    have HV2:Hid (res= false):=hid (HV.out.trans (Bool.false_and _))
    clear HV d3 d4 d5
    go_enter Tryz.func59,Tryz.ntmps59
    go_wp2_with (go_at_call 102;refine(HBR.out _ HRG.out).mono ?_;rintro e z ⟨rfl,hzw⟩;obtain rfl:=hzw.symm)
    go_ret
    exact⟨z7 HV2.out.symm,Below.refl _ w⟩
   |true=>
    have HV2:Hid (res=(n / 2 ==0)):=hid (HV.out.trans (Bool.true_and _))
    clear HV d3 d4 d5
    go_enter Tryz.func59,Tryz.ntmps59
    go_wp2_with (go_at_call 102;refine(HBR.out _ HRG.out).mono ?_;rintro e z ⟨rfl,hzw⟩;obtain rfl:=hzw.symm)
    go_ret
    exact⟨z7 HV2.out.symm,Below.refl _ w⟩
  have HO2:=hid (HO1.out.trans (if_neg k1))
  clear HO1
  by_cases k2:k= 2
  ·subst k2
   have HV:=hid (HO2.out.trans (if_pos rfl))
   clear HO2
   have HBR:=hid (fun w' (h:w'.rangeAt p o [(.int .i64 2),.int .i64 n,.float .f64 f,.string s,.slice NA ns.length nc,.slice A its.length c])=>zaE p o 2 n f s NA A ns.length its.length nc c w' HF.out h)
   generalize bareB true false false false n f s ns.length its.length= bb at*
   clear d1 d3 d4 d5
   go_enter Tryz.func59,Tryz.ntmps59
   go_wp2_with (go_at_call 102;refine(HBR.out _ HRG.out).mono ?_;rintro e z ⟨rfl,hzw⟩;obtain rfl:=hzw.symm)
   go_ret
   exact⟨z7 HV.out.symm,Below.refl _ w⟩
  have HO3:=hid (HO2.out.trans (if_neg k2))
  clear HO2
  by_cases k3:k= 3
  ·subst k3
   have HV:=hid (HO3.out.trans (if_pos rfl))
   clear HO3
   have HBR:=hid (fun w' (h:w'.rangeAt p o [(.int .i64 3),.int .i64 n,.float .f64 f,.string s,.slice NA ns.length nc,.slice A its.length c])=>zdU p o 3 n f s NA A ns.length its.length nc c w' HF.out h)
   generalize bareB false true false false n f s ns.length its.length= bb at*
   clear d1 d3 d4 d5
   go_enter Tryz.func59,Tryz.ntmps59
   go_wp2_with (go_at_call 102;refine(HBR.out _ HRG.out).mono ?_;rintro e z ⟨rfl,hzw⟩;obtain rfl:=hzw.symm)
   go_ret
   exact⟨z7 HV.out.symm,Below.refl _ w⟩
  have HO4:=hid (HO3.out.trans (if_neg k3))
  clear HO3
  by_cases k4:k= 4
  ·subst k4
   have HV:=hid (HO4.out.trans (if_pos rfl))
   clear HO4
   have HBR:=hid (fun w' (h:w'.rangeAt p o [(.int .i64 4),.int .i64 n,.float .f64 f,.string s,.slice NA ns.length nc,.slice A its.length c])=>zdx p o 4 n f s NA A ns.length its.length nc c w' HF.out h)
   generalize bareB false false true false n f s ns.length its.length= bb at*
   cases bb with
   |false=>
    have HV2:Hid (res= false):=hid (HV.out.trans (Bool.false_and _))
    clear HV d1 d4 d5
    go_enter Tryz.func59,Tryz.ntmps59
    go_wp2_with (go_at_call 102;refine(HBR.out _ HRG.out).mono ?_;rintro e z ⟨rfl,hzw⟩;obtain rfl:=hzw.symm)
    go_ret
    exact⟨z7 HV2.out.symm,Below.refl _ w⟩
   |true=>
    have HV2:Hid (res= decide (s.size≤200)):=hid (HV.out.trans (Bool.true_and _))
    clear HV d1 d4 d5
    by_cases hs:s.size≤200
    ·have t2:(s.size:Int)≤200:=by omega
     have HV3:=hid (HV2.out.trans (decide_eq_true hs))
     go_enter Tryz.func59,Tryz.ntmps59
     go_wp2_with (go_at_call 102;refine(HBR.out _ HRG.out).mono ?_;rintro e z ⟨rfl,hzw⟩;obtain rfl:=hzw.symm)
     go_ret
     exact⟨z7 HV3.out.symm,Below.refl _ w⟩
    ·have t2:decide ((s.size:Int)≤200)= false:=decide_eq_false (by omega)
     have t2':(200:Int) <(s.size:Int):=by omega
     have HV3:=hid (HV2.out.trans (decide_eq_false hs))
     go_enter Tryz.func59,Tryz.ntmps59
     go_wp2_with (go_at_call 102;refine(HBR.out _ HRG.out).mono ?_;rintro e z ⟨rfl,hzw⟩;obtain rfl:=hzw.symm)
     go_ret
     exact⟨z7 HV3.out.symm,Below.refl _ w⟩
  have HO5:=hid (HO4.out.trans (if_neg k4))
  clear HO4
  by_cases k5:k= 5
  ·subst k5
   have HV:=hid (HO5.out.trans ((if_neg (by decide)).trans (if_pos rfl)))
   clear HO5
   have HBR:=hid (fun w' (h:w'.rangeAt p o [(.int .i64 5),.int .i64 n,.float .f64 f,.string s,.slice NA ns.length nc,.slice A its.length c])=>zap p o 5 n f s NA A ns.length its.length nc c w' HF.out h)
   generalize bareB false false false true n f s ns.length its.length= bb at*
   cases bb with
   |false=>
    have HV2:Hid (res= false):=hid (HV.out.trans (Bool.false_and _))
    clear HV d1 d3
    go_enter Tryz.func59,Tryz.ntmps59
    go_wp2_with (go_at_call 102;refine(HBR.out _ HRG.out).mono ?_;rintro e z ⟨rfl,hzw⟩;obtain rfl:=hzw.symm)
    go_ret
    exact⟨z7 HV2.out.symm,Below.refl _ w⟩
   |true=>
    have HV2:=hid (HV.out.trans (Bool.true_and _))
    clear HV d1 d3
    by_cases hnz:ns.length= 0
    ·have HV9:Hid (res= zA its (d+1)):=hid (HV2.out.trans (by rw[hnz];exact Bool.true_and _))
     rw[hnz] at HRG HBR d4
     clear HV2 hnz HN
     go_enter Tryz.func59,Tryz.ntmps59
     go_wp2_with (go_at_call 102;refine(HBR.out _ HRG.out).mono ?_;rintro e z ⟨rfl,hzw⟩;obtain rfl:=hzw.symm)
     go_loopg [90] its.length (fun q x u=>∃ j:Nat,j+q= its.length∧x= .int .i64 j∧Below w.heap.size w u∧zA (its.drop j) (d+1)= res)
     case atStart=>exact⟨0,by omega,rfl,Below.refl _ _,HV9.out.symm⟩
     case round=>
      obtain⟨j,hj,rfl,hb,hres⟩:=hrel
      have HR:=hid hres
      have HBK:=hid hb
      clear hres hb
      cases gk with
      |zero=>
       obtain rfl:j= its.length:=by omega
       have hge: ¬ ((its.length:Int) <(its.length:Int)):=by omega
       have HVE:=hid (HR.out.symm.trans z0H)
       go_wp2
       go_ret
       exact⟨z7 HVE.out.symm,HBK.out⟩
      |succ q=>
       have hlt:(j:Int) <(its.length:Int):=by omega
       obtain⟨x,hx⟩:∃ x,its[j]?= some x:=⟨_,List.getElem?_eq_getElem (by omega)⟩
       obtain⟨b,o',rfl,hbl,hc⟩:=HA.out (by omega)
       obtain⟨ks,hks,hvx⟩:=hc j x hx
       have HVS:=hid (HR.out.symm.trans (z0z hx))
       have dd5:=(HBK.out.cell (p:=⟨p,o+5,none⟩) HP.out).trans (HRG.out 5 _ rfl)
       have HC:=hid (IH.out x (List.mem_of_getElem? hx) (d+1) ks b (o'+j*6) wr (by omega) (Nat.lt_of_lt_of_le hbl HBK.out.size) (zd hks HBK.out hbl) (hvx.next HBK.out))
       have hd1:((d+1:Nat):Int)=(d:Int)+1:=by omega
       rw[hd1] at HC
       clear hc hks hvx hx hd1
       generalize zo x (d+1)= rx at*
       cases rx with
       |true=>
        have HV2:=hid (HVS.out.trans (Bool.true_and _))
        clear HVS
        go_wp2_with (go_at_call 59;refine HC.out.mono ?_;rintro e z ⟨rfl,hbz⟩;have HB3:=hid hbz;clear hbz)
        go_roundg q
        case measure=>omega
        case rel=>exact⟨j+1,by omega,by go_num,HBK.out.trans (HB3.out.mono HBK.out.size),HV2.out.symm⟩
       |false=>
        have HV2:Hid (res= false):=hid (HVS.out.trans (Bool.false_and _))
        clear HVS
        go_wp2_with (go_at_call 59;refine HC.out.mono ?_;rintro e z ⟨rfl,hbz⟩;have HB3:=hid hbz;clear hbz)
        go_ret
        exact⟨z7 HV2.out.symm,HBK.out.trans (HB3.out.mono HBK.out.size)⟩
    ·have HV3:Hid (res= false):=hid (HV2.out.trans (by rw[beq_eq_false_iff_ne.2 hnz];exact Bool.false_and _))
     have t2:(0:Int) <(ns.length:Int):=by omega
     clear HV2 hnz
     go_enter Tryz.func59,Tryz.ntmps59
     go_wp2_with (go_at_call 102;refine(HBR.out _ HRG.out).mono ?_;rintro e z ⟨rfl,hzw⟩;obtain rfl:=hzw.symm)
     go_ret
     exact⟨z7 HV3.out.symm,Below.refl _ w⟩
  by_cases k6:k= 6
  ·subst k6
   have HV:=hid (HO5.out.trans (if_pos rfl))
   clear HO5
   have HBR:=hid (fun w' (h:w'.rangeAt p o [(.int .i64 6),.int .i64 n,.float .f64 f,.string s,.slice NA ns.length nc,.slice A its.length c])=>zap p o 6 n f s NA A ns.length its.length nc c w' HF.out h)
   have HRI:=hid (fun z (hz:Below w.heap.size w z)=>z99 (.slice NA ns.length nc) ns z ((HN.out.below hz fun _ _ _ h=>h).more hz.size))
   by_cases hlen:ns.length= its.length
   ·have HV2:=hid (HV.out.trans (by rw[show(ns.length ==its.length)= true from by rw[hlen];exact beq_self_eq_true _,Bool.true_and]))
    have t2:((ns.length:Int) !=(its.length:Int))= false:=by rw[hlen];exact bne_self_eq_false _
    clear HV hlen
    generalize riseB none ns= rb at*
    cases rb with
    |false=>
     have HV3:Hid (res= false):=hid (HV2.out.trans (Bool.false_and _))
     clear HV2 d1 d3
     go_enter Tryz.func59,Tryz.ntmps59
     go_upto_region 14 with (fail)
     clear d0 d4 d5
     refine zx [(0,true),(1,true),(2,true),(3,true),(4,true),(5,true),(6,true),(7,true),(8,true),(9,true),(10,true),(11,true),(12,true),(13,true),(14,true),(15,true),(16,false),(17,true),(18,true)]
      (fun z=>Below w.heap.size w z) (by kernel_rfl) (by kernel_rfl) (by kernel_rfl) rfl (by intro c a d v w h;cases d<;>exact h) ?_
     have hs:Below w.heap.size w w.drew:=(Below.refl _ w).drew
     refine zj (some 48) (.pointer (some ⟨p,o,none⟩)) _ _ rfl rfl rfl (by exact wantA rfl) hs rfl ?_
     go_frame
     refine za (some 49) (.pointer (some ⟨p,o,none⟩)) _ rfl rfl (by exact wantA rfl) hs (fun z hz=>by go_simp) ?_
     go_frame
     refine za (some 50) (.pointer (some ⟨p,o+4,none⟩)) _ rfl rfl (by exact wantA rfl) hs (fun z hz=>by go_simp) ?_
     go_frame
     refine za (some 51) (.slice NA ns.length nc) _ rfl rfl (by exact wantA rfl) hs (fun z hz=>by have dd:=(hz.cell (p:=⟨p,o+4,none⟩) HP.out).trans (HRG.out 4 _ rfl);go_simp) ?_
     go_frame
     refine za (some 52) (.int .i64 ns.length) _ rfl rfl (by exact wantA rfl) hs (fun z hz=>by go_simp) ?_
     go_frame
     refine zj (some 53) (.pointer (some ⟨p,o,none⟩)) _ _ rfl rfl rfl (by exact wantA rfl) hs rfl ?_
     go_frame
     refine za (some 54) (.pointer (some ⟨p,o,none⟩)) _ rfl rfl (by exact wantA rfl) hs (fun z hz=>by go_simp) ?_
     go_frame
     refine za (some 55) (.pointer (some ⟨p,o+5,none⟩)) _ rfl rfl (by exact wantA rfl) hs (fun z hz=>by go_simp) ?_
     go_frame
     refine za (some 56) (.slice A its.length c) _ rfl rfl (by exact wantA rfl) hs (fun z hz=>by have dd:=(hz.cell (p:=⟨p,o+5,none⟩) HP.out).trans (HRG.out 5 _ rfl);go_simp) ?_
     go_frame
     refine za (some 57) (.int .i64 its.length) _ rfl rfl (by exact wantA rfl) hs (fun z hz=>by go_simp) ?_
     go_frame
     refine za (some 58) (.bool false) _ rfl rfl (by exact wantA rfl) hs (fun z hz=>by go_simp) ?_
     go_frame
     refine zj (some 59) (.bool false) _ _ rfl rfl rfl (by exact wantA rfl) hs rfl ?_
     go_frame
     refine zj (some 60) (.pointer (some ⟨p,o,none⟩)) _ _ rfl rfl rfl (by exact wantA rfl) hs rfl ?_
     go_frame
     refine za (some 61) (.pointer (some ⟨p,o,none⟩)) _ rfl rfl (by exact wantA rfl) hs (fun z hz=>by go_simp) ?_
     go_frame
     refine za (some 62) (.pointer (some ⟨p,o+4,none⟩)) _ rfl rfl (by exact wantA rfl) hs (fun z hz=>by go_simp) ?_
     go_frame
     refine za (some 63) (.slice NA ns.length nc) _ rfl rfl (by exact wantA rfl) hs (fun z hz=>by have dd:=(hz.cell (p:=⟨p,o+4,none⟩) HP.out).trans (HRG.out 4 _ rfl);go_simp) ?_
     go_frame
     refine zv (some 64) 103 Tryz.func103 (by kernel_rfl) (by kernel_rfl) [.slice NA ns.length nc] _ _ _ rfl rfl rfl (by exact wantA rfl) rfl ?_
     refine(HRI.out _ hs).mono ?_
     rintro e z1 ⟨rfl,hb1⟩
     have hs2:Below w.heap.size w z1:=hs.trans (hb1.mono hs.size)
     refine⟨.bool false,rfl,hs2,?_⟩
     clear hb1
     go_frame
     refine za (some 65) (.bool true) _ rfl rfl (by exact wantA rfl) hs2 (fun z hz=>by go_simp) ?_
     go_frame
     refine z2Y (some 66) (.bool true) _ _ _ _ false rfl rfl rfl rfl (by exact wantA rfl) hs2 rfl ?_
     go_frame
     refine z01 ?_
     have HB2:=hid hs2
     clear hs hs2
     go_wp2
     go_ret
     exact⟨z7 HV3.out.symm,HB2.out⟩
    |true=>
     have HV3:=hid (HV2.out.trans (Bool.true_and _))
     clear HV2 d1 d3
     generalize bareB false false false true n f s ns.length its.length= bb at*
     go_enter Tryz.func59,Tryz.ntmps59
     go_upto_region 14 with (fail)
     clear d0 d4 d5
     refine zx [(0,true),(1,true),(2,true),(3,true),(4,true),(5,true),(6,true),(7,true),(8,true),(9,true),(10,true),(11,true),(12,true),(13,true),(14,true),(15,true),(16,false),(17,true),(18,true)]
      (fun z=>Below w.heap.size w z) (by kernel_rfl) (by kernel_rfl) (by kernel_rfl) rfl (by intro c a d v w h;cases d<;>exact h) ?_
     have hs:Below w.heap.size w w.drew:=(Below.refl _ w).drew
     refine zj (some 48) (.pointer (some ⟨p,o,none⟩)) _ _ rfl rfl rfl (by exact wantA rfl) hs rfl ?_
     go_frame
     refine za (some 49) (.pointer (some ⟨p,o,none⟩)) _ rfl rfl (by exact wantA rfl) hs (fun z hz=>by go_simp) ?_
     go_frame
     refine za (some 50) (.pointer (some ⟨p,o+4,none⟩)) _ rfl rfl (by exact wantA rfl) hs (fun z hz=>by go_simp) ?_
     go_frame
     refine za (some 51) (.slice NA ns.length nc) _ rfl rfl (by exact wantA rfl) hs (fun z hz=>by have dd:=(hz.cell (p:=⟨p,o+4,none⟩) HP.out).trans (HRG.out 4 _ rfl);go_simp) ?_
     go_frame
     refine za (some 52) (.int .i64 ns.length) _ rfl rfl (by exact wantA rfl) hs (fun z hz=>by go_simp) ?_
     go_frame
     refine zj (some 53) (.pointer (some ⟨p,o,none⟩)) _ _ rfl rfl rfl (by exact wantA rfl) hs rfl ?_
     go_frame
     refine za (some 54) (.pointer (some ⟨p,o,none⟩)) _ rfl rfl (by exact wantA rfl) hs (fun z hz=>by go_simp) ?_
     go_frame
     refine za (some 55) (.pointer (some ⟨p,o+5,none⟩)) _ rfl rfl (by exact wantA rfl) hs (fun z hz=>by go_simp) ?_
     go_frame
     refine za (some 56) (.slice A its.length c) _ rfl rfl (by exact wantA rfl) hs (fun z hz=>by have dd:=(hz.cell (p:=⟨p,o+5,none⟩) HP.out).trans (HRG.out 5 _ rfl);go_simp) ?_
     go_frame
     refine za (some 57) (.int .i64 its.length) _ rfl rfl (by exact wantA rfl) hs (fun z hz=>by go_simp) ?_
     go_frame
     refine za (some 58) (.bool false) _ rfl rfl (by exact wantA rfl) hs (fun z hz=>by go_simp) ?_
     go_frame
     refine zj (some 59) (.bool false) _ _ rfl rfl rfl (by exact wantA rfl) hs rfl ?_
     go_frame
     refine zj (some 60) (.pointer (some ⟨p,o,none⟩)) _ _ rfl rfl rfl (by exact wantA rfl) hs rfl ?_
     go_frame
     refine za (some 61) (.pointer (some ⟨p,o,none⟩)) _ rfl rfl (by exact wantA rfl) hs (fun z hz=>by go_simp) ?_
     go_frame
     refine za (some 62) (.pointer (some ⟨p,o+4,none⟩)) _ rfl rfl (by exact wantA rfl) hs (fun z hz=>by go_simp) ?_
     go_frame
     refine za (some 63) (.slice NA ns.length nc) _ rfl rfl (by exact wantA rfl) hs (fun z hz=>by have dd:=(hz.cell (p:=⟨p,o+4,none⟩) HP.out).trans (HRG.out 4 _ rfl);go_simp) ?_
     go_frame
     refine zv (some 64) 103 Tryz.func103 (by kernel_rfl) (by kernel_rfl) [.slice NA ns.length nc] _ _ _ rfl rfl rfl (by exact wantA rfl) rfl ?_
     refine(HRI.out _ hs).mono ?_
     rintro e z1 ⟨rfl,hb1⟩
     have hs2:Below w.heap.size w z1:=hs.trans (hb1.mono hs.size)
     refine⟨.bool true,rfl,hs2,?_⟩
     clear hb1
     go_frame
     refine za (some 65) (.bool false) _ rfl rfl (by exact wantA rfl) hs2 (fun z hz=>by go_simp) ?_
     go_frame
     refine z2Y (some 66) (.bool false) _ _ _ _ false rfl rfl rfl rfl (by exact wantA rfl) hs2 rfl ?_
     go_frame
     refine z01 ?_
     have HB2:=hid hs2
     clear hs hs2
     have HR1:=hid (zd HRG.out HB2.out HP.out)
     have e0:z1.cell? ⟨p,o,none⟩= some (.int .i64 6):=HR1.out 0 _ rfl
     have e5:=HR1.out 5 _ rfl
     cases bb with
     |false=>
      have HV4:Hid (res= false):=hid (HV3.out.trans (Bool.false_and _))
      go_wp2_with (go_at_call 102;refine(HBR.out _ HR1.out).mono ?_;rintro e z ⟨rfl,hzw⟩;obtain rfl:=hzw.symm)
      go_ret
      exact⟨z7 HV4.out.symm,HB2.out⟩
     |true=>
      have HV9:Hid (res= zA its (d+1)):=hid (HV3.out.trans (Bool.true_and _))
      clear HV3
      go_wp2_with (go_at_call 102;refine(HBR.out _ HR1.out).mono ?_;rintro e z ⟨rfl,hzw⟩;obtain rfl:=hzw.symm)
      clear e0 e5
      go_loopg [90] its.length (fun q x u=>∃ j:Nat,j+q= its.length∧x= .int .i64 j∧Below w.heap.size w u∧zA (its.drop j) (d+1)= res)
      case atStart=>exact⟨0,by omega,rfl,HB2.out,HV9.out.symm⟩
      case round=>
       obtain⟨j,hj,rfl,hb,hres⟩:=hrel
       have HR:=hid hres
       have HBK:=hid hb
       clear hres hb
       cases gk with
       |zero=>
        obtain rfl:j= its.length:=by omega
        have hge: ¬ ((its.length:Int) <(its.length:Int)):=by omega
        have HVE:=hid (HR.out.symm.trans z0H)
        go_wp2
        go_ret
        exact⟨z7 HVE.out.symm,HBK.out⟩
       |succ q=>
        have hlt:(j:Int) <(its.length:Int):=by omega
        obtain⟨x,hx⟩:∃ x,its[j]?= some x:=⟨_,List.getElem?_eq_getElem (by omega)⟩
        obtain⟨b,o',rfl,hbl,hc⟩:=HA.out (by omega)
        obtain⟨ks,hks,hvx⟩:=hc j x hx
        have HVS:=hid (HR.out.symm.trans (z0z hx))
        have dd5:=(HBK.out.cell (p:=⟨p,o+5,none⟩) HP.out).trans (HRG.out 5 _ rfl)
        have HC:=hid (IH.out x (List.mem_of_getElem? hx) (d+1) ks b (o'+j*6) wr (by omega) (Nat.lt_of_lt_of_le hbl HBK.out.size) (zd hks HBK.out hbl) (hvx.next HBK.out))
        have hd1:((d+1:Nat):Int)=(d:Int)+1:=by omega
        rw[hd1] at HC
        clear hc hks hvx hx hd1
        generalize zo x (d+1)= rx at*
        cases rx with
        |true=>
         have HV2:=hid (HVS.out.trans (Bool.true_and _))
         clear HVS
         go_wp2_with (go_at_call 59;refine HC.out.mono ?_;rintro e z ⟨rfl,hbz⟩;have HB3:=hid hbz;clear hbz)
         go_roundg q
         case measure=>omega
         case rel=>exact⟨j+1,by omega,by go_num,HBK.out.trans (HB3.out.mono HBK.out.size),HV2.out.symm⟩
        |false=>
         have HV2:Hid (res= false):=hid (HVS.out.trans (Bool.false_and _))
         clear HVS
         go_wp2_with (go_at_call 59;refine HC.out.mono ?_;rintro e z ⟨rfl,hbz⟩;have HB3:=hid hbz;clear hbz)
         go_ret
         exact⟨z7 HV2.out.symm,HBK.out.trans (HB3.out.mono HBK.out.size)⟩
   ·have HV2:Hid (res= false):=hid (HV.out.trans (by rw[beq_eq_false_iff_ne.2 hlen];exact Bool.false_and _))
    have t2:((ns.length:Int) !=(its.length:Int))= true:=by rw[bne_iff_ne];omega
    clear HV hlen d1 d3
    go_enter Tryz.func59,Tryz.ntmps59
    go_wp2
    go_quiet (fail)
    go_wp2
    go_ret
    exact⟨z7 HV2.out.symm,zF (Below.refl _ w) _⟩
  have HV:=hid (HO5.out.trans ((if_neg k6).trans (if_neg k5)))
  have s1:(k ==1)= false:=by simpa using k1
  have s2:(k ==2)= false:=by simpa using k2
  have s3:(k ==3)= false:=by simpa using k3
  have s4:(k ==4)= false:=by simpa using k4
  have s5:(k ==5)= false:=by simpa using k5
  have s6:(k ==6)= false:=by simpa using k6
  clear HO5 d1 d3 d4 d5 k1 k2 k3 k4 k5 k6
  go_enter Tryz.func59,Tryz.ntmps59
  go_wp2
  go_ret
  exact⟨z7 HV.out.symm,Below.refl _ w⟩
theorem z1L (t:VT) (cs:List Value) (w:World) (hv:ValAt w w.heap.size cs t):Calls Tryz.prog 37 #[.agg ⟨cs⟩] w fun e w'=>e= .returned (.bool (decide (cntV t 0≤200) && zo t 1))∧Below w.heap.size w w':=by
 have HB1:=hid (zc w (.cells ⟨cs⟩ 26))
 have HS1:=hid (zw w (.cells ⟨cs⟩ 26))
 have HR1:=hid (zq w cs 26)
 have HL:=hid (zi hv)
 have HV:=hid (hv.next HB1.out)
 have HP:=hid (za3 t cs (w.alloc (.cells ⟨cs⟩ 26)) HV.out)
 clear hv
 go_enter Tryz.func37,Tryz.ntmps37
 go_upto_region 1 with (fail)
 generalize w.alloc (.cells ⟨cs⟩ 26)= W at*
 by_cases hc:cntV t 0≤200
 ·have t1:((cntV t 0:Nat):Int)≤200:=by omega
  have HD:Hid ((decide (cntV t 0≤200) && zo t 1)= zo t 1):=hid (by rw[decide_eq_true hc];exact Bool.true_and _)
  go_wp2_with (first|((with_reducible refine z8 26 _ rfl ?hwa w.heap.size 0 cs _ rfl HR1.out Tryz.underlying26 rfl ?hia ?_);(case hwa=>exact wantA rfl);(case hia=>rw[HL.out.1];kernel_rfl))|(go_at_call 58;refine HP.out.mono ?_;rintro e z ⟨rfl,hbz⟩;have HB2:=hid hbz;clear hbz)|(go_at_call 59;refine(zae t 1 cs w.heap.size 0 _ (by decide) (Nat.lt_of_lt_of_le HS1.out HB2.out.size) (zd HR1.out HB2.out HS1.out) (HV.out.next HB2.out)).mono ?_;rintro e z2 ⟨rfl,hbz⟩;have HB3:=hid hbz;clear hbz))
  go_ret
  exact⟨z7 HD.out.symm,HB1.out.trans ((HB2.out.trans (HB3.out.mono HB2.out.size)).mono HB1.out.size)⟩
 ·have t1: ¬ (((cntV t 0:Nat):Int)≤200):=by omega
  have HD:Hid ((decide (cntV t 0≤200) && zo t 1)= false):=hid (by rw[decide_eq_false hc];exact Bool.false_and _)
  go_wp2_with (first|((with_reducible refine z8 26 _ rfl ?hwa w.heap.size 0 cs _ rfl HR1.out Tryz.underlying26 rfl ?hia ?_);(case hwa=>exact wantA rfl);(case hia=>rw[HL.out.1];kernel_rfl))|(go_at_call 58;refine HP.out.mono ?_;rintro e z ⟨rfl,hbz⟩;have HB2:=hid hbz;clear hbz))
  go_ret
  first|exact⟨z7 HD.out.symm,HB1.out.trans (HB2.out.mono HB1.out.size)⟩|exact⟨rfl,HB1.out.trans (HB2.out.mono HB1.out.size)⟩
end Go.Proofs.YtmpbepjjbaeebaaGreatDoor
end
section
namespace Go.Proofs.YtmpbepjjbaeebaaGreatDoor
open Go
open Go.Lib (hid)
def zl (f:Nat):Nat:=if nanB f= true then 9221120237041090560 else f
theorem z8y {f:Nat} (h:nanB f= true):cmpF (zl f) f= 0:=by
 have h1:nanB 9221120237041090560= true:=by decide +kernel
 unfold zl
 rw[if_pos h]
 unfold cmpF
 rw[h1,h]
 rfl
theorem z83 (f:Nat):cmpF (zl f) f= 0:=by
 by_cases h:nanB f= true
 ·exact z8y h
 ·unfold zl
  rw[if_neg h]
  exact cmpF_good.refl f
theorem z7Y (f:Nat):(cmpF (zl f) 0 ==0)=(cmpF f 0 ==0):=by
 have h1:=z83 f
 have h2:=cmpF_good.anti (zl f) f
 have t1:=cmpF_good.trans (zl f) f 0
 have t2:=cmpF_good.trans f (zl f) 0
 have t3:=cmpF_good.trans 0 (zl f) f
 have t4:=cmpF_good.trans 0 f (zl f)
 have a1:=cmpF_good.anti (zl f) 0
 have a2:=cmpF_good.anti f 0
 rw[Bool.eq_iff_iff,beq_iff_eq,beq_iff_eq]
 constructor<;>intro h<;>omega
mutual
def z04:VT→VT
 | .mk k n f s ns its=> .mk k n (zl f) s ns (z0y its)
def z0y:List VT→List VT
 |[]=>[]
 |a::l=>z04 a::z0y l
end
theorem z2N:∀ l:List VT,z0y l= l.map z04
 |[]=>by rw[z0y];rfl
 |a::l=>by rw[z0y,z2N l];rfl
theorem z2J (l:List VT):(z0y l).length= l.length:=by rw[z2N,List.length_map]
theorem z7V (a b c d:Bool) (n:Int) (f:Nat) (s:ByteArray) (x y:Nat):bareB a b c d n (zl f) s x y= bareB a b c d n f s x y:=by
 unfold bareB
 rw[z7Y]
theorem z3a:∀ (l:List VT) (d:Nat),(∀ x∈l,∀ d,zo (z04 x) d= zo x d)→zA (z0y l) d= zA l d
 |[],d,_=>by rw[z0y]
 |a::l,d,h=>by
  rw[z0y,zA,zA,h a (List.mem_cons_self ..),z3a l d fun x hx=>h x (List.mem_cons_of_mem _ hx)]
theorem z7L (t:VT):∀ d,zo (z04 t) d= zo t d:=by
 induction t using VT.ind with
 |h k n f s ns its ih=>
  intro d
  rw[z04,zo,zo]
  simp only[z7V,z2J,z3a its _ ih]
theorem z4L:∀ (l:List VT) (m:Nat),(∀ x∈l,∀ m,cntV (z04 x) m= cntV x m)→cntL (z0y l) m= cntL l m
 |[],m,_=>by rw[z0y]
 |a::l,m,h=>by
  rw[z0y,cntL,cntL,h a (List.mem_cons_self ..)]
  split
  ·rfl
  ·exact z4L l _ fun x hx=>h x (List.mem_cons_of_mem _ hx)
theorem z7Z (t:VT):∀ m,cntV (z04 t) m= cntV t m:=by
 induction t using VT.ind with
 |h k n f s ns its ih=>
  intro m
  rw[z04,cntV,cntV]
  exact z4L its _ ih
end Go.Proofs.YtmpbepjjbaeebaaGreatDoor
end
