/- Parts of a proof: VRight, CanonP, Typ. -/
import Derived.Test.YtmpbepjjbaeebaaGreatDoorPackC13
import Derived.Test.YtmpbepjjbaeebaaGreatDoorPackC14
set_option maxHeartbeats 8000000
set_option maxRecDepth 100000
set_option linter.unusedVariables false
set_option linter.unusedSimpArgs false
namespace Go.Proofs.YtmpbepjjbaeebaaGreatDoor
section
open Go Go.RowKit
mutual
def zo:VT->Nat->Bool
 | .mk k n f s ns its,d=>
  if 12 < d then false
  else if k= 1 then bareB true false false false n f s ns.length its.length && (n / 2 ==0)
  else if k= 2 then bareB true false false false n f s ns.length its.length
  else if k= 3 then bareB false true false false n f s ns.length its.length
  else if k= 4 then bareB false false true false n f s ns.length its.length && decide (s.size<=200)
  else if k= 6 then(ns.length ==its.length) && (riseB none ns && (bareB false false false true n f s ns.length its.length && zE its (d+1)))
  else if k= 5 then bareB false false false true n f s ns.length its.length && ((ns.length ==0) && zE its (d+1))
  else false
def zE:List VT->Nat->Bool
 |[],_=>true
 |a::l,d=>zo a d && zE l d
end
theorem z1y {l:List VT} {k d:Nat} {x:VT} (h:l[k]?= some x):zE (l.drop k) d=(zo x d && zE (l.drop (k+1)) d):=by
 rw[z08 h,zE]
theorem z1X {l:List VT} {d:Nat}:zE (l.drop l.length) d= true:=by
 rw[List.drop_eq_nil_of_le (Nat.le_refl _),zE]
theorem zar:∀ (t:VT) (d:Nat) (cs:List Value) (p o:Nat) (w:World),d<=13->p < w.heap.size->w.rangeAt p o cs->ValAt w w.heap.size cs t->
  Calls Tryz.prog 59 #[.pointer (some ⟨p,o,none⟩),.int .i64 d] w fun e w'=>e= .returned (.bool (zo t d))/\Below w.heap.size w w':=by
 intro t
 induction t using VT.ind with
 |h k n f s ns its ih=>
  intro d cs p o w hd hp hr hv
  have IH:=I ih
  obtain⟨vn,vi,rfl,_,_,hf,_,hn,_,hi⟩:=hv.inv
  obtain⟨_,NA,nc,rfl,_⟩:=id hn
  obtain⟨A,c,rfl,hil,hA⟩:=z0F hi
  have hnl:=hn.1
  have HF:=I (wf64 hf)
  have HN:=I hn
  have HA:=I hA
  have HRG:=I hr
  have HP:=I hp
  have d0:w.cell? ⟨p,o,none⟩= some (.int .i64 k):=hr 0 _ rfl
  have d1:=hr 1 _ rfl
  have d3:=hr 3 _ rfl
  have d4:=hr 4 _ rfl
  have d5:=hr 5 _ rfl
  have HO:Hid (zo (.mk k n f s ns its) d= if 12 < d then false
   else if k= 1 then bareB true false false false n f s ns.length its.length && (n / 2 ==0)
   else if k= 2 then bareB true false false false n f s ns.length its.length
   else if k= 3 then bareB false true false false n f s ns.length its.length
   else if k= 4 then bareB false false true false n f s ns.length its.length && decide (s.size<=200)
   else if k= 6 then(ns.length ==its.length) && (riseB none ns && (bareB false false false true n f s ns.length its.length && zE its (d+1)))
   else if k= 5 then bareB false false false true n f s ns.length its.length && ((ns.length ==0) && zE its (d+1))
   else false):=I (by rw[zo])
  generalize hres:zo (.mk k n f s ns its) d= res at*
  clear ih hr hv hn hi hA hf hp hres
  by_cases hdeep:12 < d
  ·have HV:=I (HO.out.trans (if_pos hdeep))
   have t1:(12:Int) <(d:Int):=by omega
   clear HO hdeep
   go_enter Tryz.func59,Tryz.ntmps59
   go_wp2
   go_ret
   exact⟨za HV.out.symm,Below.refl _ w⟩
  have t1: ¬ ((12:Int) <(d:Int)):=by omega
  have HO1:=I (HO.out.trans (if_neg hdeep))
  clear HO
  by_cases k1:k= 1
  ·subst k1
   have HV:=I (HO1.out.trans (if_pos rfl))
   clear HO1
   have HBR:=I (fun w' (h:w'.rangeAt p o [(.int .i64 1),.int .i64 n,.float .f64 f,.string s,.slice NA ns.length nc,.slice A its.length c])=>zb2 p o 1 n f s NA A ns.length its.length nc c w' HF.out h)
   generalize bareB true false false false n f s ns.length its.length= bb at*
   cases bb with
   |false=>
    have HV2:Hid (res= false):=I (HV.out.trans (Bool.false_and _))
    clear HV d3 d4 d5
    go_enter Tryz.func59,Tryz.ntmps59
    go_wp2_with (go_at_call 102;refine(HBR.out _ HRG.out).mono ?_;rintro e z ⟨rfl,hzw⟩;obtain rfl:=hzw.symm)
    go_ret
    exact⟨za HV2.out.symm,Below.refl _ w⟩
   |true=>
    have HV2:Hid (res=(n / 2 ==0)):=I (HV.out.trans (Bool.true_and _))
    clear HV d3 d4 d5
    go_enter Tryz.func59,Tryz.ntmps59
    go_wp2_with (go_at_call 102;refine(HBR.out _ HRG.out).mono ?_;rintro e z ⟨rfl,hzw⟩;obtain rfl:=hzw.symm)
    go_ret
    exact⟨za HV2.out.symm,Below.refl _ w⟩
  have HO2:=I (HO1.out.trans (if_neg k1))
  clear HO1
  by_cases k2:k= 2
  ·subst k2
   have HV:=I (HO2.out.trans (if_pos rfl))
   clear HO2
   have HBR:=I (fun w' (h:w'.rangeAt p o [(.int .i64 2),.int .i64 n,.float .f64 f,.string s,.slice NA ns.length nc,.slice A its.length c])=>zb2 p o 2 n f s NA A ns.length its.length nc c w' HF.out h)
   generalize bareB true false false false n f s ns.length its.length= bb at*
   clear d1 d3 d4 d5
   go_enter Tryz.func59,Tryz.ntmps59
   go_wp2_with (go_at_call 102;refine(HBR.out _ HRG.out).mono ?_;rintro e z ⟨rfl,hzw⟩;obtain rfl:=hzw.symm)
   go_ret
   exact⟨za HV.out.symm,Below.refl _ w⟩
  have HO3:=I (HO2.out.trans (if_neg k2))
  clear HO2
  by_cases k3:k= 3
  ·subst k3
   have HV:=I (HO3.out.trans (if_pos rfl))
   clear HO3
   have HBR:=I (fun w' (h:w'.rangeAt p o [(.int .i64 3),.int .i64 n,.float .f64 f,.string s,.slice NA ns.length nc,.slice A its.length c])=>zeo p o 3 n f s NA A ns.length its.length nc c w' HF.out h)
   generalize bareB false true false false n f s ns.length its.length= bb at*
   clear d1 d3 d4 d5
   go_enter Tryz.func59,Tryz.ntmps59
   go_wp2_with (go_at_call 102;refine(HBR.out _ HRG.out).mono ?_;rintro e z ⟨rfl,hzw⟩;obtain rfl:=hzw.symm)
   go_ret
   exact⟨za HV.out.symm,Below.refl _ w⟩
  have HO4:=I (HO3.out.trans (if_neg k3))
  clear HO3
  by_cases k4:k= 4
  ·subst k4
   have HV:=I (HO4.out.trans (if_pos rfl))
   clear HO4
   have HBR:=I (fun w' (h:w'.rangeAt p o [(.int .i64 4),.int .i64 n,.float .f64 f,.string s,.slice NA ns.length nc,.slice A its.length c])=>zez p o 4 n f s NA A ns.length its.length nc c w' HF.out h)
   generalize bareB false false true false n f s ns.length its.length= bb at*
   cases bb with
   |false=>
    have HV2:Hid (res= false):=I (HV.out.trans (Bool.false_and _))
    clear HV d1 d4 d5
    go_enter Tryz.func59,Tryz.ntmps59
    go_wp2_with (go_at_call 102;refine(HBR.out _ HRG.out).mono ?_;rintro e z ⟨rfl,hzw⟩;obtain rfl:=hzw.symm)
    go_ret
    exact⟨za HV2.out.symm,Below.refl _ w⟩
   |true=>
    have HV2:Hid (res= decide (s.size<=200)):=I (HV.out.trans (Bool.true_and _))
    clear HV d1 d4 d5
    by_cases hs:s.size<=200
    ·have t2:(s.size:Int)<=200:=by omega
     have HV3:=I (HV2.out.trans (decide_eq_true hs))
     go_enter Tryz.func59,Tryz.ntmps59
     go_wp2_with (go_at_call 102;refine(HBR.out _ HRG.out).mono ?_;rintro e z ⟨rfl,hzw⟩;obtain rfl:=hzw.symm)
     go_ret
     exact⟨za HV3.out.symm,Below.refl _ w⟩
    ·have t2:decide ((s.size:Int)<=200)= false:=decide_eq_false (by omega)
     have t2':(200:Int) <(s.size:Int):=by omega
     have HV3:=I (HV2.out.trans (decide_eq_false hs))
     go_enter Tryz.func59,Tryz.ntmps59
     go_wp2_with (go_at_call 102;refine(HBR.out _ HRG.out).mono ?_;rintro e z ⟨rfl,hzw⟩;obtain rfl:=hzw.symm)
     go_ret
     exact⟨za HV3.out.symm,Below.refl _ w⟩
  have HO5:=I (HO4.out.trans (if_neg k4))
  clear HO4
  by_cases k5:k= 5
  ·subst k5
   have HV:=I (HO5.out.trans ((if_neg (by decide)).trans (if_pos rfl)))
   clear HO5
   have HBR:=I (fun w' (h:w'.rangeAt p o [(.int .i64 5),.int .i64 n,.float .f64 f,.string s,.slice NA ns.length nc,.slice A its.length c])=>z9Z p o 5 n f s NA A ns.length its.length nc c w' HF.out h)
   generalize bareB false false false true n f s ns.length its.length= bb at*
   cases bb with
   |false=>
    have HV2:Hid (res= false):=I (HV.out.trans (Bool.false_and _))
    clear HV d1 d3
    go_enter Tryz.func59,Tryz.ntmps59
    go_wp2_with (go_at_call 102;refine(HBR.out _ HRG.out).mono ?_;rintro e z ⟨rfl,hzw⟩;obtain rfl:=hzw.symm)
    go_ret
    exact⟨za HV2.out.symm,Below.refl _ w⟩
   |true=>
    have HV2:=I (HV.out.trans (Bool.true_and _))
    clear HV d1 d3
    by_cases hnz:ns.length= 0
    ·have HV9:Hid (res= zE its (d+1)):=I (HV2.out.trans (by rw[hnz];exact Bool.true_and _))
     rw[hnz] at HRG HBR d4
     clear HV2 hnz HN
     go_enter Tryz.func59,Tryz.ntmps59
     go_wp2_with (go_at_call 102;refine(HBR.out _ HRG.out).mono ?_;rintro e z ⟨rfl,hzw⟩;obtain rfl:=hzw.symm)
     go_loopg [90] its.length (fun q x u=>∃ j:Nat,j+q= its.length/\x= .int .i64 j/\Below w.heap.size w u/\zE (its.drop j) (d+1)= res)
     case atStart=>exact⟨0,by omega,rfl,Below.refl _ _,HV9.out.symm⟩
     case round=>
      obtain⟨j,hj,rfl,hb,hres⟩:=hrel
      have HR:=I hres
      have HBK:=I hb
      clear hres hb
      cases gk with
      |zero=>
       obtain rfl:j= its.length:=by omega
       have hge: ¬ ((its.length:Int) <(its.length:Int)):=by omega
       have HVE:=I (HR.out.symm.trans z1X)
       go_wp2
       go_ret
       exact⟨za HVE.out.symm,HBK.out⟩
      |succ q=>
       have hlt:(j:Int) <(its.length:Int):=by omega
       obtain⟨x,hx⟩:∃ x,its[j]?= some x:=⟨_,List.getElem?_eq_getElem (by omega)⟩
       obtain⟨b,o',rfl,hbl,hc⟩:=HA.out (by omega)
       obtain⟨ks,hks,hvx⟩:=hc j x hx
       have HVS:=I (HR.out.symm.trans (z1y hx))
       have dd5:=(HBK.out.cell (p:=⟨p,o+5,none⟩) HP.out).trans (HRG.out 5 _ rfl)
       have HC:=I (IH.out x (List.mem_of_getElem? hx) (d+1) ks b (o'+j*6) wr (by omega) (Nat.lt_of_lt_of_le hbl HBK.out.size) (zd hks HBK.out hbl) (hvx.next HBK.out))
       have hd1:((d+1:Nat):Int)=(d:Int)+1:=by omega
       rw[hd1] at HC
       clear hc hks hvx hx hd1
       generalize zo x (d+1)= rx at*
       cases rx with
       |true=>
        have HV2:=I (HVS.out.trans (Bool.true_and _))
        clear HVS
        go_wp2_with (go_at_call 59;refine HC.out.mono ?_;rintro e z ⟨rfl,hbz⟩;have HB3:=I hbz;clear hbz)
        go_roundg q
        case measure=>omega
        case rel=>exact⟨j+1,by omega,by go_num,HBK.out.trans (HB3.out.mono HBK.out.size),HV2.out.symm⟩
       |false=>
        have HV2:Hid (res= false):=I (HVS.out.trans (Bool.false_and _))
        clear HVS
        go_wp2_with (go_at_call 59;refine HC.out.mono ?_;rintro e z ⟨rfl,hbz⟩;have HB3:=I hbz;clear hbz)
        go_ret
        exact⟨za HV2.out.symm,HBK.out.trans (HB3.out.mono HBK.out.size)⟩
    ·have HV3:Hid (res= false):=I (HV2.out.trans (by rw[beq_eq_false_iff_ne.2 hnz];exact Bool.false_and _))
     have t2:(0:Int) <(ns.length:Int):=by omega
     clear HV2 hnz
     go_enter Tryz.func59,Tryz.ntmps59
     go_wp2_with (go_at_call 102;refine(HBR.out _ HRG.out).mono ?_;rintro e z ⟨rfl,hzw⟩;obtain rfl:=hzw.symm)
     go_ret
     exact⟨za HV3.out.symm,Below.refl _ w⟩
  by_cases k6:k= 6
  ·subst k6
   have HV:=I (HO5.out.trans (if_pos rfl))
   clear HO5
   have HBR:=I (fun w' (h:w'.rangeAt p o [(.int .i64 6),.int .i64 n,.float .f64 f,.string s,.slice NA ns.length nc,.slice A its.length c])=>z9Z p o 6 n f s NA A ns.length its.length nc c w' HF.out h)
   have HRI:=I (fun z (hz:Below w.heap.size w z)=>z5v (.slice NA ns.length nc) ns z ((HN.out.below hz fun _ _ _ h=>h).more hz.size))
   by_cases hlen:ns.length= its.length
   ·have HV2:=I (HV.out.trans (by rw[show(ns.length ==its.length)= true from by rw[hlen];exact beq_self_eq_true _,Bool.true_and]))
    have t2:((ns.length:Int) !=(its.length:Int))= false:=by rw[hlen];exact bne_self_eq_false _
    clear HV hlen
    generalize riseB none ns= rb at*
    cases rb with
    |false=>
     have HV3:Hid (res= false):=I (HV2.out.trans (Bool.false_and _))
     clear HV2 d1 d3
     go_enter Tryz.func59,Tryz.ntmps59
     go_upto_region 14 with (fail)
     clear d0 d4 d5
     refine zu [(0,true),(1,true),(2,true),(3,true),(4,true),(5,true),(6,true),(7,true),(8,true),(9,true),(10,true),(11,true),(12,true),(13,true),(14,true),(15,true),(16,false),(17,true),(18,true)]
      (fun z=>Below w.heap.size w z) (by kernel_rfl) (by kernel_rfl) (by kernel_rfl) rfl (by intro c a d v w h;cases d<;>exact h) ?_
     have hs:Below w.heap.size w w.drew:=(Below.refl _ w).drew
     refine zk (some 48) (.pointer (some ⟨p,o,none⟩)) _ _ rfl rfl rfl (by exact wantA rfl) hs rfl ?_
     go_frame
     refine z8 (some 49) (.pointer (some ⟨p,o,none⟩)) _ rfl rfl (by exact wantA rfl) hs (fun z hz=>by go_simp) ?_
     go_frame
     refine z8 (some 50) (.pointer (some ⟨p,o+4,none⟩)) _ rfl rfl (by exact wantA rfl) hs (fun z hz=>by go_simp) ?_
     go_frame
     refine z8 (some 51) (.slice NA ns.length nc) _ rfl rfl (by exact wantA rfl) hs (fun z hz=>by have dd:=(hz.cell (p:=⟨p,o+4,none⟩) HP.out).trans (HRG.out 4 _ rfl);go_simp) ?_
     go_frame
     refine z8 (some 52) (.int .i64 ns.length) _ rfl rfl (by exact wantA rfl) hs (fun z hz=>by go_simp) ?_
     go_frame
     refine zk (some 53) (.pointer (some ⟨p,o,none⟩)) _ _ rfl rfl rfl (by exact wantA rfl) hs rfl ?_
     go_frame
     refine z8 (some 54) (.pointer (some ⟨p,o,none⟩)) _ rfl rfl (by exact wantA rfl) hs (fun z hz=>by go_simp) ?_
     go_frame
     refine z8 (some 55) (.pointer (some ⟨p,o+5,none⟩)) _ rfl rfl (by exact wantA rfl) hs (fun z hz=>by go_simp) ?_
     go_frame
     refine z8 (some 56) (.slice A its.length c) _ rfl rfl (by exact wantA rfl) hs (fun z hz=>by have dd:=(hz.cell (p:=⟨p,o+5,none⟩) HP.out).trans (HRG.out 5 _ rfl);go_simp) ?_
     go_frame
     refine z8 (some 57) (.int .i64 its.length) _ rfl rfl (by exact wantA rfl) hs (fun z hz=>by go_simp) ?_
     go_frame
     refine z8 (some 58) (.bool false) _ rfl rfl (by exact wantA rfl) hs (fun z hz=>by go_simp) ?_
     go_frame
     refine zk (some 59) (.bool false) _ _ rfl rfl rfl (by exact wantA rfl) hs rfl ?_
     go_frame
     refine zk (some 60) (.pointer (some ⟨p,o,none⟩)) _ _ rfl rfl rfl (by exact wantA rfl) hs rfl ?_
     go_frame
     refine z8 (some 61) (.pointer (some ⟨p,o,none⟩)) _ rfl rfl (by exact wantA rfl) hs (fun z hz=>by go_simp) ?_
     go_frame
     refine z8 (some 62) (.pointer (some ⟨p,o+4,none⟩)) _ rfl rfl (by exact wantA rfl) hs (fun z hz=>by go_simp) ?_
     go_frame
     refine z8 (some 63) (.slice NA ns.length nc) _ rfl rfl (by exact wantA rfl) hs (fun z hz=>by have dd:=(hz.cell (p:=⟨p,o+4,none⟩) HP.out).trans (HRG.out 4 _ rfl);go_simp) ?_
     go_frame
     refine zx (some 64) 103 Tryz.func103 (by kernel_rfl) (by kernel_rfl) [.slice NA ns.length nc] _ _ _ rfl rfl rfl (by exact wantA rfl) rfl ?_
     refine(HRI.out _ hs).mono ?_
     rintro e z1 ⟨rfl,hb1⟩
     have hs2:Below w.heap.size w z1:=hs.trans (hb1.mono hs.size)
     refine⟨.bool false,rfl,hs2,?_⟩
     clear hb1
     go_frame
     refine z8 (some 65) (.bool true) _ rfl rfl (by exact wantA rfl) hs2 (fun z hz=>by go_simp) ?_
     go_frame
     refine z0U (some 66) (.bool true) _ _ _ _ false rfl rfl rfl rfl (by exact wantA rfl) hs2 rfl ?_
     go_frame
     refine zR ?_
     have HB2:=I hs2
     clear hs hs2
     go_wp2
     go_ret
     exact⟨za HV3.out.symm,HB2.out⟩
    |true=>
     have HV3:=I (HV2.out.trans (Bool.true_and _))
     clear HV2 d1 d3
     generalize bareB false false false true n f s ns.length its.length= bb at*
     go_enter Tryz.func59,Tryz.ntmps59
     go_upto_region 14 with (fail)
     clear d0 d4 d5
     refine zu [(0,true),(1,true),(2,true),(3,true),(4,true),(5,true),(6,true),(7,true),(8,true),(9,true),(10,true),(11,true),(12,true),(13,true),(14,true),(15,true),(16,false),(17,true),(18,true)]
      (fun z=>Below w.heap.size w z) (by kernel_rfl) (by kernel_rfl) (by kernel_rfl) rfl (by intro c a d v w h;cases d<;>exact h) ?_
     have hs:Below w.heap.size w w.drew:=(Below.refl _ w).drew
     refine zk (some 48) (.pointer (some ⟨p,o,none⟩)) _ _ rfl rfl rfl (by exact wantA rfl) hs rfl ?_
     go_frame
     refine z8 (some 49) (.pointer (some ⟨p,o,none⟩)) _ rfl rfl (by exact wantA rfl) hs (fun z hz=>by go_simp) ?_
     go_frame
     refine z8 (some 50) (.pointer (some ⟨p,o+4,none⟩)) _ rfl rfl (by exact wantA rfl) hs (fun z hz=>by go_simp) ?_
     go_frame
     refine z8 (some 51) (.slice NA ns.length nc) _ rfl rfl (by exact wantA rfl) hs (fun z hz=>by have dd:=(hz.cell (p:=⟨p,o+4,none⟩) HP.out).trans (HRG.out 4 _ rfl);go_simp) ?_
     go_frame
     refine z8 (some 52) (.int .i64 ns.length) _ rfl rfl (by exact wantA rfl) hs (fun z hz=>by go_simp) ?_
     go_frame
     refine zk (some 53) (.pointer (some ⟨p,o,none⟩)) _ _ rfl rfl rfl (by exact wantA rfl) hs rfl ?_
     go_frame
     refine z8 (some 54) (.pointer (some ⟨p,o,none⟩)) _ rfl rfl (by exact wantA rfl) hs (fun z hz=>by go_simp) ?_
     go_frame
     refine z8 (some 55) (.pointer (some ⟨p,o+5,none⟩)) _ rfl rfl (by exact wantA rfl) hs (fun z hz=>by go_simp) ?_
     go_frame
     refine z8 (some 56) (.slice A its.length c) _ rfl rfl (by exact wantA rfl) hs (fun z hz=>by have dd:=(hz.cell (p:=⟨p,o+5,none⟩) HP.out).trans (HRG.out 5 _ rfl);go_simp) ?_
     go_frame
     refine z8 (some 57) (.int .i64 its.length) _ rfl rfl (by exact wantA rfl) hs (fun z hz=>by go_simp) ?_
     go_frame
     refine z8 (some 58) (.bool false) _ rfl rfl (by exact wantA rfl) hs (fun z hz=>by go_simp) ?_
     go_frame
     refine zk (some 59) (.bool false) _ _ rfl rfl rfl (by exact wantA rfl) hs rfl ?_
     go_frame
     refine zk (some 60) (.pointer (some ⟨p,o,none⟩)) _ _ rfl rfl rfl (by exact wantA rfl) hs rfl ?_
     go_frame
     refine z8 (some 61) (.pointer (some ⟨p,o,none⟩)) _ rfl rfl (by exact wantA rfl) hs (fun z hz=>by go_simp) ?_
     go_frame
     refine z8 (some 62) (.pointer (some ⟨p,o+4,none⟩)) _ rfl rfl (by exact wantA rfl) hs (fun z hz=>by go_simp) ?_
     go_frame
     refine z8 (some 63) (.slice NA ns.length nc) _ rfl rfl (by exact wantA rfl) hs (fun z hz=>by have dd:=(hz.cell (p:=⟨p,o+4,none⟩) HP.out).trans (HRG.out 4 _ rfl);go_simp) ?_
     go_frame
     refine zx (some 64) 103 Tryz.func103 (by kernel_rfl) (by kernel_rfl) [.slice NA ns.length nc] _ _ _ rfl rfl rfl (by exact wantA rfl) rfl ?_
     refine(HRI.out _ hs).mono ?_
     rintro e z1 ⟨rfl,hb1⟩
     have hs2:Below w.heap.size w z1:=hs.trans (hb1.mono hs.size)
     refine⟨.bool true,rfl,hs2,?_⟩
     clear hb1
     go_frame
     refine z8 (some 65) (.bool false) _ rfl rfl (by exact wantA rfl) hs2 (fun z hz=>by go_simp) ?_
     go_frame
     refine z0U (some 66) (.bool false) _ _ _ _ false rfl rfl rfl rfl (by exact wantA rfl) hs2 rfl ?_
     go_frame
     refine zR ?_
     have HB2:=I hs2
     clear hs hs2
     have HR1:=I (zd HRG.out HB2.out HP.out)
     have e0:z1.cell? ⟨p,o,none⟩= some (.int .i64 6):=HR1.out 0 _ rfl
     have e5:=HR1.out 5 _ rfl
     cases bb with
     |false=>
      have HV4:Hid (res= false):=I (HV3.out.trans (Bool.false_and _))
      go_wp2_with (go_at_call 102;refine(HBR.out _ HR1.out).mono ?_;rintro e z ⟨rfl,hzw⟩;obtain rfl:=hzw.symm)
      go_ret
      exact⟨za HV4.out.symm,HB2.out⟩
     |true=>
      have HV9:Hid (res= zE its (d+1)):=I (HV3.out.trans (Bool.true_and _))
      clear HV3
      go_wp2_with (go_at_call 102;refine(HBR.out _ HR1.out).mono ?_;rintro e z ⟨rfl,hzw⟩;obtain rfl:=hzw.symm)
      clear e0 e5
      go_loopg [90] its.length (fun q x u=>∃ j:Nat,j+q= its.length/\x= .int .i64 j/\Below w.heap.size w u/\zE (its.drop j) (d+1)= res)
      case atStart=>exact⟨0,by omega,rfl,HB2.out,HV9.out.symm⟩
      case round=>
       obtain⟨j,hj,rfl,hb,hres⟩:=hrel
       have HR:=I hres
       have HBK:=I hb
       clear hres hb
       cases gk with
       |zero=>
        obtain rfl:j= its.length:=by omega
        have hge: ¬ ((its.length:Int) <(its.length:Int)):=by omega
        have HVE:=I (HR.out.symm.trans z1X)
        go_wp2
        go_ret
        exact⟨za HVE.out.symm,HBK.out⟩
       |succ q=>
        have hlt:(j:Int) <(its.length:Int):=by omega
        obtain⟨x,hx⟩:∃ x,its[j]?= some x:=⟨_,List.getElem?_eq_getElem (by omega)⟩
        obtain⟨b,o',rfl,hbl,hc⟩:=HA.out (by omega)
        obtain⟨ks,hks,hvx⟩:=hc j x hx
        have HVS:=I (HR.out.symm.trans (z1y hx))
        have dd5:=(HBK.out.cell (p:=⟨p,o+5,none⟩) HP.out).trans (HRG.out 5 _ rfl)
        have HC:=I (IH.out x (List.mem_of_getElem? hx) (d+1) ks b (o'+j*6) wr (by omega) (Nat.lt_of_lt_of_le hbl HBK.out.size) (zd hks HBK.out hbl) (hvx.next HBK.out))
        have hd1:((d+1:Nat):Int)=(d:Int)+1:=by omega
        rw[hd1] at HC
        clear hc hks hvx hx hd1
        generalize zo x (d+1)= rx at*
        cases rx with
        |true=>
         have HV2:=I (HVS.out.trans (Bool.true_and _))
         clear HVS
         go_wp2_with (go_at_call 59;refine HC.out.mono ?_;rintro e z ⟨rfl,hbz⟩;have HB3:=I hbz;clear hbz)
         go_roundg q
         case measure=>omega
         case rel=>exact⟨j+1,by omega,by go_num,HBK.out.trans (HB3.out.mono HBK.out.size),HV2.out.symm⟩
        |false=>
         have HV2:Hid (res= false):=I (HVS.out.trans (Bool.false_and _))
         clear HVS
         go_wp2_with (go_at_call 59;refine HC.out.mono ?_;rintro e z ⟨rfl,hbz⟩;have HB3:=I hbz;clear hbz)
         go_ret
         exact⟨za HV2.out.symm,HBK.out.trans (HB3.out.mono HBK.out.size)⟩
   ·have HV2:Hid (res= false):=I (HV.out.trans (by rw[beq_eq_false_iff_ne.2 hlen];exact Bool.false_and _))
    have t2:((ns.length:Int) !=(its.length:Int))= true:=by rw[bne_iff_ne];omega
    clear HV hlen d1 d3
    go_enter Tryz.func59,Tryz.ntmps59
    go_wp2
    go_quiet (fail)
    go_wp2
    go_ret
    exact⟨za HV2.out.symm,zC (Below.refl _ w) _⟩
  have HV:=I (HO5.out.trans ((if_neg k6).trans (if_neg k5)))
  have s1:(k ==1)= false:=by simpa using k1
  have s2:(k ==2)= false:=by simpa using k2
  have s3:(k ==3)= false:=by simpa using k3
  have s4:(k ==4)= false:=by simpa using k4
  have s5:(k ==5)= false:=by simpa using k5
  have s6:(k ==6)= false:=by simpa using k6
  clear HO5 d1 d3 d4 d5 k1 k2 k3 k4 k5 k6
  go_enter Tryz.func59,Tryz.ntmps59
  go_wp2
  go_ret
  exact⟨za HV.out.symm,Below.refl _ w⟩
theorem z1O (t:VT) (cs:List Value) (w:World) (hv:ValAt w w.heap.size cs t):Calls Tryz.prog 37 #[.agg ⟨cs⟩] w fun e w'=>e= .returned (.bool (decide (cntV t 0<=200) && zo t 1))/\Below w.heap.size w w':=by
 have HB1:=I (ze w (.cells ⟨cs⟩ 26))
 have HS1:=I (zt w (.cells ⟨cs⟩ 26))
 have HR1:=I (zq w cs 26)
 have HL:=I (zi hv)
 have HV:=I (hv.next HB1.out)
 have HP:=I (zaf t cs (w.alloc (.cells ⟨cs⟩ 26)) HV.out)
 clear hv
 go_enter Tryz.func37,Tryz.ntmps37
 go_upto_region 1 with (fail)
 generalize w.alloc (.cells ⟨cs⟩ 26)= W at*
 by_cases hc:cntV t 0<=200
 ·have t1:((cntV t 0:Nat):Int)<=200:=by omega
  have HD:Hid ((decide (cntV t 0<=200) && zo t 1)= zo t 1):=I (by rw[decide_eq_true hc];exact Bool.true_and _)
  go_wp2_with (first|((with_reducible refine zc 26 _ rfl ?hwa w.heap.size 0 cs _ rfl HR1.out Tryz.underlying26 rfl ?hia ?_);(case hwa=>exact wantA rfl);(case hia=>rw[HL.out.1];kernel_rfl))|(go_at_call 58;refine HP.out.mono ?_;rintro e z ⟨rfl,hbz⟩;have HB2:=I hbz;clear hbz)|(go_at_call 59;refine(zar t 1 cs w.heap.size 0 _ (by decide) (Nat.lt_of_lt_of_le HS1.out HB2.out.size) (zd HR1.out HB2.out HS1.out) (HV.out.next HB2.out)).mono ?_;rintro e z2 ⟨rfl,hbz⟩;have HB3:=I hbz;clear hbz))
  go_ret
  exact⟨za HD.out.symm,HB1.out.trans ((HB2.out.trans (HB3.out.mono HB2.out.size)).mono HB1.out.size)⟩
 ·have t1: ¬ (((cntV t 0:Nat):Int)<=200):=by omega
  have HD:Hid ((decide (cntV t 0<=200) && zo t 1)= false):=I (by rw[decide_eq_false hc];exact Bool.false_and _)
  go_wp2_with (first|((with_reducible refine zc 26 _ rfl ?hwa w.heap.size 0 cs _ rfl HR1.out Tryz.underlying26 rfl ?hia ?_);(case hwa=>exact wantA rfl);(case hia=>rw[HL.out.1];kernel_rfl))|(go_at_call 58;refine HP.out.mono ?_;rintro e z ⟨rfl,hbz⟩;have HB2:=I hbz;clear hbz))
  go_ret
  first|exact⟨za HD.out.symm,HB1.out.trans (HB2.out.mono HB1.out.size)⟩|exact⟨rfl,HB1.out.trans (HB2.out.mono HB1.out.size)⟩
end
section
open Go
def zm (f:Nat):Nat:=if nanB f= true then 9221120237041090560 else f
theorem z9H {f:Nat} (h:nanB f= true):cmpF (zm f) f= 0:=by
 have h1:nanB 9221120237041090560= true:=by decide +kernel
 unfold zm
 rw[if_pos h]
 unfold cmpF
 rw[h1,h]
 rfl
theorem z8h (f:Nat):cmpF (zm f) f= 0:=by
 by_cases h:nanB f= true
 ·exact z9H h
 ·unfold zm
  rw[if_neg h]
  exact cmpF_good.refl f
theorem z8y (f:Nat):(cmpF (zm f) 0 ==0)=(cmpF f 0 ==0):=by
 have h1:=z8h f
 have h2:=cmpF_good.anti (zm f) f
 have t1:=cmpF_good.trans (zm f) f 0
 have t2:=cmpF_good.trans f (zm f) 0
 have t3:=cmpF_good.trans 0 (zm f) f
 have t4:=cmpF_good.trans 0 f (zm f)
 have a1:=cmpF_good.anti (zm f) 0
 have a2:=cmpF_good.anti f 0
 rw[Bool.eq_iff_iff,beq_iff_eq,beq_iff_eq]
 constructor<;>intro h<;>omega
mutual
def z0a:VT->VT
 | .mk k n f s ns its=> .mk k n (zm f) s ns (z0C its)
def z0C:List VT->List VT
 |[]=>[]
 |a::l=>z0a a::z0C l
end
theorem z3g:∀ l:List VT,z0C l= l.map z0a
 |[]=>by rw[z0C];rfl
 |a::l=>by rw[z0C,z3g l];rfl
theorem z2T (l:List VT):(z0C l).length= l.length:=by rw[z3g,List.length_map]
theorem z8K (a b c d:Bool) (n:Int) (f:Nat) (s:ByteArray) (x y:Nat):bareB a b c d n (zm f) s x y= bareB a b c d n f s x y:=by
 unfold bareB
 rw[z8y]
theorem z3H:∀ (l:List VT) (d:Nat),(∀ x∈l,∀ d,zo (z0a x) d= zo x d)->zE (z0C l) d= zE l d
 |[],d,_=>by rw[z0C]
 |a::l,d,h=>by
  rw[z0C,zE,zE,h a (List.mem_cons_self ..),z3H l d fun x hx=>h x (List.mem_cons_of_mem _ hx)]
theorem z8D (t:VT):∀ d,zo (z0a t) d= zo t d:=by
 induction t using VT.ind with
 |h k n f s ns its ih=>
  intro d
  rw[z0a,zo,zo]
  simp only[z8K,z2T,z3H its _ ih]
theorem z5B:∀ (l:List VT) (m:Nat),(∀ x∈l,∀ m,cntV (z0a x) m= cntV x m)->cntL (z0C l) m= cntL l m
 |[],m,_=>by rw[z0C]
 |a::l,m,h=>by
  rw[z0C,cntL,cntL,h a (List.mem_cons_self ..)]
  split
  ·rfl
  ·exact z5B l _ fun x hx=>h x (List.mem_cons_of_mem _ hx)
theorem z8A (t:VT):∀ m,cntV (z0a t) m= cntV t m:=by
 induction t using VT.ind with
 |h k n f s ns its ih=>
  intro m
  rw[z0a,cntV,cntV]
  exact z5B its _ ih
end
section
open Go Go.RowKit
theorem TypAt.next {w w':World} {cs:List Value} {t:TT} (h:TypAt w w.heap.size cs t) (hb:Below w.heap.size w w'):TypAt w' w'.heap.size cs t:=(h.under hb).more hb.size
theorem z2e {w:World} {v:Value} {l:List TT} (h:SlAt w w.heap.size 3 (TypAt w w.heap.size) v l):∃ A c,v= .slice A l.length c/\l.length<=9223372036854775807/\
  (0 < l.length->∃ b o,A= some ⟨b,o,none⟩/\b < w.heap.size/\∀ (i:Nat) x,l[i]?= some x->∃ cs:List Value,w.rangeAt b (o+i*3) cs/\TypAt w w.heap.size cs x):=by
 obtain⟨h0,A,c,h1,h2⟩:=h
 refine⟨A,c,h1,h0,fun hp=> ?_⟩
 obtain⟨b,o,h3,h4,h5⟩:=h2 hp
 refine⟨b,o,h3,h4,fun i x hx=> ?_⟩
 obtain⟨cs,_,h7,h8⟩:=h5 i x hx
 exact⟨cs,h7,h8⟩
theorem z0z {w:World} {B:Nat} {cs:List Value} {t:TT} (h:TypAt w B cs t):cs.length= 3/\∀ u∈cs,u.oneCell'= true:=by
 cases t with
 |mk k ns its=>
  have h9:=h.one
  obtain⟨vn,vi,rfl,_,h1,_,h2⟩:=h.inv
  exact⟨rfl,h9⟩
mutual
def cntT:TT->Nat->Nat
 | .mk _ _ its,n=>cntTL its (n+1)
def cntTL:List TT->Nat->Nat
 |[],n=>n
 |a::l,n=>if 500<=n then n else cntTL l (cntT a n)
end
theorem z7o:∀ (l:List TT) (n:Nat),(∀ x∈l,∀ m,m < 500->cntT x m<=500)->n<=500->cntTL l n<=500
 |[],n,_,h=>by rw[cntTL];exact h
 |a::l,n,h,hn=>by
  rw[cntTL]
  split
  ·exact hn
  ·exact z7o l _ (fun x hx=>h x (List.mem_cons_of_mem _ hx)) (h a (List.mem_cons_self ..) n (by omega))
theorem z90 (t:TT):∀ m,m < 500->cntT t m<=500:=by
 induction t using TT.ind with
 |h k ns its ih=>exact fun m hm=>by rw[cntT];exact z7o its _ ih (by omega)
theorem z5b {l:List TT} {k m:Nat} {x:TT} (h:l[k]?= some x):cntTL (l.drop k) m= if 500<=m then m else cntTL (l.drop (k+1)) (cntT x m):=by
 rw[z08 h,cntTL]
theorem z6g {l:List TT} {m:Nat}:cntTL (l.drop l.length) m= m:=by
 rw[List.drop_eq_nil_of_le (Nat.le_refl _),cntTL]
mutual
def zF:TT->Nat->Bool
 | .mk k ns its,d=>
  if 12 < d then false
  else if k= 5 then(its.length ==1) && ((ns.length ==0) && z05 its (d+1))
  else if k= 6 then(ns.length ==its.length) && (riseB none ns && z05 its (d+1))
  else if k= 1\/k= 2\/k= 3\/k= 4\/k= 7 then(ns.length ==0) && (its.length ==0)
  else false
def z05:List TT->Nat->Bool
 |[],_=>true
 |a::l,d=>zF a d && z05 l d
end
theorem z2F {l:List TT} {k d:Nat} {x:TT} (h:l[k]?= some x):z05 (l.drop k) d=(zF x d && z05 (l.drop (k+1)) d):=by
 rw[z08 h,z05]
theorem z32 {l:List TT} {d:Nat}:z05 (l.drop l.length) d= true:=by
 rw[List.drop_eq_nil_of_le (Nat.le_refl _),z05]
theorem z9I {l : List TT} {d : Nat} {x : TT} (hl : l.length = 1) (h : l[0]? = some x) : z05 l d = zF x d := by
  match l, hl with
  | [y], _ => obtain rfl : y = x := by simpa using h
              simp [z05]
theorem z6V:∀ (t:TT) (m:Nat) (cs:List Value) (p o:Nat) (w:World),m < 500->w.rangeAt p o cs->TypAt w w.heap.size cs t->
  Calls Tryz.prog 95 #[.pointer (some ⟨p,o,none⟩),.int .i64 m] w fun e w'=>e= .returned (.int .i64 (cntT t m:Nat))/\w'= w:=by
 intro t
 induction t using TT.ind with
 |h k ns its ih=>
  intro m cs p o w hm hr hv
  have IH:=I ih
  obtain⟨vn,vi,rfl,_,_,_,hi⟩:=hv.inv
  obtain⟨A,c,rfl,hil,hA⟩:=z2e hi
  have HA:=I hA
  have d2:=hr 2 _ rfl
  have HS:=I (fun k m x=>z5b (l:=its) (k:=k) (m:=m) (x:=x))
  have HE:=I (fun m=>z6g (l:=its) (m:=m))
  have HLE:=I (fun x m hm=>z90 x m hm)
  have H0:Hid (cntTL (its.drop 0) (m+1)= cntT (.mk k ns its) m):=I (by rw[cntT];rfl)
  have hm2:(m:Int) < 500:=by omega
  clear ih hi hA hr hv
  generalize cntT (.mk k ns its) m= res at*
  go_enter Tryz.func95,Tryz.ntmps95
  go_wp2
  go_loopg [1,13] its.length (fun q n x u=>∃ (j m:Nat),j+q= its.length/\x= .int .i64 j/\n= .int .i64 m/\m<=500/\u= w/\cntTL (its.drop j) m= res)
  case atStart=>exact⟨0,m+1,by omega,rfl,by go_num,by omega,rfl,H0.out⟩
  case round=>
   obtain⟨j,m,hj,rfl,rfl,hm5,rfl,hres⟩:=hrel
   have HR:=I hres
   clear hres
   cases gk with
   |zero=>
    obtain rfl:j= its.length:=by omega
    have hge: ¬ ((its.length:Int) <(its.length:Int)):=by omega
    have HV:=I (HR.out.symm.trans (HE.out m))
    go_wp2
    go_ret
    exact⟨by rw[HV.out];rfl,rfl⟩
   |succ q=>
    have hlt:(j:Int) <(its.length:Int):=by omega
    obtain⟨x,hx⟩:∃ x,its[j]?= some x:=⟨_,List.getElem?_eq_getElem (by omega)⟩
    obtain⟨b,o',rfl,hbl,hc⟩:=HA.out (by omega)
    obtain⟨ks,hks,hvx⟩:=hc j x hx
    have HV:=I (HR.out.symm.trans (HS.out j m x hx))
    by_cases h5:500<=m
    ·have HV2:=I (HV.out.trans (if_pos h5))
     have t1:(500:Int)<=(m:Int):=by omega
     clear hc hks hvx hx HV
     go_wp2
     go_ret
     exact⟨by rw[HV2.out];rfl,rfl⟩
    ·have HV2:=I (HV.out.trans (if_neg h5))
     have t1: ¬ ((500:Int)<=(m:Int)):=by omega
     have HC:=I (IH.out x (List.mem_of_getElem? hx) m ks b (o'+j*3) wr (by omega) hks hvx)
     have hle:=HLE.out x m (by omega)
     clear hc hks hvx hx HV h5
     go_wp2_with (go_at_call 95;refine HC.out.mono ?_;rintro e z ⟨rfl,rfl⟩)
     go_roundg q
     case measure=>omega
     case rel=>exact⟨j+1,_,by omega,by go_num,rfl,hle,rfl,HV2.out.symm⟩
theorem zam:∀ (t:TT) (d:Nat) (cs:List Value) (p o:Nat) (w:World),d<=13->p < w.heap.size->w.rangeAt p o cs->TypAt w w.heap.size cs t->
  Calls Tryz.prog 96 #[.pointer (some ⟨p,o,none⟩),.int .i64 d] w fun e w'=>e= .returned (.bool (zF t d))/\Below w.heap.size w w':=by
 intro t
 induction t using TT.ind with
 |h k ns its ih=>
  intro d cs p o w hd hp hr hv
  have IH:=I ih
  obtain⟨vn,vi,rfl,_,hn,_,hi⟩:=hv.inv
  obtain⟨_,NA,nc,rfl,_⟩:=id hn
  obtain⟨A,c,rfl,hil,hA⟩:=z2e hi
  have hnl:=hn.1
  have HN:=I hn
  have HA:=I hA
  have HRG:=I hr
  have HP:=I hp
  have d0:w.cell? ⟨p,o,none⟩= some (.int .i64 k):=hr 0 _ rfl
  have d1:=hr 1 _ rfl
  have d2:=hr 2 _ rfl
  have HO:Hid (zF (.mk k ns its) d= if 12 < d then false
   else if k= 5 then(its.length ==1) && ((ns.length ==0) && z05 its (d+1))
   else if k= 6 then(ns.length ==its.length) && (riseB none ns && z05 its (d+1))
   else if k= 1\/k= 2\/k= 3\/k= 4\/k= 7 then(ns.length ==0) && (its.length ==0)
   else false):=I (by rw[zF])
  generalize hres:zF (.mk k ns its) d= res at*
  clear ih hr hv hn hi hA hp hres
  by_cases hdeep:12 < d
  ·have HV:=I (HO.out.trans (if_pos hdeep))
   have t1:(12:Int) <(d:Int):=by omega
   clear HO hdeep
   go_enter Tryz.func96,Tryz.ntmps96
   go_wp2
   go_ret
   exact⟨za HV.out.symm,Below.refl _ w⟩
  have t1: ¬ ((12:Int) <(d:Int)):=by omega
  have HO1:=I (HO.out.trans (if_neg hdeep))
  clear HO
  by_cases k5:k= 5
  ·subst k5
   have HV:=I (HO1.out.trans (if_pos rfl))
   clear HO1
   by_cases hm0:ns.length= 0
   ·have m1:((ns.length:Int) ==0)= true:=by rw[hm0];rfl
    have m1':(ns.length ==0)= true:=by rw[hm0];rfl
    by_cases hi1:its.length= 1
    ·have j1:((its.length:Int) ==1)= true:=by rw[hi1];rfl
     have j1':(its.length ==1)= true:=by rw[hi1];rfl
     obtain⟨x,hx⟩:∃ x,its[0]?= some x:=⟨_,List.getElem?_eq_getElem (by omega)⟩
     obtain⟨b,o',rfl,hbl,hc⟩:=HA.out (by omega)
     obtain⟨ks,hks,hvx⟩:=hc 0 x hx
     have hks':w.rangeAt b o' ks:=by simpa using hks
     have HC:=I (IH.out x (List.mem_of_getElem? hx) (d+1) ks b o' w (by omega) hbl hks' hvx)
     have hd1:((d+1:Nat):Int)=(d:Int)+1:=by omega
     rw[hd1] at HC
     have HR:Hid (res= zF x (d+1)):=I (by rw[HV.out,z9I hi1 hx];simp[m1',j1'])
     have hlt1:(0:Int) <(its.length:Int):=by omega
     clear hc hks hks' hvx hx hd1 hi1 hm0
     generalize zF x (d+1)= rx at*
     go_enter Tryz.func96,Tryz.ntmps96
     go_wp2_with (go_at_call 96;refine HC.out.mono ?_;rintro e z ⟨rfl,hbz⟩;have HB3:=I hbz;clear hbz)
     go_ret
     exact⟨za HR.out.symm,HB3.out⟩
    ·have j1:((its.length:Int) ==1)= false:=by rw[beq_eq_false_iff_ne];omega
     have j1':(its.length ==1)= false:=by simpa using hi1
     clear hi1 hm0
     have HR:Hid (res= false):=I (by rw[HV.out];simp[m1',j1'])
     go_enter Tryz.func96,Tryz.ntmps96
     go_wp2
     go_ret
     exact⟨za HR.out.symm,Below.refl _ w⟩
   ·have m1:((ns.length:Int) ==0)= false:=by rw[beq_eq_false_iff_ne];omega
    have m1':(ns.length ==0)= false:=by simpa using hm0
    clear hm0
    have HR:Hid (res= false):=I (by rw[HV.out];simp[m1'])
    go_enter Tryz.func96,Tryz.ntmps96
    go_wp2
    go_ret
    exact⟨za HR.out.symm,Below.refl _ w⟩
  have HO2:=I (HO1.out.trans (if_neg k5))
  clear HO1
  by_cases k6:k= 6
  ·subst k6
   have HV:=I (HO2.out.trans (if_pos rfl))
   clear HO2
   have HRI:=I (fun z (hz:Below w.heap.size w z)=>z5v (.slice NA ns.length nc) ns z ((HN.out.below hz fun _ _ _ h=>h).more hz.size))
   by_cases hlen:ns.length= its.length
   ·have HV2:=I (HV.out.trans (by rw[show(ns.length ==its.length)= true from by rw[hlen];exact beq_self_eq_true _,Bool.true_and]))
    have t2:((ns.length:Int) !=(its.length:Int))= false:=by rw[hlen];exact bne_self_eq_false _
    clear HV hlen
    generalize riseB none ns= rb at*
    cases rb with
    |false=>
     have HV3:Hid (res= false):=I (HV2.out.trans (Bool.false_and _))
     clear HV2
     go_enter Tryz.func96,Tryz.ntmps96
     go_upto_region 13 with (fail)
     clear d0 d1 d2
     refine zu [(0,true),(1,true),(2,true),(3,true),(4,true),(5,true),(6,true),(7,true),(8,true),(9,true),(10,true),(11,true),(12,true),(13,true),(14,true),(15,true),(16,false),(17,true),(18,true)]
      (fun z=>Below w.heap.size w z) (by kernel_rfl) (by kernel_rfl) (by kernel_rfl) rfl (by intro c a d v w h;cases d<;>exact h) ?_
     have hs:Below w.heap.size w w.drew:=(Below.refl _ w).drew
     refine zk (some 60) (.pointer (some ⟨p,o,none⟩)) _ _ rfl rfl rfl (by exact wantA rfl) hs rfl ?_
     go_frame
     refine z8 (some 61) (.pointer (some ⟨p,o,none⟩)) _ rfl rfl (by exact wantA rfl) hs (fun z hz=>by go_simp) ?_
     go_frame
     refine z8 (some 62) (.pointer (some ⟨p,o+1,none⟩)) _ rfl rfl (by exact wantA rfl) hs (fun z hz=>by go_simp) ?_
     go_frame
     refine z8 (some 63) (.slice NA ns.length nc) _ rfl rfl (by exact wantA rfl) hs (fun z hz=>by have dd:=(hz.cell (p:=⟨p,o+1,none⟩) HP.out).trans (HRG.out 1 _ rfl);go_simp) ?_
     go_frame
     refine z8 (some 64) (.int .i64 ns.length) _ rfl rfl (by exact wantA rfl) hs (fun z hz=>by go_simp) ?_
     go_frame
     refine zk (some 65) (.pointer (some ⟨p,o,none⟩)) _ _ rfl rfl rfl (by exact wantA rfl) hs rfl ?_
     go_frame
     refine z8 (some 66) (.pointer (some ⟨p,o,none⟩)) _ rfl rfl (by exact wantA rfl) hs (fun z hz=>by go_simp) ?_
     go_frame
     refine z8 (some 67) (.pointer (some ⟨p,o+2,none⟩)) _ rfl rfl (by exact wantA rfl) hs (fun z hz=>by go_simp) ?_
     go_frame
     refine z8 (some 68) (.slice A its.length c) _ rfl rfl (by exact wantA rfl) hs (fun z hz=>by have dd:=(hz.cell (p:=⟨p,o+2,none⟩) HP.out).trans (HRG.out 2 _ rfl);go_simp) ?_
     go_frame
     refine z8 (some 69) (.int .i64 its.length) _ rfl rfl (by exact wantA rfl) hs (fun z hz=>by go_simp) ?_
     go_frame
     refine z8 (some 70) (.bool false) _ rfl rfl (by exact wantA rfl) hs (fun z hz=>by go_simp) ?_
     go_frame
     refine zk (some 71) (.bool false) _ _ rfl rfl rfl (by exact wantA rfl) hs rfl ?_
     go_frame
     refine zk (some 72) (.pointer (some ⟨p,o,none⟩)) _ _ rfl rfl rfl (by exact wantA rfl) hs rfl ?_
     go_frame
     refine z8 (some 73) (.pointer (some ⟨p,o,none⟩)) _ rfl rfl (by exact wantA rfl) hs (fun z hz=>by go_simp) ?_
     go_frame
     refine z8 (some 74) (.pointer (some ⟨p,o+1,none⟩)) _ rfl rfl (by exact wantA rfl) hs (fun z hz=>by go_simp) ?_
     go_frame
     refine z8 (some 75) (.slice NA ns.length nc) _ rfl rfl (by exact wantA rfl) hs (fun z hz=>by have dd:=(hz.cell (p:=⟨p,o+1,none⟩) HP.out).trans (HRG.out 1 _ rfl);go_simp) ?_
     go_frame
     refine zx (some 76) 103 Tryz.func103 (by kernel_rfl) (by kernel_rfl) [.slice NA ns.length nc] _ _ _ rfl rfl rfl (by exact wantA rfl) rfl ?_
     refine(HRI.out _ hs).mono ?_
     rintro e z1 ⟨rfl,hb1⟩
     have hs2:Below w.heap.size w z1:=hs.trans (hb1.mono hs.size)
     refine⟨.bool false,rfl,hs2,?_⟩
     clear hb1
     go_frame
     refine z8 (some 77) (.bool true) _ rfl rfl (by exact wantA rfl) hs2 (fun z hz=>by go_simp) ?_
     go_frame
     refine z0U (some 78) (.bool true) _ _ _ _ false rfl rfl rfl rfl (by exact wantA rfl) hs2 rfl ?_
     go_frame
     refine zR ?_
     have HB2:=I hs2
     clear hs hs2
     go_wp2
     go_ret
     exact⟨za HV3.out.symm,HB2.out⟩
    |true=>
     have HV9:Hid (res= z05 its (d+1)):=I (HV2.out.trans (Bool.true_and _))
     clear HV2
     go_enter Tryz.func96,Tryz.ntmps96
     go_upto_region 13 with (fail)
     clear d0 d1 d2
     refine zu [(0,true),(1,true),(2,true),(3,true),(4,true),(5,true),(6,true),(7,true),(8,true),(9,true),(10,true),(11,true),(12,true),(13,true),(14,true),(15,true),(16,false),(17,true),(18,true)]
      (fun z=>Below w.heap.size w z) (by kernel_rfl) (by kernel_rfl) (by kernel_rfl) rfl (by intro c a d v w h;cases d<;>exact h) ?_
     have hs:Below w.heap.size w w.drew:=(Below.refl _ w).drew
     refine zk (some 60) (.pointer (some ⟨p,o,none⟩)) _ _ rfl rfl rfl (by exact wantA rfl) hs rfl ?_
     go_frame
     refine z8 (some 61) (.pointer (some ⟨p,o,none⟩)) _ rfl rfl (by exact wantA rfl) hs (fun z hz=>by go_simp) ?_
     go_frame
     refine z8 (some 62) (.pointer (some ⟨p,o+1,none⟩)) _ rfl rfl (by exact wantA rfl) hs (fun z hz=>by go_simp) ?_
     go_frame
     refine z8 (some 63) (.slice NA ns.length nc) _ rfl rfl (by exact wantA rfl) hs (fun z hz=>by have dd:=(hz.cell (p:=⟨p,o+1,none⟩) HP.out).trans (HRG.out 1 _ rfl);go_simp) ?_
     go_frame
     refine z8 (some 64) (.int .i64 ns.length) _ rfl rfl (by exact wantA rfl) hs (fun z hz=>by go_simp) ?_
     go_frame
     refine zk (some 65) (.pointer (some ⟨p,o,none⟩)) _ _ rfl rfl rfl (by exact wantA rfl) hs rfl ?_
     go_frame
     refine z8 (some 66) (.pointer (some ⟨p,o,none⟩)) _ rfl rfl (by exact wantA rfl) hs (fun z hz=>by go_simp) ?_
     go_frame
     refine z8 (some 67) (.pointer (some ⟨p,o+2,none⟩)) _ rfl rfl (by exact wantA rfl) hs (fun z hz=>by go_simp) ?_
     go_frame
     refine z8 (some 68) (.slice A its.length c) _ rfl rfl (by exact wantA rfl) hs (fun z hz=>by have dd:=(hz.cell (p:=⟨p,o+2,none⟩) HP.out).trans (HRG.out 2 _ rfl);go_simp) ?_
     go_frame
     refine z8 (some 69) (.int .i64 its.length) _ rfl rfl (by exact wantA rfl) hs (fun z hz=>by go_simp) ?_
     go_frame
     refine z8 (some 70) (.bool false) _ rfl rfl (by exact wantA rfl) hs (fun z hz=>by go_simp) ?_
     go_frame
     refine zk (some 71) (.bool false) _ _ rfl rfl rfl (by exact wantA rfl) hs rfl ?_
     go_frame
     refine zk (some 72) (.pointer (some ⟨p,o,none⟩)) _ _ rfl rfl rfl (by exact wantA rfl) hs rfl ?_
     go_frame
     refine z8 (some 73) (.pointer (some ⟨p,o,none⟩)) _ rfl rfl (by exact wantA rfl) hs (fun z hz=>by go_simp) ?_
     go_frame
     refine z8 (some 74) (.pointer (some ⟨p,o+1,none⟩)) _ rfl rfl (by exact wantA rfl) hs (fun z hz=>by go_simp) ?_
     go_frame
     refine z8 (some 75) (.slice NA ns.length nc) _ rfl rfl (by exact wantA rfl) hs (fun z hz=>by have dd:=(hz.cell (p:=⟨p,o+1,none⟩) HP.out).trans (HRG.out 1 _ rfl);go_simp) ?_
     go_frame
     refine zx (some 76) 103 Tryz.func103 (by kernel_rfl) (by kernel_rfl) [.slice NA ns.length nc] _ _ _ rfl rfl rfl (by exact wantA rfl) rfl ?_
     refine(HRI.out _ hs).mono ?_
     rintro e z1 ⟨rfl,hb1⟩
     have hs2:Below w.heap.size w z1:=hs.trans (hb1.mono hs.size)
     refine⟨.bool true,rfl,hs2,?_⟩
     clear hb1
     go_frame
     refine z8 (some 77) (.bool false) _ rfl rfl (by exact wantA rfl) hs2 (fun z hz=>by go_simp) ?_
     go_frame
     refine z0U (some 78) (.bool false) _ _ _ _ false rfl rfl rfl rfl (by exact wantA rfl) hs2 rfl ?_
     go_frame
     refine zR ?_
     have HB2:=I hs2
     clear hs hs2
     have e2:=(HB2.out.cell (p:=⟨p,o+2,none⟩) HP.out).trans (HRG.out 2 _ rfl)
     go_wp2
     clear e2
     go_loopg [84] its.length (fun q x u=>∃ j:Nat,j+q= its.length/\x= .int .i64 j/\Below w.heap.size w u/\z05 (its.drop j) (d+1)= res)
     case atStart=>exact⟨0,by omega,rfl,HB2.out,HV9.out.symm⟩
     case round=>
      obtain⟨j,hj,rfl,hb,hres⟩:=hrel
      have HR:=I hres
      have HBK:=I hb
      clear hres hb
      cases gk with
      |zero=>
       obtain rfl:j= its.length:=by omega
       have hge: ¬ ((its.length:Int) <(its.length:Int)):=by omega
       have HVE:=I (HR.out.symm.trans z32)
       go_wp2
       go_ret
       exact⟨za HVE.out.symm,HBK.out⟩
      |succ q=>
       have hlt:(j:Int) <(its.length:Int):=by omega
       obtain⟨x,hx⟩:∃ x,its[j]?= some x:=⟨_,List.getElem?_eq_getElem (by omega)⟩
       obtain⟨b,o',rfl,hbl,hc⟩:=HA.out (by omega)
       obtain⟨ks,hks,hvx⟩:=hc j x hx
       have HVS:=I (HR.out.symm.trans (z2F hx))
       have dd2:=(HBK.out.cell (p:=⟨p,o+2,none⟩) HP.out).trans (HRG.out 2 _ rfl)
       have HC:=I (IH.out x (List.mem_of_getElem? hx) (d+1) ks b (o'+j*3) wr (by omega) (Nat.lt_of_lt_of_le hbl HBK.out.size) (zd hks HBK.out hbl) (hvx.next HBK.out))
       have hd1:((d+1:Nat):Int)=(d:Int)+1:=by omega
       rw[hd1] at HC
       clear hc hks hvx hx hd1
       generalize zF x (d+1)= rx at*
       cases rx with
       |true=>
        have HV2:=I (HVS.out.trans (Bool.true_and _))
        clear HVS
        go_wp2_with (go_at_call 96;refine HC.out.mono ?_;rintro e z ⟨rfl,hbz⟩;have HB3:=I hbz;clear hbz)
        go_roundg q
        case measure=>omega
        case rel=>exact⟨j+1,by omega,by go_num,HBK.out.trans (HB3.out.mono HBK.out.size),HV2.out.symm⟩
       |false=>
        have HV2:Hid (res= false):=I (HVS.out.trans (Bool.false_and _))
        clear HVS
        go_wp2_with (go_at_call 96;refine HC.out.mono ?_;rintro e z ⟨rfl,hbz⟩;have HB3:=I hbz;clear hbz)
        go_ret
        exact⟨za HV2.out.symm,HBK.out.trans (HB3.out.mono HBK.out.size)⟩
   ·have HV2:Hid (res= false):=I (HV.out.trans (by rw[beq_eq_false_iff_ne.2 hlen];exact Bool.false_and _))
    have t2:((ns.length:Int) !=(its.length:Int))= true:=by rw[bne_iff_ne];omega
    clear HV hlen
    go_enter Tryz.func96,Tryz.ntmps96
    go_wp2
    go_quiet (fail)
    go_wp2
    go_ret
    exact⟨za HV2.out.symm,zC (Below.refl _ w) _⟩
  have HO3:=I (HO2.out.trans (if_neg k6))
  clear HO2
  by_cases k1:k= 1
  ·subst k1
   have HV:=I (HO3.out.trans (if_pos (by decide)))
   clear HO3
   by_cases hm0:ns.length= 0
   ·have m1:((ns.length:Int) ==0)= true:=by rw[hm0];rfl
    have m1':(ns.length ==0)= true:=by rw[hm0];rfl
    clear hm0
    by_cases hi0:its.length= 0
    ·have i1:((its.length:Int) ==0)= true:=by rw[hi0];rfl
     have i1':(its.length ==0)= true:=by rw[hi0];rfl
     clear hi0
     have HR:Hid (res= true):=I (by rw[HV.out];simp[m1',i1'])
     go_enter Tryz.func96,Tryz.ntmps96
     go_wp2
     go_ret
     exact⟨za HR.out.symm,Below.refl _ w⟩
    ·have i1:((its.length:Int) ==0)= false:=by rw[beq_eq_false_iff_ne];omega
     have i1':(its.length ==0)= false:=by simpa using hi0
     clear hi0
     have HR:Hid (res= false):=I (by rw[HV.out];simp[m1',i1'])
     go_enter Tryz.func96,Tryz.ntmps96
     go_wp2
     go_ret
     exact⟨za HR.out.symm,Below.refl _ w⟩
   ·have m1:((ns.length:Int) ==0)= false:=by rw[beq_eq_false_iff_ne];omega
    have m1':(ns.length ==0)= false:=by simpa using hm0
    clear hm0
    have HR:Hid (res= false):=I (by rw[HV.out];simp[m1'])
    go_enter Tryz.func96,Tryz.ntmps96
    go_wp2
    go_ret
    exact⟨za HR.out.symm,Below.refl _ w⟩
  by_cases k2:k= 2
  ·subst k2
   have HV:=I (HO3.out.trans (if_pos (by decide)))
   clear HO3
   by_cases hm0:ns.length= 0
   ·have m1:((ns.length:Int) ==0)= true:=by rw[hm0];rfl
    have m1':(ns.length ==0)= true:=by rw[hm0];rfl
    clear hm0
    by_cases hi0:its.length= 0
    ·have i1:((its.length:Int) ==0)= true:=by rw[hi0];rfl
     have i1':(its.length ==0)= true:=by rw[hi0];rfl
     clear hi0
     have HR:Hid (res= true):=I (by rw[HV.out];simp[m1',i1'])
     go_enter Tryz.func96,Tryz.ntmps96
     go_wp2
     go_ret
     exact⟨za HR.out.symm,Below.refl _ w⟩
    ·have i1:((its.length:Int) ==0)= false:=by rw[beq_eq_false_iff_ne];omega
     have i1':(its.length ==0)= false:=by simpa using hi0
     clear hi0
     have HR:Hid (res= false):=I (by rw[HV.out];simp[m1',i1'])
     go_enter Tryz.func96,Tryz.ntmps96
     go_wp2
     go_ret
     exact⟨za HR.out.symm,Below.refl _ w⟩
   ·have m1:((ns.length:Int) ==0)= false:=by rw[beq_eq_false_iff_ne];omega
    have m1':(ns.length ==0)= false:=by simpa using hm0
    clear hm0
    have HR:Hid (res= false):=I (by rw[HV.out];simp[m1'])
    go_enter Tryz.func96,Tryz.ntmps96
    go_wp2
    go_ret
    exact⟨za HR.out.symm,Below.refl _ w⟩
  by_cases k3:k= 3
  ·subst k3
   have HV:=I (HO3.out.trans (if_pos (by decide)))
   clear HO3
   by_cases hm0:ns.length= 0
   ·have m1:((ns.length:Int) ==0)= true:=by rw[hm0];rfl
    have m1':(ns.length ==0)= true:=by rw[hm0];rfl
    clear hm0
    by_cases hi0:its.length= 0
    ·have i1:((its.length:Int) ==0)= true:=by rw[hi0];rfl
     have i1':(its.length ==0)= true:=by rw[hi0];rfl
     clear hi0
     have HR:Hid (res= true):=I (by rw[HV.out];simp[m1',i1'])
     go_enter Tryz.func96,Tryz.ntmps96
     go_wp2
     go_ret
     exact⟨za HR.out.symm,Below.refl _ w⟩
    ·have i1:((its.length:Int) ==0)= false:=by rw[beq_eq_false_iff_ne];omega
     have i1':(its.length ==0)= false:=by simpa using hi0
     clear hi0
     have HR:Hid (res= false):=I (by rw[HV.out];simp[m1',i1'])
     go_enter Tryz.func96,Tryz.ntmps96
     go_wp2
     go_ret
     exact⟨za HR.out.symm,Below.refl _ w⟩
   ·have m1:((ns.length:Int) ==0)= false:=by rw[beq_eq_false_iff_ne];omega
    have m1':(ns.length ==0)= false:=by simpa using hm0
    clear hm0
    have HR:Hid (res= false):=I (by rw[HV.out];simp[m1'])
    go_enter Tryz.func96,Tryz.ntmps96
    go_wp2
    go_ret
    exact⟨za HR.out.symm,Below.refl _ w⟩
  by_cases k4:k= 4
  ·subst k4
   have HV:=I (HO3.out.trans (if_pos (by decide)))
   clear HO3
   by_cases hm0:ns.length= 0
   ·have m1:((ns.length:Int) ==0)= true:=by rw[hm0];rfl
    have m1':(ns.length ==0)= true:=by rw[hm0];rfl
    clear hm0
    by_cases hi0:its.length= 0
    ·have i1:((its.length:Int) ==0)= true:=by rw[hi0];rfl
     have i1':(its.length ==0)= true:=by rw[hi0];rfl
     clear hi0
     have HR:Hid (res= true):=I (by rw[HV.out];simp[m1',i1'])
     go_enter Tryz.func96,Tryz.ntmps96
     go_wp2
     go_ret
     exact⟨za HR.out.symm,Below.refl _ w⟩
    ·have i1:((its.length:Int) ==0)= false:=by rw[beq_eq_false_iff_ne];omega
     have i1':(its.length ==0)= false:=by simpa using hi0
     clear hi0
     have HR:Hid (res= false):=I (by rw[HV.out];simp[m1',i1'])
     go_enter Tryz.func96,Tryz.ntmps96
     go_wp2
     go_ret
     exact⟨za HR.out.symm,Below.refl _ w⟩
   ·have m1:((ns.length:Int) ==0)= false:=by rw[beq_eq_false_iff_ne];omega
    have m1':(ns.length ==0)= false:=by simpa using hm0
    clear hm0
    have HR:Hid (res= false):=I (by rw[HV.out];simp[m1'])
    go_enter Tryz.func96,Tryz.ntmps96
    go_wp2
    go_ret
    exact⟨za HR.out.symm,Below.refl _ w⟩
  by_cases k7:k= 7
  ·subst k7
   have HV:=I (HO3.out.trans (if_pos (by decide)))
   clear HO3
   by_cases hm0:ns.length= 0
   ·have m1:((ns.length:Int) ==0)= true:=by rw[hm0];rfl
    have m1':(ns.length ==0)= true:=by rw[hm0];rfl
    clear hm0
    by_cases hi0:its.length= 0
    ·have i1:((its.length:Int) ==0)= true:=by rw[hi0];rfl
     have i1':(its.length ==0)= true:=by rw[hi0];rfl
     clear hi0
     have HR:Hid (res= true):=I (by rw[HV.out];simp[m1',i1'])
     go_enter Tryz.func96,Tryz.ntmps96
     go_wp2
     go_ret
     exact⟨za HR.out.symm,Below.refl _ w⟩
    ·have i1:((its.length:Int) ==0)= false:=by rw[beq_eq_false_iff_ne];omega
     have i1':(its.length ==0)= false:=by simpa using hi0
     clear hi0
     have HR:Hid (res= false):=I (by rw[HV.out];simp[m1',i1'])
     go_enter Tryz.func96,Tryz.ntmps96
     go_wp2
     go_ret
     exact⟨za HR.out.symm,Below.refl _ w⟩
   ·have m1:((ns.length:Int) ==0)= false:=by rw[beq_eq_false_iff_ne];omega
    have m1':(ns.length ==0)= false:=by simpa using hm0
    clear hm0
    have HR:Hid (res= false):=I (by rw[HV.out];simp[m1'])
    go_enter Tryz.func96,Tryz.ntmps96
    go_wp2
    go_ret
    exact⟨za HR.out.symm,Below.refl _ w⟩
  have HR:=I (HO3.out.trans (if_neg (by omega)))
  have s1:(k ==1)= false:=by simpa using k1
  have s2:(k ==2)= false:=by simpa using k2
  have s3:(k ==3)= false:=by simpa using k3
  have s4:(k ==4)= false:=by simpa using k4
  have s5:(k ==5)= false:=by simpa using k5
  have s6:(k ==6)= false:=by simpa using k6
  have s7:(k ==7)= false:=by simpa using k7
  clear HO3 k1 k2 k3 k4 k5 k6 k7
  go_enter Tryz.func96,Tryz.ntmps96
  go_wp2
  go_ret
  exact⟨za HR.out.symm,Below.refl _ w⟩
theorem z6P (t:TT) (cs:List Value) (w:World) (hv:TypAt w w.heap.size cs t):Calls Tryz.prog 54 #[.agg ⟨cs⟩] w fun e w'=>e= .returned (.bool (decide (cntT t 0<=200) && zF t 1))/\Below w.heap.size w w':=by
 have HB1:=I (ze w (.cells ⟨cs⟩ 45))
 have HS1:=I (zt w (.cells ⟨cs⟩ 45))
 have HR1:=I (zq w cs 45)
 have HV:=I (hv.next HB1.out)
 clear hv
 go_enter Tryz.func54,Tryz.ntmps54
 go_upto_region 1 with (fail)
 generalize w.alloc (.cells ⟨cs⟩ 45)= W at*
 have HP:=I (z6V t 0 cs w.heap.size 0 W (by decide) HR1.out HV.out)
 have HT:=I (zam t 1 cs w.heap.size 0 W (by decide) HS1.out HR1.out HV.out)
 by_cases hc:cntT t 0<=200
 ·have t1:((cntT t 0:Nat):Int)<=200:=by omega
  have HD:Hid ((decide (cntT t 0<=200) && zF t 1)= zF t 1):=I (by rw[decide_eq_true hc];exact Bool.true_and _)
  go_wp2_with (first|(go_at_call 95;refine HP.out.mono ?_;rintro e z ⟨rfl,hzw⟩;obtain rfl:=hzw)|(go_at_call 96;refine HT.out.mono ?_;rintro e z2 ⟨rfl,hbz⟩;have HB3:=I hbz;clear hbz))
  go_ret
  exact⟨za HD.out.symm,HB1.out.trans (HB3.out.mono HB1.out.size)⟩
 ·have t1: ¬ (((cntT t 0:Nat):Int)<=200):=by omega
  have HD:Hid ((decide (cntT t 0<=200) && zF t 1)= false):=I (by rw[decide_eq_false hc];exact Bool.false_and _)
  go_wp2_with (go_at_call 95;refine HP.out.mono ?_;rintro e z ⟨rfl,hzw⟩;obtain rfl:=hzw)
  go_ret
  first|exact⟨za HD.out.symm,HB1.out⟩|exact⟨rfl,HB1.out⟩
end
end Go.Proofs.YtmpbepjjbaeebaaGreatDoor
