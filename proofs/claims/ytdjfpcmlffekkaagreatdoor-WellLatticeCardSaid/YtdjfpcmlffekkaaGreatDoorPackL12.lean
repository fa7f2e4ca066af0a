/- Parts of a proof: RRight, Typ, RTyp, Rows4, Fits, RFits, CntT, SamT, SamX, ESmallQ, MSmall. -/
import Derived.Test.YtdjfpcmlffekkaaGreatDoorPackL4
import Derived.Test.YtdjfpcmlffekkaaGreatDoorPackL8
import Derived.Test.YtdjfpcmlffekkaaGreatDoorPackL10
import Derived.Test.YtdjfpcmlffekkaaGreatDoorPackL11
set_option maxHeartbeats 8000000
set_option maxRecDepth 100000
set_option linter.unusedVariables false
set_option linter.unusedSimpArgs false
namespace Go.Proofs.YtdjfpcmlffekkaaGreatDoor
section
open Go Go.RowKit
theorem sc3 (a b c:Bool):a= false\/(a= true/\b= false)\/(a= true/\b= true/\c= false)\/(a= true/\b= true/\c= true):=by cases a<;>cases b<;>cases c<;>simp
end
section
open Go Go.RowKit
theorem TypAt.next {w w':World} {cs:List Value} {t:TT} (h:TypAt w w.heap.size cs t) (hb:Below w.heap.size w w'):TypAt w' w'.heap.size cs t:=(h.under hb).more hb.size
theorem z1O {w:World} {v:Value} {l:List TT} (h:SlAt w w.heap.size 3 (TypAt w w.heap.size) v l):∃ A c,v= .slice A l.length c/\l.length<=9223372036854775807/\
  (0 < l.length->∃ b o,A= some ⟨b,o,none⟩/\b < w.heap.size/\∀ (i:Nat) x,l[i]?= some x->∃ cs:List Value,w.rangeAt b (o+i*3) cs/\TypAt w w.heap.size cs x):=by
 obtain⟨h0,A,c,h1,h2⟩:=h
 refine⟨A,c,h1,h0,fun hp=> ?_⟩
 obtain⟨b,o,h3,h4,h5⟩:=h2 hp
 refine⟨b,o,h3,h4,fun i x hx=> ?_⟩
 obtain⟨cs,_,h7,h8⟩:=h5 i x hx
 exact⟨cs,h7,h8⟩
theorem zk {w:World} {B:Nat} {cs:List Value} {t:TT} (h:TypAt w B cs t):cs.length= 3/\∀ u∈cs,u.oneCell'= true:=by
 cases t with
 |mk k ns its=>
  have h9:=h.one
  obtain⟨vn,vi,rfl,_,h1,_,h2⟩:=h.inv
  exact⟨rfl,h9⟩
mutual
def cntT:TT->Nat->Nat
 | .mk _ _ its,n=>cntTL its (n+1)
def cntTL:List TT->Nat->Nat
 |[],n=>n
 |a::l,n=>if 500<=n then n else cntTL l (cntT a n)
end
theorem z7x:∀ (l:List TT) (n:Nat),(∀ x∈l,∀ m,m < 500->cntT x m<=500)->n<=500->cntTL l n<=500
 |[],n,_,h=>by rw[cntTL];exact h
 |a::l,n,h,hn=>by
  rw[cntTL]
  split
  ·exact hn
  ·exact z7x l _ (fun x hx=>h x (List.mem_cons_of_mem _ hx)) (h a (List.mem_cons_self ..) n (by omega))
theorem z9r (t:TT):∀ m,m < 500->cntT t m<=500:=by
 induction t using TT.ind with
 |h k ns its ih=>exact fun m hm=>by rw[cntT];exact z7x its _ ih (by omega)
theorem z5B {l:List TT} {k m:Nat} {x:TT} (h:l[k]?= some x):cntTL (l.drop k) m= if 500<=m then m else cntTL (l.drop (k+1)) (cntT x m):=by
 rw[z06 h,cntTL]
theorem z6S {l:List TT} {m:Nat}:cntTL (l.drop l.length) m= m:=by
 rw[List.drop_eq_nil_of_le (Nat.le_refl _),cntTL]
mutual
def zP:TT->Nat->Bool
 | .mk k ns its,d=>
  if 12 < d then false
  else if k= 5 then(its.length ==1) && ((ns.length ==0) && z0v its (d+1))
  else if k= 6 then(ns.length ==its.length) && (riseB none ns && z0v its (d+1))
  else if k= 1\/k= 2\/k= 3\/k= 4\/k= 7 then(ns.length ==0) && (its.length ==0)
  else false
def z0v:List TT->Nat->Bool
 |[],_=>true
 |a::l,d=>zP a d && z0v l d
end
theorem z8w {l:List TT} {k d:Nat} {x:TT} (h:l[k]?= some x):z0v (l.drop k) d=(zP x d && z0v (l.drop (k+1)) d):=by
 rw[z06 h,z0v]
theorem z9X {l:List TT} {d:Nat}:z0v (l.drop l.length) d= true:=by
 rw[List.drop_eq_nil_of_le (Nat.le_refl _),z0v]
theorem z9V {l : List TT} {d : Nat} {x : TT} (hl : l.length = 1) (h : l[0]? = some x) : z0v l d = zP x d := by
  match l, hl with
  | [y], _ => obtain rfl : y = x := by simpa using h
              simp [z0v]
theorem z75:∀ (t:TT) (m:Nat) (cs:List Value) (p o:Nat) (w:World),m < 500->w.rangeAt p o cs->TypAt w w.heap.size cs t->
  Calls Tryz.prog 49 #[.pointer (some ⟨p,o,none⟩),.int .i64 m] w fun e w'=>e= .returned (.int .i64 (cntT t m:Nat))/\w'= w:=by
 intro t
 induction t using TT.ind with
 |h k ns its ih=>
  intro m cs p o w hm hr hv
  have IH:=I ih
  obtain⟨vn,vi,rfl,_,_,_,hi⟩:=hv.inv
  obtain⟨A,c,rfl,hil,hA⟩:=z1O hi
  have HA:=I hA
  have d2:=hr 2 _ rfl
  have HS:=I (fun k m x=>z5B (l:=its) (k:=k) (m:=m) (x:=x))
  have HE:=I (fun m=>z6S (l:=its) (m:=m))
  have HLE:=I (fun x m hm=>z9r x m hm)
  have H0:Hid (cntTL (its.drop 0) (m+1)= cntT (.mk k ns its) m):=I (by rw[cntT];rfl)
  have hm2:(m:Int) < 500:=by omega
  clear ih hi hA hr hv
  generalize cntT (.mk k ns its) m= res at*
  go_enter Tryz.func49,Tryz.ntmps49
  go_wp2
  go_loopg [1,13] its.length (fun q n x u=>∃ (j m:Nat),j+q= its.length/\x= .int .i64 j/\n= .int .i64 m/\m<=500/\u= w/\cntTL (its.drop j) m= res)
  case atStart=>exact⟨0,m+1,by omega,rfl,by go_num,by omega,rfl,H0.o⟩
  case round=>
   obtain⟨j,m,hj,rfl,rfl,hm5,rfl,hres⟩:=hrel
   have HR:=I hres
   clear hres
   cases gk with
   |zero=>
    obtain rfl:j= its.length:=by omega
    have hge: ¬ ((its.length:Int) <(its.length:Int)):=by omega
    have HV:=I (HR.o.symm.trans (HE.o m))
    go_wp2
    go_ret
    exact⟨by rw[HV.o];rfl,rfl⟩
   |succ q=>
    have hlt:(j:Int) <(its.length:Int):=by omega
    obtain⟨x,hx⟩:∃ x,its[j]?= some x:=⟨_,List.getElem?_eq_getElem (by omega)⟩
    obtain⟨b,o',rfl,hbl,hc⟩:=HA.o (by omega)
    obtain⟨ks,hks,hvx⟩:=hc j x hx
    have HV:=I (HR.o.symm.trans (HS.o j m x hx))
    by_cases h5:500<=m
    ·have HV2:=I (HV.o.trans (if_pos h5))
     have t1:(500:Int)<=(m:Int):=by omega
     clear hc hks hvx hx HV
     go_wp2
     go_ret
     exact⟨by rw[HV2.o];rfl,rfl⟩
    ·have HV2:=I (HV.o.trans (if_neg h5))
     have t1: ¬ ((500:Int)<=(m:Int)):=by omega
     have HC:=I (IH.o x (List.mem_of_getElem? hx) m ks b (o'+j*3) wr (by omega) hks hvx)
     have hle:=HLE.o x m (by omega)
     clear hc hks hvx hx HV h5
     go_wp2_with (go_at_call 49;refine HC.o.mono ?_;rintro e z ⟨rfl,rfl⟩)
     go_roundg q
     case measure=>omega
     case rel=>exact⟨j+1,_,by omega,by go_num,rfl,hle,rfl,HV2.o.symm⟩
theorem zbu:∀ (t:TT) (d:Nat) (cs:List Value) (p o:Nat) (w:World),d<=13->p < w.heap.size->w.rangeAt p o cs->TypAt w w.heap.size cs t->
  Calls Tryz.prog 50 #[.pointer (some ⟨p,o,none⟩),.int .i64 d] w fun e w'=>e= .returned (.bool (zP t d))/\Below w.heap.size w w':=by
 intro t
 induction t using TT.ind with
 |h k ns its ih=>
  intro d cs p o w hd hp hr hv
  have IH:=I ih
  obtain⟨vn,vi,rfl,_,hn,_,hi⟩:=hv.inv
  obtain⟨_,NA,nc,rfl,_⟩:=id hn
  obtain⟨A,c,rfl,hil,hA⟩:=z1O hi
  have hnl:=hn.1
  have HN:=I hn
  have HA:=I hA
  have HRG:=I hr
  have HP:=I hp
  have d0:w.cell? ⟨p,o,none⟩= some (.int .i64 k):=hr 0 _ rfl
  have d1:=hr 1 _ rfl
  have d2:=hr 2 _ rfl
  have HO:Hid (zP (.mk k ns its) d= if 12 < d then false
   else if k= 5 then(its.length ==1) && ((ns.length ==0) && z0v its (d+1))
   else if k= 6 then(ns.length ==its.length) && (riseB none ns && z0v its (d+1))
   else if k= 1\/k= 2\/k= 3\/k= 4\/k= 7 then(ns.length ==0) && (its.length ==0)
   else false):=I (by rw[zP])
  generalize hres:zP (.mk k ns its) d= res at*
  clear ih hr hv hn hi hA hp hres
  by_cases hdeep:12 < d
  ·have HV:=I (HO.o.trans (if_pos hdeep))
   have t1:(12:Int) <(d:Int):=by omega
   clear HO hdeep
   go_enter Tryz.func50,Tryz.ntmps50
   go_wp2
   go_ret
   exact⟨zb HV.o.symm,Below.refl _ w⟩
  have t1: ¬ ((12:Int) <(d:Int)):=by omega
  have HO1:=I (HO.o.trans (if_neg hdeep))
  clear HO
  by_cases k5:k= 5
  ·subst k5
   have HV:=I (HO1.o.trans (if_pos rfl))
   clear HO1
   by_cases hm0:ns.length= 0
   ·have m1:((ns.length:Int) ==0)= true:=by rw[hm0];rfl
    have m1':(ns.length ==0)= true:=by rw[hm0];rfl
    by_cases hi1:its.length= 1
    ·have j1:((its.length:Int) ==1)= true:=by rw[hi1];rfl
     have j1':(its.length ==1)= true:=by rw[hi1];rfl
     obtain⟨x,hx⟩:∃ x,its[0]?= some x:=⟨_,List.getElem?_eq_getElem (by omega)⟩
     obtain⟨b,o',rfl,hbl,hc⟩:=HA.o (by omega)
     obtain⟨ks,hks,hvx⟩:=hc 0 x hx
     have hks':w.rangeAt b o' ks:=by simpa using hks
     have HC:=I (IH.o x (List.mem_of_getElem? hx) (d+1) ks b o' w (by omega) hbl hks' hvx)
     have hd1:((d+1:Nat):Int)=(d:Int)+1:=by omega
     rw[hd1] at HC
     have HR:Hid (res= zP x (d+1)):=I (by rw[HV.o,z9V hi1 hx];simp[m1',j1'])
     have hlt1:(0:Int) <(its.length:Int):=by omega
     clear hc hks hks' hvx hx hd1 hi1 hm0
     generalize zP x (d+1)= rx at*
     go_enter Tryz.func50,Tryz.ntmps50
     go_wp2_with (go_at_call 50;refine HC.o.mono ?_;rintro e z ⟨rfl,hbz⟩;have HB3:=I hbz;clear hbz)
     go_ret
     exact⟨zb HR.o.symm,HB3.o⟩
    ·have j1:((its.length:Int) ==1)= false:=by rw[beq_eq_false_iff_ne];omega
     have j1':(its.length ==1)= false:=by simpa using hi1
     clear hi1 hm0
     have HR:Hid (res= false):=I (by rw[HV.o];simp[m1',j1'])
     go_enter Tryz.func50,Tryz.ntmps50
     go_wp2
     go_ret
     exact⟨zb HR.o.symm,Below.refl _ w⟩
   ·have m1:((ns.length:Int) ==0)= false:=by rw[beq_eq_false_iff_ne];omega
    have m1':(ns.length ==0)= false:=by simpa using hm0
    clear hm0
    have HR:Hid (res= false):=I (by rw[HV.o];simp[m1'])
    go_enter Tryz.func50,Tryz.ntmps50
    go_wp2
    go_ret
    exact⟨zb HR.o.symm,Below.refl _ w⟩
  have HO2:=I (HO1.o.trans (if_neg k5))
  clear HO1
  by_cases k6:k= 6
  ·subst k6
   have HV:=I (HO2.o.trans (if_pos rfl))
   clear HO2
   have HRI:=I (fun z (hz:Below w.heap.size w z)=>z5h (.slice NA ns.length nc) ns z ((HN.o.below hz fun _ _ _ h=>h).more hz.size))
   by_cases hlen:ns.length= its.length
   ·have HV2:=I (HV.o.trans (by rw[show(ns.length ==its.length)= true from by rw[hlen];exact beq_self_eq_true _,Bool.true_and]))
    have t2:((ns.length:Int) !=(its.length:Int))= false:=by rw[hlen];exact bne_self_eq_false _
    clear HV hlen
    generalize riseB none ns= rb at*
    cases rb with
    |false=>
     have HV3:Hid (res= false):=I (HV2.o.trans (Bool.false_and _))
     clear HV2
     go_enter Tryz.func50,Tryz.ntmps50
     go_upto_region 13 with (fail)
     clear d0 d1 d2
     refine zr [(0,true),(1,true),(2,true),(3,true),(4,true),(5,true),(6,true),(7,true),(8,true),(9,true),(10,true),(11,true),(12,true),(13,true),(14,true),(15,true),(16,false),(17,true),(18,true)]
      (fun z=>Below w.heap.size w z) (by kernel_rfl) (by kernel_rfl) (by kernel_rfl) rfl (by intro c a d v w h;cases d<;>exact h) ?_
     have hs:Below w.heap.size w w.drew:=(Below.refl _ w).drew
     refine zh (some 60) (.pointer (some ⟨p,o,none⟩)) _ _ rfl rfl rfl (by exact wA rfl) hs rfl ?_
     go_frame
     refine z8 (some 61) (.pointer (some ⟨p,o,none⟩)) _ rfl rfl (by exact wA rfl) hs (fun z hz=>by go_simp) ?_
     go_frame
     refine z8 (some 62) (.pointer (some ⟨p,o+1,none⟩)) _ rfl rfl (by exact wA rfl) hs (fun z hz=>by go_simp) ?_
     go_frame
     refine z8 (some 63) (.slice NA ns.length nc) _ rfl rfl (by exact wA rfl) hs (fun z hz=>by have dd:=(hz.cell (p:=⟨p,o+1,none⟩) HP.o).trans (HRG.o 1 _ rfl);go_simp) ?_
     go_frame
     refine z8 (some 64) (.int .i64 ns.length) _ rfl rfl (by exact wA rfl) hs (fun z hz=>by go_simp) ?_
     go_frame
     refine zh (some 65) (.pointer (some ⟨p,o,none⟩)) _ _ rfl rfl rfl (by exact wA rfl) hs rfl ?_
     go_frame
     refine z8 (some 66) (.pointer (some ⟨p,o,none⟩)) _ rfl rfl (by exact wA rfl) hs (fun z hz=>by go_simp) ?_
     go_frame
     refine z8 (some 67) (.pointer (some ⟨p,o+2,none⟩)) _ rfl rfl (by exact wA rfl) hs (fun z hz=>by go_simp) ?_
     go_frame
     refine z8 (some 68) (.slice A its.length c) _ rfl rfl (by exact wA rfl) hs (fun z hz=>by have dd:=(hz.cell (p:=⟨p,o+2,none⟩) HP.o).trans (HRG.o 2 _ rfl);go_simp) ?_
     go_frame
     refine z8 (some 69) (.int .i64 its.length) _ rfl rfl (by exact wA rfl) hs (fun z hz=>by go_simp) ?_
     go_frame
     refine z8 (some 70) (.bool false) _ rfl rfl (by exact wA rfl) hs (fun z hz=>by go_simp) ?_
     go_frame
     refine zh (some 71) (.bool false) _ _ rfl rfl rfl (by exact wA rfl) hs rfl ?_
     go_frame
     refine zh (some 72) (.pointer (some ⟨p,o,none⟩)) _ _ rfl rfl rfl (by exact wA rfl) hs rfl ?_
     go_frame
     refine z8 (some 73) (.pointer (some ⟨p,o,none⟩)) _ rfl rfl (by exact wA rfl) hs (fun z hz=>by go_simp) ?_
     go_frame
     refine z8 (some 74) (.pointer (some ⟨p,o+1,none⟩)) _ rfl rfl (by exact wA rfl) hs (fun z hz=>by go_simp) ?_
     go_frame
     refine z8 (some 75) (.slice NA ns.length nc) _ rfl rfl (by exact wA rfl) hs (fun z hz=>by have dd:=(hz.cell (p:=⟨p,o+1,none⟩) HP.o).trans (HRG.o 1 _ rfl);go_simp) ?_
     go_frame
     refine zC (some 76) 73 Tryz.func73 (by kernel_rfl) (by kernel_rfl) [.slice NA ns.length nc] _ _ _ rfl rfl rfl (by exact wA rfl) rfl ?_
     refine(HRI.o _ hs).mono ?_
     rintro e z1 ⟨rfl,hb1⟩
     have hs2:Below w.heap.size w z1:=hs.trans (hb1.mono hs.size)
     refine⟨.bool false,rfl,hs2,?_⟩
     clear hb1
     go_frame
     refine z8 (some 77) (.bool true) _ rfl rfl (by exact wA rfl) hs2 (fun z hz=>by go_simp) ?_
     go_frame
     refine zE (some 78) (.bool true) _ _ _ _ false rfl rfl rfl rfl (by exact wA rfl) hs2 rfl ?_
     go_frame
     refine zF ?_
     have HB2:=I hs2
     clear hs hs2
     go_wp2
     go_ret
     exact⟨zb HV3.o.symm,HB2.o⟩
    |true=>
     have HV9:Hid (res= z0v its (d+1)):=I (HV2.o.trans (Bool.true_and _))
     clear HV2
     go_enter Tryz.func50,Tryz.ntmps50
     go_upto_region 13 with (fail)
     clear d0 d1 d2
     refine zr [(0,true),(1,true),(2,true),(3,true),(4,true),(5,true),(6,true),(7,true),(8,true),(9,true),(10,true),(11,true),(12,true),(13,true),(14,true),(15,true),(16,false),(17,true),(18,true)]
      (fun z=>Below w.heap.size w z) (by kernel_rfl) (by kernel_rfl) (by kernel_rfl) rfl (by intro c a d v w h;cases d<;>exact h) ?_
     have hs:Below w.heap.size w w.drew:=(Below.refl _ w).drew
     refine zh (some 60) (.pointer (some ⟨p,o,none⟩)) _ _ rfl rfl rfl (by exact wA rfl) hs rfl ?_
     go_frame
     refine z8 (some 61) (.pointer (some ⟨p,o,none⟩)) _ rfl rfl (by exact wA rfl) hs (fun z hz=>by go_simp) ?_
     go_frame
     refine z8 (some 62) (.pointer (some ⟨p,o+1,none⟩)) _ rfl rfl (by exact wA rfl) hs (fun z hz=>by go_simp) ?_
     go_frame
     refine z8 (some 63) (.slice NA ns.length nc) _ rfl rfl (by exact wA rfl) hs (fun z hz=>by have dd:=(hz.cell (p:=⟨p,o+1,none⟩) HP.o).trans (HRG.o 1 _ rfl);go_simp) ?_
     go_frame
     refine z8 (some 64) (.int .i64 ns.length) _ rfl rfl (by exact wA rfl) hs (fun z hz=>by go_simp) ?_
     go_frame
     refine zh (some 65) (.pointer (some ⟨p,o,none⟩)) _ _ rfl rfl rfl (by exact wA rfl) hs rfl ?_
     go_frame
     refine z8 (some 66) (.pointer (some ⟨p,o,none⟩)) _ rfl rfl (by exact wA rfl) hs (fun z hz=>by go_simp) ?_
     go_frame
     refine z8 (some 67) (.pointer (some ⟨p,o+2,none⟩)) _ rfl rfl (by exact wA rfl) hs (fun z hz=>by go_simp) ?_
     go_frame
     refine z8 (some 68) (.slice A its.length c) _ rfl rfl (by exact wA rfl) hs (fun z hz=>by have dd:=(hz.cell (p:=⟨p,o+2,none⟩) HP.o).trans (HRG.o 2 _ rfl);go_simp) ?_
     go_frame
     refine z8 (some 69) (.int .i64 its.length) _ rfl rfl (by exact wA rfl) hs (fun z hz=>by go_simp) ?_
     go_frame
     refine z8 (some 70) (.bool false) _ rfl rfl (by exact wA rfl) hs (fun z hz=>by go_simp) ?_
     go_frame
     refine zh (some 71) (.bool false) _ _ rfl rfl rfl (by exact wA rfl) hs rfl ?_
     go_frame
     refine zh (some 72) (.pointer (some ⟨p,o,none⟩)) _ _ rfl rfl rfl (by exact wA rfl) hs rfl ?_
     go_frame
     refine z8 (some 73) (.pointer (some ⟨p,o,none⟩)) _ rfl rfl (by exact wA rfl) hs (fun z hz=>by go_simp) ?_
     go_frame
     refine z8 (some 74) (.pointer (some ⟨p,o+1,none⟩)) _ rfl rfl (by exact wA rfl) hs (fun z hz=>by go_simp) ?_
     go_frame
     refine z8 (some 75) (.slice NA ns.length nc) _ rfl rfl (by exact wA rfl) hs (fun z hz=>by have dd:=(hz.cell (p:=⟨p,o+1,none⟩) HP.o).trans (HRG.o 1 _ rfl);go_simp) ?_
     go_frame
     refine zC (some 76) 73 Tryz.func73 (by kernel_rfl) (by kernel_rfl) [.slice NA ns.length nc] _ _ _ rfl rfl rfl (by exact wA rfl) rfl ?_
     refine(HRI.o _ hs).mono ?_
     rintro e z1 ⟨rfl,hb1⟩
     have hs2:Below w.heap.size w z1:=hs.trans (hb1.mono hs.size)
     refine⟨.bool true,rfl,hs2,?_⟩
     clear hb1
     go_frame
     refine z8 (some 77) (.bool false) _ rfl rfl (by exact wA rfl) hs2 (fun z hz=>by go_simp) ?_
     go_frame
     refine zE (some 78) (.bool false) _ _ _ _ false rfl rfl rfl rfl (by exact wA rfl) hs2 rfl ?_
     go_frame
     refine zF ?_
     have HB2:=I hs2
     clear hs hs2
     have e2:=(HB2.o.cell (p:=⟨p,o+2,none⟩) HP.o).trans (HRG.o 2 _ rfl)
     go_wp2
     clear e2
     go_loopg [84] its.length (fun q x u=>∃ j:Nat,j+q= its.length/\x= .int .i64 j/\Below w.heap.size w u/\z0v (its.drop j) (d+1)= res)
     case atStart=>exact⟨0,by omega,rfl,HB2.o,HV9.o.symm⟩
     case round=>
      obtain⟨j,hj,rfl,hb,hres⟩:=hrel
      have HR:=I hres
      have HBK:=I hb
      clear hres hb
      cases gk with
      |zero=>
       obtain rfl:j= its.length:=by omega
       have hge: ¬ ((its.length:Int) <(its.length:Int)):=by omega
       have HVE:=I (HR.o.symm.trans z9X)
       go_wp2
       go_ret
       exact⟨zb HVE.o.symm,HBK.o⟩
      |succ q=>
       have hlt:(j:Int) <(its.length:Int):=by omega
       obtain⟨x,hx⟩:∃ x,its[j]?= some x:=⟨_,List.getElem?_eq_getElem (by omega)⟩
       obtain⟨b,o',rfl,hbl,hc⟩:=HA.o (by omega)
       obtain⟨ks,hks,hvx⟩:=hc j x hx
       have HVS:=I (HR.o.symm.trans (z8w hx))
       have dd2:=(HBK.o.cell (p:=⟨p,o+2,none⟩) HP.o).trans (HRG.o 2 _ rfl)
       have HC:=I (IH.o x (List.mem_of_getElem? hx) (d+1) ks b (o'+j*3) wr (by omega) (Nat.lt_of_lt_of_le hbl HBK.o.size) (zc hks HBK.o hbl) (hvx.next HBK.o))
       have hd1:((d+1:Nat):Int)=(d:Int)+1:=by omega
       rw[hd1] at HC
       clear hc hks hvx hx hd1
       generalize zP x (d+1)= rx at*
       cases rx with
       |true=>
        have HV2:=I (HVS.o.trans (Bool.true_and _))
        clear HVS
        go_wp2_with (go_at_call 50;refine HC.o.mono ?_;rintro e z ⟨rfl,hbz⟩;have HB3:=I hbz;clear hbz)
        go_roundg q
        case measure=>omega
        case rel=>exact⟨j+1,by omega,by go_num,HBK.o.trans (HB3.o.mono HBK.o.size),HV2.o.symm⟩
       |false=>
        have HV2:Hid (res= false):=I (HVS.o.trans (Bool.false_and _))
        clear HVS
        go_wp2_with (go_at_call 50;refine HC.o.mono ?_;rintro e z ⟨rfl,hbz⟩;have HB3:=I hbz;clear hbz)
        go_ret
        exact⟨zb HV2.o.symm,HBK.o.trans (HB3.o.mono HBK.o.size)⟩
   ·have HV2:Hid (res= false):=I (HV.o.trans (by rw[beq_eq_false_iff_ne.2 hlen];exact Bool.false_and _))
    have t2:((ns.length:Int) !=(its.length:Int))= true:=by rw[bne_iff_ne];omega
    clear HV hlen
    go_enter Tryz.func50,Tryz.ntmps50
    go_wp2
    go_quiet (fail)
    go_wp2
    go_ret
    exact⟨zb HV2.o.symm,zj (Below.refl _ w) _⟩
  have HO3:=I (HO2.o.trans (if_neg k6))
  clear HO2
  by_cases k1:k= 1
  ·subst k1
   have HV:=I (HO3.o.trans (if_pos (by decide)))
   clear HO3
   by_cases hm0:ns.length= 0
   ·have m1:((ns.length:Int) ==0)= true:=by rw[hm0];rfl
    have m1':(ns.length ==0)= true:=by rw[hm0];rfl
    clear hm0
    by_cases hi0:its.length= 0
    ·have i1:((its.length:Int) ==0)= true:=by rw[hi0];rfl
     have i1':(its.length ==0)= true:=by rw[hi0];rfl
     clear hi0
     have HR:Hid (res= true):=I (by rw[HV.o];simp[m1',i1'])
     go_enter Tryz.func50,Tryz.ntmps50
     go_wp2
     go_ret
     exact⟨zb HR.o.symm,Below.refl _ w⟩
    ·have i1:((its.length:Int) ==0)= false:=by rw[beq_eq_false_iff_ne];omega
     have i1':(its.length ==0)= false:=by simpa using hi0
     clear hi0
     have HR:Hid (res= false):=I (by rw[HV.o];simp[m1',i1'])
     go_enter Tryz.func50,Tryz.ntmps50
     go_wp2
     go_ret
     exact⟨zb HR.o.symm,Below.refl _ w⟩
   ·have m1:((ns.length:Int) ==0)= false:=by rw[beq_eq_false_iff_ne];omega
    have m1':(ns.length ==0)= false:=by simpa using hm0
    clear hm0
    have HR:Hid (res= false):=I (by rw[HV.o];simp[m1'])
    go_enter Tryz.func50,Tryz.ntmps50
    go_wp2
    go_ret
    exact⟨zb HR.o.symm,Below.refl _ w⟩
  by_cases k2:k= 2
  ·subst k2
   have HV:=I (HO3.o.trans (if_pos (by decide)))
   clear HO3
   by_cases hm0:ns.length= 0
   ·have m1:((ns.length:Int) ==0)= true:=by rw[hm0];rfl
    have m1':(ns.length ==0)= true:=by rw[hm0];rfl
    clear hm0
    by_cases hi0:its.length= 0
    ·have i1:((its.length:Int) ==0)= true:=by rw[hi0];rfl
     have i1':(its.length ==0)= true:=by rw[hi0];rfl
     clear hi0
     have HR:Hid (res= true):=I (by rw[HV.o];simp[m1',i1'])
     go_enter Tryz.func50,Tryz.ntmps50
     go_wp2
     go_ret
     exact⟨zb HR.o.symm,Below.refl _ w⟩
    ·have i1:((its.length:Int) ==0)= false:=by rw[beq_eq_false_iff_ne];omega
     have i1':(its.length ==0)= false:=by simpa using hi0
     clear hi0
     have HR:Hid (res= false):=I (by rw[HV.o];simp[m1',i1'])
     go_enter Tryz.func50,Tryz.ntmps50
     go_wp2
     go_ret
     exact⟨zb HR.o.symm,Below.refl _ w⟩
   ·have m1:((ns.length:Int) ==0)= false:=by rw[beq_eq_false_iff_ne];omega
    have m1':(ns.length ==0)= false:=by simpa using hm0
    clear hm0
    have HR:Hid (res= false):=I (by rw[HV.o];simp[m1'])
    go_enter Tryz.func50,Tryz.ntmps50
    go_wp2
    go_ret
    exact⟨zb HR.o.symm,Below.refl _ w⟩
  by_cases k3:k= 3
  ·subst k3
   have HV:=I (HO3.o.trans (if_pos (by decide)))
   clear HO3
   by_cases hm0:ns.length= 0
   ·have m1:((ns.length:Int) ==0)= true:=by rw[hm0];rfl
    have m1':(ns.length ==0)= true:=by rw[hm0];rfl
    clear hm0
    by_cases hi0:its.length= 0
    ·have i1:((its.length:Int) ==0)= true:=by rw[hi0];rfl
     have i1':(its.length ==0)= true:=by rw[hi0];rfl
     clear hi0
     have HR:Hid (res= true):=I (by rw[HV.o];simp[m1',i1'])
     go_enter Tryz.func50,Tryz.ntmps50
     go_wp2
     go_ret
     exact⟨zb HR.o.symm,Below.refl _ w⟩
    ·have i1:((its.length:Int) ==0)= false:=by rw[beq_eq_false_iff_ne];omega
     have i1':(its.length ==0)= false:=by simpa using hi0
     clear hi0
     have HR:Hid (res= false):=I (by rw[HV.o];simp[m1',i1'])
     go_enter Tryz.func50,Tryz.ntmps50
     go_wp2
     go_ret
     exact⟨zb HR.o.symm,Below.refl _ w⟩
   ·have m1:((ns.length:Int) ==0)= false:=by rw[beq_eq_false_iff_ne];omega
    have m1':(ns.length ==0)= false:=by simpa using hm0
    clear hm0
    have HR:Hid (res= false):=I (by rw[HV.o];simp[m1'])
    go_enter Tryz.func50,Tryz.ntmps50
    go_wp2
    go_ret
    exact⟨zb HR.o.symm,Below.refl _ w⟩
  by_cases k4:k= 4
  ·subst k4
   have HV:=I (HO3.o.trans (if_pos (by decide)))
   clear HO3
   by_cases hm0:ns.length= 0
   ·have m1:((ns.length:Int) ==0)= true:=by rw[hm0];rfl
    have m1':(ns.length ==0)= true:=by rw[hm0];rfl
    clear hm0
    by_cases hi0:its.length= 0
    ·have i1:((its.length:Int) ==0)= true:=by rw[hi0];rfl
     have i1':(its.length ==0)= true:=by rw[hi0];rfl
     clear hi0
     have HR:Hid (res= true):=I (by rw[HV.o];simp[m1',i1'])
     go_enter Tryz.func50,Tryz.ntmps50
     go_wp2
     go_ret
     exact⟨zb HR.o.symm,Below.refl _ w⟩
    ·have i1:((its.length:Int) ==0)= false:=by rw[beq_eq_false_iff_ne];omega
     have i1':(its.length ==0)= false:=by simpa using hi0
     clear hi0
     have HR:Hid (res= false):=I (by rw[HV.o];simp[m1',i1'])
     go_enter Tryz.func50,Tryz.ntmps50
     go_wp2
     go_ret
     exact⟨zb HR.o.symm,Below.refl _ w⟩
   ·have m1:((ns.length:Int) ==0)= false:=by rw[beq_eq_false_iff_ne];omega
    have m1':(ns.length ==0)= false:=by simpa using hm0
    clear hm0
    have HR:Hid (res= false):=I (by rw[HV.o];simp[m1'])
    go_enter Tryz.func50,Tryz.ntmps50
    go_wp2
    go_ret
    exact⟨zb HR.o.symm,Below.refl _ w⟩
  by_cases k7:k= 7
  ·subst k7
   have HV:=I (HO3.o.trans (if_pos (by decide)))
   clear HO3
   by_cases hm0:ns.length= 0
   ·have m1:((ns.length:Int) ==0)= true:=by rw[hm0];rfl
    have m1':(ns.length ==0)= true:=by rw[hm0];rfl
    clear hm0
    by_cases hi0:its.length= 0
    ·have i1:((its.length:Int) ==0)= true:=by rw[hi0];rfl
     have i1':(its.length ==0)= true:=by rw[hi0];rfl
     clear hi0
     have HR:Hid (res= true):=I (by rw[HV.o];simp[m1',i1'])
     go_enter Tryz.func50,Tryz.ntmps50
     go_wp2
     go_ret
     exact⟨zb HR.o.symm,Below.refl _ w⟩
    ·have i1:((its.length:Int) ==0)= false:=by rw[beq_eq_false_iff_ne];omega
     have i1':(its.length ==0)= false:=by simpa using hi0
     clear hi0
     have HR:Hid (res= false):=I (by rw[HV.o];simp[m1',i1'])
     go_enter Tryz.func50,Tryz.ntmps50
     go_wp2
     go_ret
     exact⟨zb HR.o.symm,Below.refl _ w⟩
   ·have m1:((ns.length:Int) ==0)= false:=by rw[beq_eq_false_iff_ne];omega
    have m1':(ns.length ==0)= false:=by simpa using hm0
    clear hm0
    have HR:Hid (res= false):=I (by rw[HV.o];simp[m1'])
    go_enter Tryz.func50,Tryz.ntmps50
    go_wp2
    go_ret
    exact⟨zb HR.o.symm,Below.refl _ w⟩
  have HR:=I (HO3.o.trans (if_neg (by omega)))
  have s1:(k ==1)= false:=by simpa using k1
  have s2:(k ==2)= false:=by simpa using k2
  have s3:(k ==3)= false:=by simpa using k3
  have s4:(k ==4)= false:=by simpa using k4
  have s5:(k ==5)= false:=by simpa using k5
  have s6:(k ==6)= false:=by simpa using k6
  have s7:(k ==7)= false:=by simpa using k7
  clear HO3 k1 k2 k3 k4 k5 k6 k7
  go_enter Tryz.func50,Tryz.ntmps50
  go_wp2
  go_ret
  exact⟨zb HR.o.symm,Below.refl _ w⟩
theorem z0C (t:TT) (cs:List Value) (w:World) (hv:TypAt w w.heap.size cs t):Calls Tryz.prog 30 #[.agg ⟨cs⟩] w fun e w'=>e= .returned (.bool (decide (cntT t 0<=200) && zP t 1))/\Below w.heap.size w w':=by
 have HB1:=I (zd w (.cells ⟨cs⟩ 41))
 have HS1:=I (zL w (.cells ⟨cs⟩ 41))
 have HR1:=I (zD w cs 41)
 have HV:=I (hv.next HB1.o)
 clear hv
 go_enter Tryz.func30,Tryz.ntmps30
 go_upto_region 1 with (fail)
 generalize w.alloc (.cells ⟨cs⟩ 41)= W at*
 have HP:=I (z75 t 0 cs w.heap.size 0 W (by decide) HR1.o HV.o)
 have HT:=I (zbu t 1 cs w.heap.size 0 W (by decide) HS1.o HR1.o HV.o)
 by_cases hc:cntT t 0<=200
 ·have t1:((cntT t 0:Nat):Int)<=200:=by omega
  have HD:Hid ((decide (cntT t 0<=200) && zP t 1)= zP t 1):=I (by rw[decide_eq_true hc];exact Bool.true_and _)
  go_wp2_with (first|(go_at_call 49;refine HP.o.mono ?_;rintro e z ⟨rfl,hzw⟩;obtain rfl:=hzw)|(go_at_call 50;refine HT.o.mono ?_;rintro e z2 ⟨rfl,hbz⟩;have HB3:=I hbz;clear hbz))
  go_ret
  exact⟨zb HD.o.symm,HB1.o.trans (HB3.o.mono HB1.o.size)⟩
 ·have t1: ¬ (((cntT t 0:Nat):Int)<=200):=by omega
  have HD:Hid ((decide (cntT t 0<=200) && zP t 1)= false):=I (by rw[decide_eq_false hc];exact Bool.false_and _)
  go_wp2_with (go_at_call 49;refine HP.o.mono ?_;rintro e z ⟨rfl,hzw⟩;obtain rfl:=hzw)
  go_ret
  first|exact⟨zb HD.o.symm,HB1.o⟩|exact⟨rfl,HB1.o⟩
end
section
open Go Go.RowKit
theorem zfo:∀ (x:TT) (far:Nat) (cs:List Value) (w:World),far<=40->TypAt w w.heap.size cs x->Calls Tryz.prog 28 #[.agg ⟨cs⟩,.int .i64 far] w (z63 w):=by
 intro x
 induction x using TT.ind with
 |h k ns its ih=>
  intro far cs w hfar hv
  obtain⟨vn,vi,rfl,_,_,_,hi⟩:=hv.inv
  obtain⟨A,c,rfl,hil,hA⟩:=z1O hi
  have HA:=I hA
  have IH:=I ih
  clear hA hv ih hi
  go_enter Tryz.func28,Tryz.ntmps28
  go_upto_region 1 with (fail)
  have hb0:=zd w (.cells ⟨[.int .i64 k,vn,.slice A its.length c]⟩ 41)
  have hz0:=zL w (.cells ⟨[.int .i64 k,vn,.slice A its.length c]⟩ 41)
  have c5:=zB w ⟨[.int .i64 k,vn,.slice A its.length c]⟩ 41 2
  generalize w.alloc (.cells ⟨[.int .i64 k,vn,.slice A its.length c]⟩ 41)= W at*
  have HB:=I hb0
  have C5:=I c5
  have HSZ:=I hz0
  clear hb0 c5 hz0
  go_wp2
  go_loopg [5,6] its.length (fun g m i wr=>∃ (j:Nat) (x:Int),j+g= its.length/\i= .int .i64 j/\m= .int .i64 x/\Below W.heap.size W wr)
  case atStart=>exact⟨0,0,by omega,rfl,rfl,Below.refl _ _⟩
  case round=>
   obtain⟨j,x,hj,rfl,rfl,hb⟩:=hrel
   have HB1:=I hb
   have d5:=(hb.cell (p:=⟨w.heap.size,2,none⟩) HSZ.o).trans C5.o
   clear hb
   simp only[List.getElem?_toArray,List.getElem?_cons_succ,List.getElem?_cons_zero] at d5
   cases gk with
   |zero=>
    have hge: ¬ ((j:Int) <(its.length:Int)):=by omega
    go_wp2
    go_ret
    exact⟨_,rfl,HB.o.trans (HB1.o.mono HB.o.size)⟩
   |succ g=>
    have hlt:(j:Int) <(its.length:Int):=by omega
    by_cases h0:far= 0
    ·subst h0
     go_wp2
     go_ret
     exact⟨_,rfl,HB.o.trans (HB1.o.mono HB.o.size)⟩
    ·have hpos:(0:Int) <(far:Int):=by omega
     obtain⟨y,hy⟩:∃ y,its[j]?= some y:=⟨_,List.getElem?_eq_getElem (by omega)⟩
     obtain⟨b,o,rfl,hbb,hc⟩:=HA.o (by omega)
     obtain⟨cs,hr,hR⟩:=hc j y hy
     have hB2:=HB.o.trans (HB1.o.mono HB.o.size)
     have HR:=I (zc hr hB2 hbb)
     have HC:=I (IH.o y (List.mem_of_getElem? hy) (far - 1) cs wr (by omega) (hR.next hB2))
     have HCL:=I (zk hR)
     have hf1:((far - 1:Nat):Int)=(far:Int) - 1:=by omega
     clear hc hr hR hB2 hy h0
     rw[hf1] at HC
     clear hf1
     go_wp2_with (first|((with_reducible refine za 41 _ rfl ?_ b (o+j*3) cs _ rfl HR.o Tryz.underlying41 rfl ?_ ?_);(exact wA rfl);rw[HCL.o.1];kernel_rfl)|(go_at_call 28;refine HC.o.mono ?_;rintro e w' ⟨z,rfl,hb⟩;have HB2:=I hb;clear hb))
     all_goals
      go_roundg g
      case measure=>omega
      case rel=>exact⟨j+1,_,by omega,by go_num,rfl,HB1.o.trans (HB2.o.mono HB1.o.size)⟩
theorem zaq:∀ (t:TT) (m:Nat) (cs:List Value) (w:World),m < 500->TypAt w w.heap.size cs t->
  Calls Tryz.prog 48 #[.agg ⟨cs⟩,.int .i64 m] w fun e w'=>e= .returned (.int .i64 (cntT t m:Nat))/\Below w.heap.size w w':=by
 intro t
 induction t using TT.ind with
 |h k ns its ih=>
  intro m cs w hm hv
  have IH:=I ih
  obtain⟨vn,vi,rfl,_,_,_,hi⟩:=hv.inv
  obtain⟨A,c,rfl,hil,hA⟩:=z1O hi
  have HA:=I hA
  have HS:=I (fun k m x=>z5B (l:=its) (k:=k) (m:=m) (x:=x))
  have HE:=I (fun m=>z6S (l:=its) (m:=m))
  have HLE:=I (fun x m hm=>z9r x m hm)
  have HCE:Hid (∀ k m,500<=m->cntTL (its.drop k) m= m):=I (fun k m h=>by
   cases its.drop k with
   |nil=>rw[cntTL]
   |cons a l=>rw[cntTL,if_pos h])
  have H0:Hid (cntTL (its.drop 0) (m+1)= cntT (.mk k ns its) m):=I (by rw[cntT];rfl)
  clear ih hi hA hv
  generalize cntT (.mk k ns its) m= res at*
  go_enter Tryz.func48,Tryz.ntmps48
  go_upto_region 1 with (fail)
  have hb0:=zd w (.cells ⟨[.int .i64 k,vn,.slice A its.length c]⟩ 41)
  have hz0:=zL w (.cells ⟨[.int .i64 k,vn,.slice A its.length c]⟩ 41)
  have c5:=zB w ⟨[.int .i64 k,vn,.slice A its.length c]⟩ 41 2
  generalize w.alloc (.cells ⟨[.int .i64 k,vn,.slice A its.length c]⟩ 41)= W at*
  have HB:=I hb0
  have C5:=I c5
  have HSZ:=I hz0
  clear hb0 c5 hz0
  have hm2:(m:Int) < 500:=by omega
  go_wp2
  go_loopg [1,5] its.length (fun g u i wr=>∃ (j m:Nat),j+g= its.length/\i= .int .i64 j/\u= .int .i64 m/\m<=500/\Below W.heap.size W wr/\cntTL (its.drop j) m= res)
  case atStart=>exact⟨0,m+1,by omega,rfl,by go_num,by omega,Below.refl _ _,H0.o⟩
  case round=>
   obtain⟨j,m,hj,rfl,rfl,hm5,hb,hres⟩:=hrel
   have HB1:=I hb
   have HR:=I hres
   have d5:=(hb.cell (p:=⟨w.heap.size,2,none⟩) HSZ.o).trans C5.o
   clear hb hres
   simp only[List.getElem?_toArray,List.getElem?_cons_succ,List.getElem?_cons_zero] at d5
   have hm5':(m:Int)<=500:=by omega
   cases gk with
   |zero=>
    obtain rfl:j= its.length:=by omega
    have hge: ¬ ((its.length:Int) <(its.length:Int)):=by omega
    have HV:=I (HR.o.symm.trans (HE.o m))
    go_wp2
    go_ret
    exact⟨by rw[HV.o];go_num,HB.o.trans (HB1.o.mono HB.o.size)⟩
   |succ g=>
    have hlt:(j:Int) <(its.length:Int):=by omega
    by_cases h0:m < 500
    ·obtain⟨y,hy⟩:∃ y,its[j]?= some y:=⟨_,List.getElem?_eq_getElem (by omega)⟩
     obtain⟨b,o,rfl,hbb,hc⟩:=HA.o (by omega)
     obtain⟨cs,hr,hR⟩:=hc j y hy
     have hB2:=HB.o.trans (HB1.o.mono HB.o.size)
     have HV:=I (HR.o.symm.trans (HS.o j m y hy))
     have HV2:=I (HV.o.trans (if_neg (by omega)))
     have HR1:=I (zc hr hB2 hbb)
     have HC:=I (IH.o y (List.mem_of_getElem? hy) m cs wr h0 (hR.next hB2))
     have HCL:=I (zk hR)
     have hle:=HLE.o y m h0
     have h0':(m:Int) < 500:=by omega
     clear hc hr hR hB2 hy HV h0
     go_wp2_with (first|((with_reducible refine za 41 _ rfl ?_ b (o+j*3) cs _ rfl HR1.o Tryz.underlying41 rfl ?_ ?_);(exact wA rfl);rw[HCL.o.1];kernel_rfl)|(go_at_call 48;refine HC.o.mono ?_;rintro e w' ⟨rfl,hb⟩;have HB2:=I hb;clear hb))
     go_roundg g
     case measure=>omega
     case rel=>exact⟨j+1,_,by omega,by go_num,rfl,hle,HB1.o.trans (HB2.o.mono HB1.o.size),HV2.o.symm⟩
    ·have HV:=I (HR.o.symm.trans (HCE.o j m (by omega)))
     have h0': ¬ ((m:Int) < 500):=by omega
     have hm500:m= 500:=by omega
     go_wp2
     all_goals
      go_ret
      exact⟨by rw[HV.o,hm500];rfl,HB.o.trans (HB1.o.mono HB.o.size)⟩
theorem za5 (t:TT) (cs:List Value) (w:World) (hv:TypAt w w.heap.size cs t):Calls Tryz.prog 29 #[.agg ⟨cs⟩] w fun e w'=>e= .returned (.int .i64 (cntT t 0:Nat))/\Below w.heap.size w w':=by
 have HCL:=I (zk hv)
 have HV:=I hv
 clear hv
 go_enter Tryz.func29,Tryz.ntmps29
 go_upto_region 1 with (fail)
 have HB:=I (zd w (.cells ⟨cs⟩ 41))
 have HR:=I (zD w cs 41)
 generalize w.alloc (.cells ⟨cs⟩ 41)= W at*
 have HC:=I (zaq t 0 cs W (by omega) (HV.o.next HB.o))
 go_wp2_with (first|((with_reducible refine za 41 _ rfl ?_ w.heap.size 0 cs _ rfl HR.o Tryz.underlying41 rfl ?_ ?_);(exact wA rfl);rw[HCL.o.1];kernel_rfl)|(go_at_call 48;refine HC.o.mono ?_;rintro e w' ⟨rfl,hb⟩;have HB2:=I hb;clear hb))
 go_ret
 exact⟨rfl,HB.o.trans (HB2.o.mono HB.o.size)⟩
theorem z7S (x:TT) (cs:List Value) (w:World) (hv:TypAt w w.heap.size cs x):Calls Tryz.prog 10 #[.agg ⟨cs⟩] w (z4N w):=by
 have HCL:=I (zk hv)
 have HV:=I hv
 clear hv
 go_enter Tryz.func10,Tryz.ntmps10
 go_upto_region 1 with (fail)
 have HB:=I (zd w (.cells ⟨cs⟩ 41))
 have HR:=I (zD w cs 41)
 have HSZ:=I (zL w (.cells ⟨cs⟩ 41))
 generalize w.alloc (.cells ⟨cs⟩ 41)= W at*
 have HC:=I (zfo x 40 cs W (by omega) (HV.o.next HB.o))
 go_wp2_with (first|((with_reducible refine za 41 _ rfl ?_ w.heap.size 0 cs _ rfl HR.o Tryz.underlying41 rfl ?_ ?_);(exact wA rfl);rw[HCL.o.1];kernel_rfl)|(go_at_call 28;fail))
 refine HC.o.mono ?_
 rintro e w2 ⟨z,rfl,hb⟩
 have HB2:=I (HB.o.trans (hb.mono HB.o.size))
 have HR2:=I (zc HR.o hb HSZ.o)
 have HC2:=I (za5 x cs w2 (HV.o.next HB2.o))
 clear hb HC
 by_cases hz:z<=30
 ·go_wp2_with (first|((with_reducible refine za 41 _ rfl ?_ w.heap.size 0 cs _ rfl HR2.o Tryz.underlying41 rfl ?_ ?_);(exact wA rfl);rw[HCL.o.1];kernel_rfl)|(go_at_call 29;refine HC2.o.mono ?_;rintro e w' ⟨rfl,hb⟩;have HB3:=I hb;clear hb))
  all_goals
   go_ret
   exact⟨_,rfl,HB2.o.trans (HB3.o.mono HB2.o.size)⟩
 ·go_wp2
  all_goals
   go_ret
   exact⟨_,rfl,HB2.o⟩
end
section
open Go Go.RowKit
theorem z3o (u v:Value) (l r:List ByteArray) (w:World) (hu:SlAt w w.heap.size 1 StrR u l) (hv:SlAt w w.heap.size 1 StrR v r):
  Calls Tryz.prog 81 #[u,v] w fun e w'=>e= .returned (.bool (decide (l= r)))/\∃ m,w'= w.drewN m:=by
 obtain⟨_,A,ca,rfl,_⟩:=id hu
 obtain⟨_,D,cb,rfl,_⟩:=id hv
 obtain⟨_,hl,ha⟩:=z1V hu
 obtain⟨_,hr,hb⟩:=z1V hv
 by_cases hlen:l.length= r.length
 ·by_cases h0:l.length= 0
  ·have e1:l=[]:=List.eq_nil_of_length_eq_zero h0
   have e2:r=[]:=List.eq_nil_of_length_eq_zero (by omega)
   subst e1 e2
   refine(Tryz.slices_Equal_string_empty A D ca 0 cb w (by omega)).mono ?_
   rintro e z ⟨rfl,rfl⟩
   exact⟨by simp,0,rfl⟩
  ·have p1:0 < l.length:=by omega
   have p2:0 < r.length:=by omega
   obtain⟨b1,o1,rfl,_,c1⟩:=ha p1
   obtain⟨b2,o2,rfl,_,c2⟩:=hb p2
   refine(Tryz.slices_Equal_string b1 o1 l.length ca b2 o2 r.length cb l r w (Nat.le_refl _) (Nat.le_refl _) hl hr (fun j hj=> ?_) (fun j hj=> ?_)).mono ?_
   ·obtain⟨x,hx⟩:∃ x,l[j]?= some x:=⟨_,List.getElem?_eq_getElem hj⟩
    rw[(c1 j x hx).1];simp[List.getD,hx]
   ·obtain⟨x,hx⟩:∃ x,r[j]?= some x:=⟨_,List.getElem?_eq_getElem hj⟩
    rw[(c2 j x hx).1];simp[List.getD,hx]
   ·rintro e z ⟨rfl,h⟩
    exact⟨by rw[List.take_length,List.take_length],h⟩
 ·have HR:Hid (decide (l= r)= false):=I (decide_eq_false fun h=>hlen (by rw[h]))
  have t1:((l.length:Int) !=(r.length:Int))= true:=by rw[bne_iff_ne];omega
  clear ha hb hu hv hlen
  go_enter Tryz.func81,Tryz.ntmps81
  go_wp2
  go_ret
  exact⟨zb HR.o.symm,0,rfl⟩
end
section
open Go Go.RowKit
mutual
def fitsV:VT->TT->Bool
 | .mk k n f s ns its,.mk k' ns' ts=>(k ==k') && (if k= 5 then fitsA its ts else if k= 6 then decide (ns= ns') && fitsL its ts else true)
def fitsA:List VT->List TT->Bool
 |[],_=>true
 |a::l,t::r=>fitsV a t && fitsA l (t::r)
 |_::_,[]=>true
def fitsL:List VT->List TT->Bool
 |[],_=>true
 |a::l,t::r=>fitsV a t && fitsL l r
 |_::_,[]=>true
end
theorem z9O {l:List VT} {r:List TT} {k:Nat} {x:VT} {t:TT} (hx:l[k]?= some x) (ht:r[0]?= some t):fitsA (l.drop k) r=(fitsV x t && fitsA (l.drop (k+1)) r):=by
 cases r with
 |nil=>simp at ht
 |cons y r=>
  obtain rfl:y= t:=by simpa using ht
  rw[z06 hx,fitsA]
theorem zaU {l:List VT} {r:List TT}:fitsA (l.drop l.length) r= true:=by
 rw[List.drop_eq_nil_of_le (Nat.le_refl _),fitsA]
theorem zaw {l:List VT} {r:List TT} {k:Nat} {x:VT} {t:TT} (hx:l[k]?= some x) (ht:r[k]?= some t):fitsL (l.drop k) (r.drop k)=(fitsV x t && fitsL (l.drop (k+1)) (r.drop (k+1))):=by
 rw[z06 hx,z06 ht,fitsL]
theorem zbo {l:List VT} {r:List TT}:fitsL (l.drop l.length) (r.drop l.length)= true:=by
 rw[List.drop_eq_nil_of_le (Nat.le_refl _),fitsL]
theorem z3s:∀ {l:List VT} {d:Nat},zO l d= true->∀ x∈l,zu x d= true
 |[],_,_,x,hx=>by cases hx
 |a::l,d,h,x,hx=>by
  rw[zO,Bool.and_eq_true] at h
  rcases List.mem_cons.1 hx with rfl|hx
  ·exact h.1
  ·exact z3s h.2 x hx
theorem z0Z:∀ {l:List TT} {d:Nat},z0v l d= true->∀ x∈l,zP x d= true
 |[],_,_,x,hx=>by cases hx
 |a::l,d,h,x,hx=>by
  rw[z0v,Bool.and_eq_true] at h
  rcases List.mem_cons.1 hx with rfl|hx
  ·exact h.1
  ·exact z0Z h.2 x hx
theorem z9U {n:Int} {f:Nat} {s:ByteArray} {ns:List ByteArray} {its:List VT} {d:Nat} (h:zu (.mk 5 n f s ns its) d= true):∀ x∈its,zu x (d+1)= true:=by
 rw[zu] at h
 by_cases hd:12 < d
 ·rw[if_pos hd] at h;cases h
 ·rw[if_neg hd] at h
  simp only[show ¬ ((5:Int)= 1) by decide,show ¬ ((5:Int)= 2) by decide,show ¬ ((5:Int)= 3) by decide,show ¬ ((5:Int)= 4) by decide,show ¬ ((5:Int)= 6) by decide,if_false,if_true,Bool.and_eq_true] at h
  exact z3s h.2.2
theorem z6W {n:Int} {f:Nat} {s:ByteArray} {ns:List ByteArray} {its:List VT} {d:Nat} (h:zu (.mk 6 n f s ns its) d= true):ns.length= its.length/\∀ x∈its,zu x (d+1)= true:=by
 rw[zu] at h
 by_cases hd:12 < d
 ·rw[if_pos hd] at h;cases h
 ·rw[if_neg hd] at h
  simp only[show ¬ ((6:Int)= 1) by decide,show ¬ ((6:Int)= 2) by decide,show ¬ ((6:Int)= 3) by decide,show ¬ ((6:Int)= 4) by decide,if_false,if_true,Bool.and_eq_true,beq_iff_eq] at h
  exact⟨h.1,z3s h.2.2.2⟩
theorem z1B {ns:List ByteArray} {its:List TT} {d:Nat} (h:zP (.mk 5 ns its) d= true):its.length= 1/\∀ x∈its,zP x (d+1)= true:=by
 rw[zP] at h
 by_cases hd:12 < d
 ·rw[if_pos hd] at h;cases h
 ·rw[if_neg hd,if_pos rfl] at h
  simp only[Bool.and_eq_true,beq_iff_eq] at h
  exact⟨h.1,z0Z h.2.2⟩
theorem z6P {ns:List ByteArray} {its:List TT} {d:Nat} (h:zP (.mk 6 ns its) d= true):ns.length= its.length/\∀ x∈its,zP x (d+1)= true:=by
 rw[zP] at h
 by_cases hd:12 < d
 ·rw[if_pos hd] at h;cases h
 ·rw[if_neg hd,if_neg (by decide),if_pos rfl] at h
  simp only[Bool.and_eq_true,beq_iff_eq] at h
  exact⟨h.1,z0Z h.2.2⟩
theorem zdC:∀ (x:VT) (t:TT) (d e:Nat) (cs cs':List Value) (p o q r:Nat) (w:World),zu x d= true->zP t e= true->w.rangeAt p o cs->w.rangeAt q r cs'->ValAt w w.heap.size cs x->TypAt w w.heap.size cs' t->
  Calls Tryz.prog 62 #[.pointer (some ⟨p,o,none⟩),.pointer (some ⟨q,r,none⟩)] w fun en w'=>en= .returned (.bool (fitsV x t))/\∃ m,w'= w.drewN m:=by
 intro x
 induction x using VT.ind with
 |h k n f s ns its ih=>
  intro t d e cs cs' p o q r w hrx hty hr hr' hv hv'
  cases t with
  |mk k' ns' ts=>
  have IH:=I ih
  obtain⟨vn,vi,rfl,_,_,_,_,hn,_,hi⟩:=hv.inv
  obtain⟨A,c,rfl,hil,hA⟩:=z1M hi
  obtain⟨vn',vi',rfl,_,hn',_,hi'⟩:=hv'.inv
  obtain⟨A',c',rfl,hil',hA'⟩:=z1O hi'
  have HN:=I hn
  have HN':=I hn'
  have HA:=I hA
  have HA':=I hA'
  have d0:w.cell? ⟨p,o,none⟩= some (.int .i64 k):=hr 0 _ rfl
  have D4:=I (hr 4 _ rfl)
  have D5:=I (hr 5 _ rfl)
  have e0:w.cell? ⟨q,r,none⟩= some (.int .i64 k'):=hr' 0 _ rfl
  have E1:=I (hr' 1 _ rfl)
  have E2:=I (hr' 2 _ rfl)
  have HO:Hid (fitsV (.mk k n f s ns its) (.mk k' ns' ts)=((k ==k') && (if k= 5 then fitsA its ts else if k= 6 then decide (ns= ns') && fitsL its ts else true))):=I (by rw[fitsV])
  generalize hres:fitsV (.mk k n f s ns its) (.mk k' ns' ts)= res at*
  have HRX:=I hrx
  have HTY:=I hty
  clear ih hr hr' hv hv' hn hn' hi hi' hA hA' hres hrx hty
  by_cases hck:k= k'
  case neg=>
   have HR:Hid (res= false):=I (HO.o.trans (by rw[beq_eq_false_iff_ne.2 hck];exact Bool.false_and _))
   have t2:(k !=k')= true:=by simpa using hck
   clear hck HO
   go_enter Tryz.func62,Tryz.ntmps62
   go_wp2
   go_quiet (fail)
   go_wp2
   go_ret
   exact⟨zb HR.o.symm,_,rfl⟩
  subst hck
  have HO1:=I (HO.o.trans (by rw[beq_self_eq_true,Bool.true_and]))
  clear HO
  by_cases k5:k= 5
  ·subst k5
   have HR:Hid (res= fitsA its ts):=I (HO1.o.trans (if_pos rfl))
   clear HO1
   go_enter Tryz.func62,Tryz.ntmps62
   go_wp2
   go_quiet (fail)
   obtain⟨w1,hw1⟩:∃ w1,w.drewN nq= w1:=⟨_,rfl⟩
   have c0:w1.cell? ⟨p,o,none⟩= some (.int .i64 5):=by rw[← hw1];exact d0
   have c4:w1.cell? ⟨p,o+4,none⟩= some vn:=by rw[← hw1];exact D4.o
   have c5:w1.cell? ⟨p,o+5,none⟩= some (.slice A its.length c):=by rw[← hw1];exact D5.o
   have f1:w1.cell? ⟨q,r+1,none⟩= some vn':=by rw[← hw1];exact E1.o
   have f2:w1.cell? ⟨q,r+2,none⟩= some (.slice A' ts.length c'):=by rw[← hw1];exact E2.o
   have HW1:=I hw1
   rw[hw1]
   clear hw1 d0 e0
   go_wp2
   go_loopg [27] its.length (fun g x u=>∃ j m:Nat,j+g= its.length/\x= .int .i64 j/\u= w.drewN m/\fitsA (its.drop j) ts= res)
   case atStart=>exact⟨0,_,by omega,rfl,(by first|exact HW1.o.symm|exact HW2.o.symm),HR.o.symm⟩
   case round=>
    obtain⟨j,m,hj,rfl,rfl,hres⟩:=hrel
    have HR2:=I hres
    clear hres
    cases gk with
    |zero=>
     obtain rfl:j= its.length:=by omega
     have hge: ¬ ((its.length:Int) <(its.length:Int)):=by omega
     have HVE:=I (HR2.o.symm.trans zaU)
     go_wp2
     go_ret
     exact⟨zb HVE.o.symm,_,rfl⟩
    |succ g=>
     have hlt:(j:Int) <(its.length:Int):=by omega
     obtain⟨x,hx⟩:∃ x,its[j]?= some x:=⟨_,List.getElem?_eq_getElem (by omega)⟩
     obtain⟨b,o',rfl,hbl,hc⟩:=HA.o (by omega)
     obtain⟨ks,hks,hvx⟩:=hc j x hx
     obtain⟨y,hy⟩:∃ y,ts[0]?= some y:=⟨_,List.getElem?_eq_getElem (by have:=(z1B HTY.o).1;omega)⟩
     obtain⟨b',o'',rfl,hbl',hc'⟩:=HA'.o (by have:=(z1B HTY.o).1;omega)
     obtain⟨ks',hks0,hvy⟩:=hc' 0 y hy
     have hks':w.rangeAt b' o'' ks':=by simpa using hks0
     have hlt1:(0:Int) <(ts.length:Int):=by have:=(z1B HTY.o).1;omega
     have HVS:=I (HR2.o.symm.trans (z9O hx hy))
     obtain⟨wm,hwm⟩:∃ wm,w.drewN m= wm:=⟨_,rfl⟩
     have HBM:Hid (Below w.heap.size w wm):=I (by rw[← hwm];exact zj (Below.refl _ w) m)
     have HDM:Hid (∀ q,∃ m',wm.drewN q= w.drewN m'):=I fun q=>⟨m+q,by rw[← hwm,World.drewN_drewN]⟩
     have c5:wm.cell? ⟨p,o+5,none⟩= some (.slice (some ⟨b,o',none⟩) its.length c):=by rw[← hwm];exact D5.o
     have f2:wm.cell? ⟨q,r+2,none⟩= some (.slice (some ⟨b',o'',none⟩) ts.length c'):=by rw[← hwm];exact E2.o
     have HS:=I (fun nq=>IH.o x (List.mem_of_getElem? hx) y (d+1) (e+1) ks ks' b (o'+j*6) b' o'' (wm.drewN nq) (z9U HRX.o x (List.mem_of_getElem? hx)) ((z1B HTY.o).2 y (List.mem_of_getElem? hy)) (zc hks (zj HBM.o nq) hbl) (zc hks' (zj HBM.o nq) hbl') (hvx.next (zj HBM.o nq)) (hvy.next (zj HBM.o nq)))
     rw[hwm]
     clear hc hks hvx hx hwm hc' hks0 hks' hvy hy
     generalize fitsV x y= rx at*
     cases rx with
     |true=>
      have HV2:=I (HVS.o.trans (Bool.true_and _))
      clear HVS
      go_upto_region 8 with (fail)
      go_quiet ((go_at_call 62;exact Calls.quiet_of (HS.o _)))
      obtain⟨m',hm'⟩:=HDM.o nq
      rw[hm']
      go_wp2
      go_roundg g
      case measure=>omega
      case rel=>exact⟨j+1,_,by omega,by go_num,rfl,HV2.o.symm⟩
     |false=>
      have HV2:Hid (res= false):=I (HVS.o.trans (Bool.false_and _))
      clear HVS
      go_upto_region 8 with (fail)
      go_quiet ((go_at_call 62;exact Calls.quiet_of (HS.o _)))
      obtain⟨m',hm'⟩:=HDM.o nq
      rw[hm']
      go_wp2
      go_ret
      exact⟨zb HV2.o.symm,_,rfl⟩
  have HO2:=I (HO1.o.trans (if_neg k5))
  clear HO1
  by_cases k6:k= 6
  ·subst k6
   have HV:Hid (res=(decide (ns= ns') && fitsL its ts)):=I (HO2.o.trans (if_pos rfl))
   clear HO2
   go_enter Tryz.func62,Tryz.ntmps62
   go_wp2
   go_quiet (fail)
   obtain⟨w1,hw1⟩:∃ w1,w.drewN nq= w1:=⟨_,rfl⟩
   have c0:w1.cell? ⟨p,o,none⟩= some (.int .i64 6):=by rw[← hw1];exact d0
   have c4:w1.cell? ⟨p,o+4,none⟩= some vn:=by rw[← hw1];exact D4.o
   have c5:w1.cell? ⟨p,o+5,none⟩= some (.slice A its.length c):=by rw[← hw1];exact D5.o
   have f1:w1.cell? ⟨q,r+1,none⟩= some vn':=by rw[← hw1];exact E1.o
   have f2:w1.cell? ⟨q,r+2,none⟩= some (.slice A' ts.length c'):=by rw[← hw1];exact E2.o
   have HW1:=I hw1
   rw[hw1]
   clear hw1 d0 e0
   have HSE:=I (fun z=>z3o vn vn' ns ns' (w1.drewN z) ((HN.o.below (by rw[← HW1.o];exact zj (zj (Below.refl _ w) _) _) fun _ _ _ h=>h).more (by rw[← HW1.o];exact Nat.le_refl _)) ((HN'.o.below (by rw[← HW1.o];exact zj (zj (Below.refl _ w) _) _) fun _ _ _ h=>h).more (by rw[← HW1.o];exact Nat.le_refl _)))
   have HDW:Hid (∀ z,∃ m,w1.drewN z= w.drewN m):=I fun z=>⟨nq+z,by rw[← HW1.o,World.drewN_drewN]⟩
   by_cases hnn:ns= ns'
   ·have HR:Hid (res= fitsL its ts):=I (HV.o.trans (by rw[decide_eq_true hnn];exact Bool.true_and _))
    have HLN:Hid (its.length= ts.length):=I (by rw[← (z6W HRX.o).1,← (z6P HTY.o).1,hnn])
    rw[decide_eq_true hnn] at HSE
    clear hnn HV
    go_upto_region 12 with (fail)
    revert HW1
    clear HDW
    obtain⟨n1,hn1⟩:∃ n1,nq= n1:=⟨_,rfl⟩
    rw[hn1]
    clear hn1 nq
    intro HW1
    go_quiet ((go_at_call 81;exact Calls.quiet_of (HSE.o _)))
    obtain⟨w2,hw2⟩:∃ w2,w1.drewN nq= w2:=⟨_,rfl⟩
    have HW2:Hid (w.drewN (n1+nq)= w2):=I (by rw[← hw2,← HW1.o,World.drewN_drewN])
    have g5:w2.cell? ⟨p,o+5,none⟩= some (.slice A its.length c):=by rw[← hw2];exact c5
    rw[hw2]
    clear hw2 HW1 c0 c4 c5 f1 f2 HSE
    go_wp2
    clear g5
    go_loopg [61] its.length (fun g x u=>∃ j m:Nat,j+g= its.length/\x= .int .i64 j/\u= w.drewN m/\fitsL (its.drop j) (ts.drop j)= res)
    case atStart=>exact⟨0,_,by omega,rfl,(by first|exact HW1.o.symm|exact HW2.o.symm),HR.o.symm⟩
    case round=>
     obtain⟨j,m,hj,rfl,rfl,hres⟩:=hrel
     have HR2:=I hres
     clear hres
     cases gk with
     |zero=>
      obtain rfl:j= its.length:=by omega
      have hge: ¬ ((its.length:Int) <(its.length:Int)):=by omega
      have HVE:=I (HR2.o.symm.trans zbo)
      go_wp2
      go_ret
      exact⟨zb HVE.o.symm,_,rfl⟩
     |succ g=>
      have hlt:(j:Int) <(its.length:Int):=by omega
      obtain⟨x,hx⟩:∃ x,its[j]?= some x:=⟨_,List.getElem?_eq_getElem (by omega)⟩
      obtain⟨b,o',rfl,hbl,hc⟩:=HA.o (by omega)
      obtain⟨ks,hks,hvx⟩:=hc j x hx
      have hjt:j < ts.length:=HLN.o▸ (by omega:j < its.length)
      have hlt1:(j:Int) <(ts.length:Int):=by omega
      obtain⟨y,hy⟩:∃ y,ts[j]?= some y:=⟨_,List.getElem?_eq_getElem hjt⟩
      obtain⟨b',o'',rfl,hbl',hc'⟩:=HA'.o (by omega)
      obtain⟨ks',hks',hvy⟩:=hc' j y hy
      have HVS:=I (HR2.o.symm.trans (zaw hx hy))
      obtain⟨wm,hwm⟩:∃ wm,w.drewN m= wm:=⟨_,rfl⟩
      have HBM:Hid (Below w.heap.size w wm):=I (by rw[← hwm];exact zj (Below.refl _ w) m)
      have HDM:Hid (∀ q,∃ m',wm.drewN q= w.drewN m'):=I fun q=>⟨m+q,by rw[← hwm,World.drewN_drewN]⟩
      have c5:wm.cell? ⟨p,o+5,none⟩= some (.slice (some ⟨b,o',none⟩) its.length c):=by rw[← hwm];exact D5.o
      have f2:wm.cell? ⟨q,r+2,none⟩= some (.slice (some ⟨b',o'',none⟩) ts.length c'):=by rw[← hwm];exact E2.o
      have HS:=I (fun nq=>IH.o x (List.mem_of_getElem? hx) y (d+1) (e+1) ks ks' b (o'+j*6) b' (o''+j*3) (wm.drewN nq) ((z6W HRX.o).2 x (List.mem_of_getElem? hx)) ((z6P HTY.o).2 y (List.mem_of_getElem? hy)) (zc hks (zj HBM.o nq) hbl) (zc hks' (zj HBM.o nq) hbl') (hvx.next (zj HBM.o nq)) (hvy.next (zj HBM.o nq)))
      rw[hwm]
      clear hc hks hvx hx hwm hc' hks' hvy hy
      generalize fitsV x y= rx at*
      cases rx with
      |true=>
       have HV2:=I (HVS.o.trans (Bool.true_and _))
       clear HVS
       go_upto_region 17 with (fail)
       go_quiet ((go_at_call 62;exact Calls.quiet_of (HS.o _)))
       obtain⟨m',hm'⟩:=HDM.o nq
       rw[hm']
       go_wp2
       go_roundg g
       case measure=>omega
       case rel=>exact⟨j+1,_,by omega,by go_num,rfl,HV2.o.symm⟩
      |false=>
       have HV2:Hid (res= false):=I (HVS.o.trans (Bool.false_and _))
       clear HVS
       go_upto_region 17 with (fail)
       go_quiet ((go_at_call 62;exact Calls.quiet_of (HS.o _)))
       obtain⟨m',hm'⟩:=HDM.o nq
       rw[hm']
       go_wp2
       go_ret
       exact⟨zb HV2.o.symm,_,rfl⟩
   ·have HR:Hid (res= false):=I (HV.o.trans (by rw[decide_eq_false hnn];exact Bool.false_and _))
    rw[decide_eq_false hnn] at HSE
    clear hnn HV
    go_upto_region 12 with (fail)
    revert HW1
    clear HDW
    obtain⟨n1,hn1⟩:∃ n1,nq= n1:=⟨_,rfl⟩
    rw[hn1]
    clear hn1 nq
    intro HW1
    go_quiet ((go_at_call 81;exact Calls.quiet_of (HSE.o _)))
    go_wp2
    go_ret
    exact⟨zb HR.o.symm,_,(by rw[← HW1.o];exact World.drewN_drewN ..)⟩
  have HR:Hid (res= true):=I (HO2.o.trans (if_neg k6))
  have s5:(k ==5)= false:=by simpa using k5
  have s6:(k ==6)= false:=by simpa using k6
  clear HO2 k5 k6
  go_enter Tryz.func62,Tryz.ntmps62
  go_wp2
  go_quiet (fail)
  obtain⟨w1,hw1⟩:∃ w1,w.drewN nq= w1:=⟨_,rfl⟩
  have c0:w1.cell? ⟨p,o,none⟩= some (.int .i64 k):=by rw[← hw1];exact d0
  have c4:w1.cell? ⟨p,o+4,none⟩= some vn:=by rw[← hw1];exact D4.o
  have c5:w1.cell? ⟨p,o+5,none⟩= some (.slice A its.length c):=by rw[← hw1];exact D5.o
  have f1:w1.cell? ⟨q,r+1,none⟩= some vn':=by rw[← hw1];exact E1.o
  have f2:w1.cell? ⟨q,r+2,none⟩= some (.slice A' ts.length c'):=by rw[← hw1];exact E2.o
  have HW1:=I hw1
  rw[hw1]
  clear hw1 d0 e0
  go_wp2
  go_ret
  exact⟨zb HR.o.symm,_,HW1.o.symm⟩
end
section
open Go Go.RowKit
def z2U (x:VT):Bool:=decide (cntV x 0<=200) && zu x 1
def typeT (t:TT):Bool:=decide (cntT t 0<=200) && zP t 1
def fitT (x:VT) (t:TT):Bool:=z2U x && (typeT t && fitsV x t)
theorem z8g (x:VT) (t:TT) (cs cs':List Value) (w:World) (hv:ValAt w w.heap.size cs x) (hv':TypAt w w.heap.size cs' t):
  Calls Tryz.prog 43 #[.agg ⟨cs⟩,.agg ⟨cs'⟩] w fun en w'=>en= .returned (.bool (fitT x t))/\Below w.heap.size w w':=by
 have HV:=I hv
 have HV':=I hv'
 have HL:=I (zo hv)
 have HL':=I (zk hv')
 have HO:Hid (fitT x t=(z2U x && (typeT t && fitsV x t))):=I rfl
 generalize hres:fitT x t= res at*
 clear hv hv' hres
 go_enter Tryz.func43,Tryz.ntmps43
 go_upto_region 1 with (fail)
 have HA0:=I (zD w cs 52)
 have HB1:=I (zd w (.cells ⟨cs⟩ 52))
 have HS1:=I (zL w (.cells ⟨cs⟩ 52))
 have HSE:Hid ((w.alloc (.cells ⟨cs⟩ 52)).heap.size= w.heap.size+1):=I (by simp)
 generalize w.alloc (.cells ⟨cs⟩ 52)= W1 at*
 have HB:=I (zD W1 cs' 41)
 have HB2:=I (zd W1 (.cells ⟨cs'⟩ 41))
 have HS2:=I (zL W1 (.cells ⟨cs'⟩ 41))
 generalize W1.alloc (.cells ⟨cs'⟩ 41)= W at*
 have HAW:=I (zc HA0.o HB2.o HS1.o)
 have HBW:=I (HB1.o.trans (HB2.o.mono HB1.o.size))
 have HLT:=I (Nat.lt_of_lt_of_le HS1.o HB2.o.size)
 rw[HSE.o] at HB HS2
 obtain⟨pb,hpb⟩:∃ pb,w.heap.size+1= pb:=⟨_,rfl⟩
 rw[hpb] at HB HS2
 rw[hpb]
 clear HA0 HB1 HS1 HSE HB2 hpb
 have HVW:=I (HV.o.next HBW.o)
 have HC1:=I (z1x x cs W HVW.o)
 change Hid (Calls _ _ _ _ fun e w'=>e= .returned (.bool (z2U x))/\_) at HC1
 have HC2:=I (fun(z:World) (hz:Below W.heap.size W z)=>z0C t cs' z (HV'.o.next (HBW.o.trans (hz.mono HBW.o.size))))
 change Hid (∀ z:World,_->Calls _ _ _ _ fun e w'=>e= .returned (.bool (typeT t))/\_) at HC2
 cases hr1:z2U x with
 |false=>
  have HR:Hid (res= false):=I (HO.o.trans (by simp[hr1]))
  rw[hr1] at HC1
  go_wp2_with (first|((with_reducible refine za 52 _ rfl ?_ w.heap.size 0 cs _ rfl HAW.o Tryz.underlying52 rfl ?_ ?_);(exact wA rfl);rw[HL.o.1];kernel_rfl)|(go_at_call 61;refine HC1.o.mono ?_;rintro e z1 ⟨rfl,hbz⟩;have HBA:=I hbz;clear hbz))
  go_ret
  first|exact⟨zb HR.o.symm,HBW.o.trans (HBA.o.mono HBW.o.size)⟩|exact⟨rfl,HBW.o.trans (HBA.o.mono HBW.o.size)⟩
 |true=>
  have HO2:Hid (res=(typeT t && fitsV x t)):=I (by rw[HO.o,hr1,Bool.true_and])
  rw[hr1] at HC1
  cases ht2:typeT t with
  |false=>
   have HR:Hid (res= false):=I (HO2.o.trans (by simp[ht2]))
   rw[ht2] at HC2
   go_wp2_with (first|((with_reducible refine za 52 _ rfl ?_ w.heap.size 0 cs _ rfl HAW.o Tryz.underlying52 rfl ?_ ?_);(exact wA rfl);rw[HL.o.1];kernel_rfl)|(go_at_call 61;refine HC1.o.mono ?_;rintro e z1 ⟨rfl,hbz⟩;have HBA:=I hbz;clear hbz)|((with_reducible refine za 41 _ rfl ?_ pb 0 cs' _ rfl (zc HB.o HBA.o HS2.o) Tryz.underlying41 rfl ?_ ?_);(exact wA rfl);rw[HL'.o.1];kernel_rfl)|(go_at_call 30;refine(HC2.o _ HBA.o).mono ?_;rintro e z2 ⟨rfl,hbz⟩;have HBC:=I (HBA.o.trans (hbz.mono HBA.o.size));clear hbz))
   go_ret
   first|exact⟨zb HR.o.symm,HBW.o.trans (HBC.o.mono HBW.o.size)⟩|exact⟨rfl,HBW.o.trans (HBC.o.mono HBW.o.size)⟩
  |true=>
   have HR:Hid (res= fitsV x t):=I (HO2.o.trans (by rw[ht2];exact Bool.true_and _))
   rw[ht2] at HC2
   have hx1:zu x 1= true:=by unfold z2U at hr1;rw[Bool.and_eq_true] at hr1;exact hr1.2
   have ht1:zP t 1= true:=by unfold typeT at ht2;rw[Bool.and_eq_true] at ht2;exact ht2.2
   have HC3:=I (fun(z:World) (hz:Below W.heap.size W z)=>zdC x t 1 1 cs cs' w.heap.size 0 pb 0 z hx1 ht1 (zc HAW.o hz HLT.o) (zc HB.o hz HS2.o) (HVW.o.next hz) (HV'.o.next (HBW.o.trans (hz.mono HBW.o.size))))
   clear hx1 ht1 hr1 ht2
   go_wp2_with (first|((with_reducible refine za 52 _ rfl ?_ w.heap.size 0 cs _ rfl HAW.o Tryz.underlying52 rfl ?_ ?_);(exact wA rfl);rw[HL.o.1];kernel_rfl)|(go_at_call 61;refine HC1.o.mono ?_;rintro e z1 ⟨rfl,hbz⟩;have HBA:=I hbz;clear hbz)|((with_reducible refine za 41 _ rfl ?_ pb 0 cs' _ rfl (zc HB.o HBA.o HS2.o) Tryz.underlying41 rfl ?_ ?_);(exact wA rfl);rw[HL'.o.1];kernel_rfl)|(go_at_call 30;refine(HC2.o _ HBA.o).mono ?_;rintro e z2 ⟨rfl,hbz⟩;have HBC:=I (HBA.o.trans (hbz.mono HBA.o.size));clear hbz)|(go_at_call 62;refine(HC3.o _ HBC.o).mono ?_;rintro e z3 ⟨rfl,hzm⟩;have HBD:Hid (Below W.heap.size W z3):=I (by obtain⟨m,rfl⟩:=hzm;exact zj HBC.o _);clear hzm))
   go_ret
   exact⟨zb HR.o.symm,HBW.o.trans (HBD.o.mono HBW.o.size)⟩
end
section
open Go Go.RowKit
theorem z7g:∀ (l:List TT) (m:Nat),(∀ x∈l,∀ n,n < 500->n < cntT x n)->m<=200->cntTL l m<=200->m+l.length<=200/\∀ x∈l,∃ n,n<=200/\cntT x n<=200
 |[],m,_,h,_=>⟨by simpa using h,fun x hx=>by cases hx⟩
 |a::l,m,hx,hm,h=>by
  rw[cntTL,if_neg (by omega)] at h
  have h1:=hx a (by simp) m (by omega)
  have h2:cntT a m<=200:=by
   rcases Nat.lt_or_ge 200 (cntT a m) with h3|h3
   ·exfalso
    have key:∀ (l:List TT) (k:Nat),(∀ x∈l,∀ n,n < 500->n < cntT x n)->200 < k->200 < cntTL l k:=by
     intro l
     induction l with
     |nil=>intro k _ hk;rw[cntTL];exact hk
     |cons b r ih=>
      intro k hb hk
      rw[cntTL]
      split
      ·exact hk
      ·exact ih _ (fun x hx=>hb x (List.mem_cons_of_mem _ hx)) (by have:=hb b (by simp) k (by omega);omega)
    have:=key l _ (fun x hxx=>hx x (List.mem_cons_of_mem _ hxx)) h3
    omega
   ·exact h3
  obtain⟨h3,h4⟩:=z7g l (cntT a m) (fun x hxx=>hx x (List.mem_cons_of_mem _ hxx)) h2 h
  refine⟨by rw[List.length_cons];omega,fun x hxx=> ?_⟩
  rcases List.mem_cons.1 hxx with rfl|hxx
  ·exact⟨m,hm,h2⟩
  ·exact h4 x hxx
theorem z9j (t:TT):∀ n,n < 500->n < cntT t n:=by
 induction t using TT.ind with
 |h k ns its ih=>
  intro n hn
  rw[cntT]
  have key:∀ (l:List TT) (m:Nat),(∀ x∈l,∀ n,n < 500->n < cntT x n)->m<=cntTL l m:=by
   intro l
   induction l with
   |nil=>intro m _;rw[cntTL];exact Nat.le_refl _
   |cons a l ihl=>
    intro m hx
    rw[cntTL]
    split
    ·exact Nat.le_refl _
    ·have h1:=hx a (by simp) m (by omega)
     have h2:=ihl (cntT a m) fun x hxx=>hx x (List.mem_cons_of_mem _ hxx)
     omega
  have:=key its (n+1) ih
  omega
end
section
open Go Go.RowKit
theorem zf0 (l r:List _) (u v:Value) (w:World) (hu:SlAt w w.heap.size 3 (TypAt w w.heap.size) u l) (hv:SlAt w w.heap.size 3 (TypAt w w.heap.size) v r)
  (hF:∀ x∈l,∀ y cs cs' z,TypAt z z.heap.size cs x->TypAt z z.heap.size cs' y->Calls Tryz.prog 87 #[.agg ⟨cs⟩,.agg ⟨cs'⟩] z fun e w'=>e= .returned (.bool (sameT x y))/\Below z.heap.size z w'):
  Calls Tryz.prog 113 #[u,v,.func (.func 87) #[] #[]] w fun e w'=>e= .returned (.bool (z0c l r))/\Below w.heap.size w w':=by
 obtain⟨A,ca,rfl,hl,ha⟩:=z1O hu
 obtain⟨D,cb,rfl,hr,hb⟩:=z1O hv
 by_cases hlen:l.length= r.length
 case neg=>
  have HR:=I (z5S hlen)
  have t1:((l.length:Int) !=(r.length:Int))= true:=by rw[bne_iff_ne];omega
  clear hlen ha hb hu hv hF
  go_enter Tryz.func113,Tryz.ntmps113
  go_wp2
  go_ret
  exact⟨zb HR.o.symm,Below.refl _ w⟩
 have t1:((l.length:Int) !=(r.length:Int))= false:=by rw[hlen];exact bne_self_eq_false _
 have HLEN:=I hlen
 have HA:=I ha
 have HB:=I hb
 have HF:=I hF
 have HS:=I (fun k x y=>zbC (l:=l) (r:=r) (k:=k) (x:=x) (y:=y))
 have HT:=I (z9z hlen)
 have H0:Hid (z0c (l.drop 0) (r.drop 0)= z0c l r):=I rfl
 have hl2:(l.length:Int)<=9223372036854775807:=by omega
 have hr2:(r.length:Int)<=9223372036854775807:=by omega
 clear ha hb hu hv hF hlen
 generalize z0c l r= res at H0 ⊢
 go_enter Tryz.func113,Tryz.ntmps113
 go_wp2
 go_loopg [17] l.length (fun q x u=>∃ k:Nat,k+q= l.length/\x= .int .i64 k/\Below w.heap.size w u/\z0c (l.drop k) (r.drop k)= res)
 case atStart=>exact⟨0,by omega,rfl,Below.refl _ _,H0.o⟩
 case round=>
  obtain⟨k,hk,rfl,hb,hres⟩:=hrel
  have HR:=I hres
  have HBK:=I hb
  clear hres hb
  cases gk with
  |zero=>
   obtain rfl:k= l.length:=by omega
   have hge: ¬ ((l.length:Int) <(l.length:Int)):=by omega
   have HV:=I ((HR.o).symm.trans HT.o)
   clear HR
   go_wp2
   go_ret
   exact⟨zb HV.o.symm,HBK.o⟩
  |succ q=>
   have hlt:(k:Int) <(l.length:Int):=by omega
   have hkr:k < r.length:=by have:=HLEN.o;omega
   obtain⟨x,hx⟩:∃ x,l[k]?= some x:=⟨_,List.getElem?_eq_getElem (by omega)⟩
   obtain⟨b1,o1,rfl,hb1,c1⟩:=HA.o (by omega)
   obtain⟨cs,hcs,hvx⟩:=c1 k x hx
   have HR1:=I (zc hcs HBK.o hb1)
   have HVX:=I ((hvx.under HBK.o).more HBK.o.size)
   have HCL:=I (zk hvx)
   have HMX:=I (List.mem_of_getElem? hx)
   have HKX:=I hx
   clear c1 hcs hvx hx
   go_upto_region 6 with (first|((with_reducible refine za 41 _ rfl ?_ (b1) (o1+k*3) (cs) _ rfl HR1.o Tryz.underlying41 rfl ?_ ?_);(exact wA rfl);rw[HCL.o.1];kernel_rfl)|((with_reducible refine zJ 41 _ _ rfl ?hwx4 wr ?zz4 (cs) ?hwld4 ?hz4 ?hx4 ?hy4 ?hi4 ?h14 ?_);(case hwld4=>rfl);(case hx4=>rfl);(case hy4=>rfl);(case hwx4=>(exact wA rfl));(case hz4=>rw[HCL.o.1];rfl);(case hi4=>rw[HCL.o.1];kernel_rfl);(case h14=>exact HCL.o.2);intro Z hZ;have HX:=I hZ;clear hZ))
   have HBZ:=I (HBK.o.trans (HX.o.below.mono HBK.o.size))
   have HRA:=I HX.o.range
   have HVX2:=I ((HVX.o.under HX.o.below).more HX.o.below.size)
   obtain⟨pa,hpa⟩:∃ pa,wr.heap.size= pa:=⟨_,rfl⟩
   rw[hpa] at HRA
   have HPA:Hid (pa < Z.heap.size):=I (hpa▸HX.o.size)
   rw[hpa]
   clear hpa HR1 HVX HX
   obtain⟨y,hy⟩:∃ y,r[k]?= some y:=⟨_,List.getElem?_eq_getElem hkr⟩
   obtain⟨b2,o2,rfl,hb2,c2⟩:=HB.o (by omega)
   obtain⟨cs',hcs,hvy⟩:=c2 k y hy
   have HR2:=I (zc hcs HBZ.o hb2)
   have HVY:=I ((hvy.under HBZ.o).more HBZ.o.size)
   have HCM:=I (zk hvy)
   have hlt2:(k:Int) <(r.length:Int):=by omega
   have HV:=I ((HR.o).symm.trans (HS.o k x y HKX.o hy))
   clear c2 hcs hvy hy hkr
   go_upto_region 7 with (first|((with_reducible refine za 41 _ rfl ?_ (b2) (o2+k*3) (cs') _ rfl HR2.o Tryz.underlying41 rfl ?_ ?_);(exact wA rfl);rw[HCM.o.1];kernel_rfl)|((with_reducible refine zJ 41 _ _ rfl ?hwx6 Z ?zz6 (cs') ?hwld6 ?hz6 ?hx6 ?hy6 ?hi6 ?h16 ?_);(case hwld6=>rfl);(case hx6=>rfl);(case hy6=>rfl);(case hwx6=>(exact wA rfl));(case hz6=>rw[HCM.o.1];rfl);(case hi6=>rw[HCM.o.1];kernel_rfl);(case h16=>exact HCM.o.2);intro Z2 hZ;have HX2:=I hZ;clear hZ))
   have HBZ2:=I (HBZ.o.trans (HX2.o.below.mono HBZ.o.size))
   have HRA2:=I (zc HRA.o HX2.o.below HPA.o)
   have HRB2:=I HX2.o.range
   have HVX3:=I ((HVX2.o.under HX2.o.below).more HX2.o.below.size)
   have HVY3:=I ((HVY.o.under HX2.o.below).more HX2.o.below.size)
   obtain⟨pb,hpb⟩:∃ pb,Z.heap.size= pb:=⟨_,rfl⟩
   rw[hpb] at HRB2
   rw[hpb]
   have HC:=I (HF.o x HMX.o y cs cs' Z2 HVX3.o HVY3.o)
   clear hpb HX2 HR2 HVX2 HVY HRA HPA HVX3 HVY3
   obtain⟨cv,hcv⟩:∃ b,sameT x y= b:=⟨_,rfl⟩
   rw[hcv] at HC HV
   clear hcv
   cases cv with
   |true=>
    have HV2:Hid (res= z0c (l.drop (k+1)) (r.drop (k+1))):=I (HV.o.trans (Bool.true_and _))
    clear HV
    go_wp2_with (first|((with_reducible refine za 41 _ rfl ?_ (pa) (0) (cs) _ rfl HRA2.o Tryz.underlying41 rfl ?_ ?_);(exact wA rfl);rw[HCL.o.1];kernel_rfl)|((with_reducible refine za 41 _ rfl ?_ (pb) (0) (cs') _ rfl HRB2.o Tryz.underlying41 rfl ?_ ?_);(exact wA rfl);rw[HCM.o.1];kernel_rfl)|(go_at_call 87;refine(HC.o).mono ?_;rintro e z ⟨rfl,hbz⟩;have HB3:=I hbz;clear hbz))
    go_roundg q
    case measure=>omega
    case rel=>exact⟨k+1,by omega,by go_num,HBZ2.o.trans (HB3.o.mono HBZ2.o.size),HV2.o.symm⟩
   |false=>
    have HV2:Hid (res= false):=I (HV.o.trans (Bool.false_and _))
    clear HV
    go_wp2_with (first|((with_reducible refine za 41 _ rfl ?_ (pa) (0) (cs) _ rfl HRA2.o Tryz.underlying41 rfl ?_ ?_);(exact wA rfl);rw[HCL.o.1];kernel_rfl)|((with_reducible refine za 41 _ rfl ?_ (pb) (0) (cs') _ rfl HRB2.o Tryz.underlying41 rfl ?_ ?_);(exact wA rfl);rw[HCM.o.1];kernel_rfl)|(go_at_call 87;refine(HC.o).mono ?_;rintro e z ⟨rfl,hbz⟩;have HB3:=I hbz;clear hbz))
    go_ret
    exact⟨zb HV2.o.symm,HBZ2.o.trans (HB3.o.mono HBZ2.o.size)⟩
theorem zbX:∀ (t t':TT) (cs cs':List Value) (w:World),TypAt w w.heap.size cs t->TypAt w w.heap.size cs' t'->
  Calls Tryz.prog 87 #[.agg ⟨cs⟩,.agg ⟨cs'⟩] w fun e w'=>e= .returned (.bool (sameT t t'))/\Below w.heap.size w w':=by
 intro t
 induction t using TT.ind with
 |h k ns its ih=>
  intro t' cs cs' w hv hv'
  cases t' with
  |mk k' ns' its'=>
  obtain⟨vn,vi,rfl,_,hns,_,hi⟩:=hv.inv
  obtain⟨vn',vi',rfl,_,hns',_,hi'⟩:=hv'.inv
  have HO:Hid (sameT (.mk k ns its) (.mk k' ns' its')=((k ==k') && (eqN ns ns' && z0c its its'))):=I (by rw[sameT])
  generalize sameT (.mk k ns its) (.mk k' ns' its')= res at HO ⊢
  have HNS:=I hns
  have HNS':=I hns'
  have HIT:=I hi
  have HIT':=I hi'
  obtain⟨_,NA,nc,rfl,_⟩:=hns
  obtain⟨_,NB,nd,rfl,_⟩:=hns'
  obtain⟨_,A,c,rfl,_⟩:=hi
  obtain⟨_,D,d,rfl,_⟩:=hi'
  have HIH:=I (fun x (hx:x∈its) y cs cs' z h h'=>ih x hx y cs cs' z h h')
  clear ih hv hv'
  have g1:=zd w (.cells ⟨[.int .i64 k,.slice NA ns.length nc,.slice A its.length c]⟩ 41)
  have hA:=Whole.new w [.int .i64 k,.slice NA ns.length nc,.slice A its.length c] 41
  go_enter Tryz.func87,Tryz.ntmps87
  go_upto_region 1 with (fail)
  have hs1:(w.alloc (.cells ⟨[.int .i64 k,.slice NA ns.length nc,.slice A its.length c]⟩ 41)).heap.size= w.heap.size+1:=by simp
  generalize w.alloc (.cells ⟨[.int .i64 k,.slice NA ns.length nc,.slice A its.length c]⟩ 41)= W1 at*
  have g2:=zd W1 (.cells ⟨[.int .i64 k',.slice NB ns'.length nd,.slice D its'.length d]⟩ 41)
  have hB:=Whole.new W1 [.int .i64 k',.slice NB ns'.length nd,.slice D its'.length d] 41
  generalize W1.alloc (.cells ⟨[.int .i64 k',.slice NB ns'.length nd,.slice D its'.length d]⟩ 41)= W at*
  rw[hs1] at hB
  (try rw[hs1])
  obtain⟨pb,hpb⟩:∃ pb,w.heap.size+1= pb:=⟨_,rfl⟩
  rw[hpb] at hB
  rw[hpb]
  have hA2:=hA.keep (g2.block _ (by have:=hA.lt;omega))
  have HBL:=I (g1.trans (g2.mono g1.size))
  have HAW:=I hA2
  have HBW:=I hB
  clear g1 g2 hA hB hA2 hs1 hpb
  have d0:W.cell? ⟨w.heap.size,0,none⟩= some (.int .i64 k):=HAW.o.range 0 _ rfl
  have d1:W.cell? ⟨w.heap.size,1,none⟩= some (.slice NA ns.length nc):=HAW.o.range 1 _ rfl
  have e0:W.cell? ⟨pb,0,none⟩= some (.int .i64 k'):=HBW.o.range 0 _ rfl
  have e1:W.cell? ⟨pb,1,none⟩= some (.slice NB ns'.length nd):=HBW.o.range 1 _ rfl
  cases hk:(k ==k') with
  |false=>
   have HV:Hid (res= false):=I (by rw[HO.o,hk];rfl)
   go_wp2
   go_ret
   exact⟨zb HV.o.symm,HBL.o⟩
  |true=>
  have HN:=I (z3o (.slice NA ns.length nc) (.slice NB ns'.length nd) ns ns' W ((HNS.o.below HBL.o (fun _ _ _ h=>h)).more HBL.o.size) ((HNS'.o.below HBL.o (fun _ _ _ h=>h)).more HBL.o.size))
  rw[z5X] at HN
  cases hn:eqN ns ns' with
  |false=>
   have HV:Hid (res= false):=I (by rw[HO.o,hk,hn];rfl)
   rw[hn] at HN
   clear hn
   go_wp2_with (go_at_call 81;refine(HN.o).mono ?_;rintro e z ⟨rfl,q,rfl⟩;skip)
   go_ret
   exact⟨zb HV.o.symm,zj HBL.o _⟩
  |true=>
   have HV:Hid (res= z0c its its'):=I (by rw[HO.o,hk,hn];rfl)
   rw[hn] at HN
   clear hn
   have HQ:Hid (∀ q,Calls Tryz.prog 113 #[.slice A its.length c,.slice D its'.length d,.func (.func 87) #[] #[]] (W.drewN q) fun e w'=>e= .returned (.bool (z0c its its'))/\Below (W.drewN q).heap.size (W.drewN q) w'):=I fun q=>zf0 its its' _ _ _ (by have h:=zj HBL.o q;exact(HIT.o.below h (fun _ _ _ h2=>(h2.under h).more h.size)).more h.size) (by have h:=zj HBL.o q;exact(HIT'.o.below h (fun _ _ _ h2=>(h2.under h).more h.size)).more h.size) HIH.o
   go_wp2_with (first|(go_at_call 81;refine(HN.o).mono ?_;rintro e z ⟨rfl,q,rfl⟩;have d2:(W.drewN q).cell? ⟨w.heap.size,2,none⟩= some (.slice A its.length c):=HAW.o.range 2 _ rfl;have e2:(W.drewN q).cell? ⟨pb,2,none⟩= some (.slice D its'.length d):=HBW.o.range 2 _ rfl)|(go_at_call 113;refine(HQ.o _).mono ?_;rintro e z ⟨rfl,hb⟩;have HB4:=I hb;clear hb))
   go_ret
   exact⟨zb HV.o.symm,(zj HBL.o _).trans (HB4.o.mono (zj HBL.o _).size)⟩
end
section
open Go Go.RowKit
theorem z93 {w:World} {v:Value} {l:List ET} (h:SlAt w w.heap.size 10 (ExpAt w w.heap.size) v l):∃ A c,v= .slice A l.length c/\l.length<=9223372036854775807/\
  (0 < l.length->∃ b o,A= some ⟨b,o,none⟩/\b < w.heap.size/\∀ (i:Nat) x,l[i]?= some x->∃ cs:List Value,w.rangeAt b (o+i*10) cs/\ExpAt w w.heap.size cs x):=by
 obtain⟨h0,A,c,h1,h2⟩:=h
 refine⟨A,c,h1,h0,fun hp=> ?_⟩
 obtain⟨b,o,h3,h4,h5⟩:=h2 hp
 refine⟨b,o,h3,h4,fun i x hx=> ?_⟩
 obtain⟨cs,_,h7,h8⟩:=h5 i x hx
 exact⟨cs,h7,h8⟩
theorem z8Y {w:World} {B:Nat} {cs:List Value} {t:ET} (h:ExpAt w B cs t):cs.length= 10/\∀ u∈cs,u.oneCell'= true:=by
 cases t with
 |mk k s v ns its=>
  have h9:=h.one
  obtain⟨c0,c1,c2,c3,c4,c5,vn,vi,rfl,_⟩:=h.inv
  exact⟨rfl,h9⟩
theorem zcw {w:World} {p o i:Nat} {cs ds:List Value} (h:w.rangeAt p o cs) (hd:∀ j v,ds[j]?= some v->cs[i+j]?= some v):w.rangeAt p (o+i) ds:=fun j v hv=>by
 have:=h (i+j) v (hd j v hv)
 rw[show o+i+j= o+ (i+j) by omega];exact this
theorem zeO (l r:List _) (u v:Value) (w:World) (hu:SlAt w w.heap.size 10 (ExpAt w w.heap.size) u l) (hv:SlAt w w.heap.size 10 (ExpAt w w.heap.size) v r)
  (hF:∀ x∈l,∀ y cs cs' z,ExpAt z z.heap.size cs x->ExpAt z z.heap.size cs' y->Calls Tryz.prog 83 #[.agg ⟨cs⟩,.agg ⟨cs'⟩] z fun e w'=>e= .returned (.bool (sameE x y))/\Below z.heap.size z w'):
  Calls Tryz.prog 105 #[u,v,.func (.func 83) #[] #[]] w fun e w'=>e= .returned (.bool (z09 l r))/\Below w.heap.size w w':=by
 obtain⟨A,ca,rfl,hl,ha⟩:=z93 hu
 obtain⟨D,cb,rfl,hr,hb⟩:=z93 hv
 by_cases hlen:l.length= r.length
 case neg=>
  have HR:=I (z2Z hlen)
  have t1:((l.length:Int) !=(r.length:Int))= true:=by rw[bne_iff_ne];omega
  clear hlen ha hb hu hv hF
  go_enter Tryz.func105,Tryz.ntmps105
  go_wp2
  go_ret
  exact⟨zb HR.o.symm,Below.refl _ w⟩
 have t1:((l.length:Int) !=(r.length:Int))= false:=by rw[hlen];exact bne_self_eq_false _
 have HLEN:=I hlen
 have HA:=I ha
 have HB:=I hb
 have HF:=I hF
 have HS:=I (fun k x y=>zbq (l:=l) (r:=r) (k:=k) (x:=x) (y:=y))
 have HT:=I (z9E hlen)
 have H0:Hid (z09 (l.drop 0) (r.drop 0)= z09 l r):=I rfl
 have hl2:(l.length:Int)<=9223372036854775807:=by omega
 have hr2:(r.length:Int)<=9223372036854775807:=by omega
 clear ha hb hu hv hF hlen
 generalize z09 l r= res at H0 ⊢
 go_enter Tryz.func105,Tryz.ntmps105
 go_wp2
 go_loopg [17] l.length (fun q x u=>∃ k:Nat,k+q= l.length/\x= .int .i64 k/\Below w.heap.size w u/\z09 (l.drop k) (r.drop k)= res)
 case atStart=>exact⟨0,by omega,rfl,Below.refl _ _,H0.o⟩
 case round=>
  obtain⟨k,hk,rfl,hb,hres⟩:=hrel
  have HR:=I hres
  have HBK:=I hb
  clear hres hb
  cases gk with
  |zero=>
   obtain rfl:k= l.length:=by omega
   have hge: ¬ ((l.length:Int) <(l.length:Int)):=by omega
   have HV:=I ((HR.o).symm.trans HT.o)
   clear HR
   go_wp2
   go_ret
   exact⟨zb HV.o.symm,HBK.o⟩
  |succ q=>
   have hlt:(k:Int) <(l.length:Int):=by omega
   have hkr:k < r.length:=by have:=HLEN.o;omega
   obtain⟨x,hx⟩:∃ x,l[k]?= some x:=⟨_,List.getElem?_eq_getElem (by omega)⟩
   obtain⟨b1,o1,rfl,hb1,c1⟩:=HA.o (by omega)
   obtain⟨cs,hcs,hvx⟩:=c1 k x hx
   have HR1:=I (zc hcs HBK.o hb1)
   have HVX:=I ((hvx.under HBK.o).more HBK.o.size)
   have HCL:=I (z8Y hvx)
   have HMX:=I (List.mem_of_getElem? hx)
   have HKX:=I hx
   clear c1 hcs hvx hx
   go_upto_region 6 with (first|((with_reducible refine za 54 _ rfl ?_ (b1) (o1+k*10) (cs) _ rfl HR1.o Tryz.underlying54 rfl ?_ ?_);(exact wA rfl);rw[HCL.o.1];kernel_rfl)|((with_reducible refine zJ 54 _ _ rfl ?hwx12 wr ?zz12 (cs) ?hwld12 ?hz12 ?hx12 ?hy12 ?hi12 ?h112 ?_);(case hwld12=>rfl);(case hx12=>rfl);(case hy12=>rfl);(case hwx12=>(exact wA rfl));(case hz12=>rw[HCL.o.1];rfl);(case hi12=>rw[HCL.o.1];kernel_rfl);(case h112=>exact HCL.o.2);intro Z hZ;have HX:=I hZ;clear hZ))
   have HBZ:=I (HBK.o.trans (HX.o.below.mono HBK.o.size))
   have HRA:=I HX.o.range
   have HVX2:=I ((HVX.o.under HX.o.below).more HX.o.below.size)
   obtain⟨pa,hpa⟩:∃ pa,wr.heap.size= pa:=⟨_,rfl⟩
   rw[hpa] at HRA
   have HPA:Hid (pa < Z.heap.size):=I (hpa▸HX.o.size)
   rw[hpa]
   clear hpa HR1 HVX HX
   obtain⟨y,hy⟩:∃ y,r[k]?= some y:=⟨_,List.getElem?_eq_getElem hkr⟩
   obtain⟨b2,o2,rfl,hb2,c2⟩:=HB.o (by omega)
   obtain⟨cs',hcs,hvy⟩:=c2 k y hy
   have HR2:=I (zc hcs HBZ.o hb2)
   have HVY:=I ((hvy.under HBZ.o).more HBZ.o.size)
   have HCM:=I (z8Y hvy)
   have hlt2:(k:Int) <(r.length:Int):=by omega
   have HV:=I ((HR.o).symm.trans (HS.o k x y HKX.o hy))
   clear c2 hcs hvy hy hkr
   go_upto_region 7 with (first|((with_reducible refine za 54 _ rfl ?_ (b2) (o2+k*10) (cs') _ rfl HR2.o Tryz.underlying54 rfl ?_ ?_);(exact wA rfl);rw[HCM.o.1];kernel_rfl)|((with_reducible refine zJ 54 _ _ rfl ?hwx14 Z ?zz14 (cs') ?hwld14 ?hz14 ?hx14 ?hy14 ?hi14 ?h114 ?_);(case hwld14=>rfl);(case hx14=>rfl);(case hy14=>rfl);(case hwx14=>(exact wA rfl));(case hz14=>rw[HCM.o.1];rfl);(case hi14=>rw[HCM.o.1];kernel_rfl);(case h114=>exact HCM.o.2);intro Z2 hZ;have HX2:=I hZ;clear hZ))
   have HBZ2:=I (HBZ.o.trans (HX2.o.below.mono HBZ.o.size))
   have HRA2:=I (zc HRA.o HX2.o.below HPA.o)
   have HRB2:=I HX2.o.range
   have HVX3:=I ((HVX2.o.under HX2.o.below).more HX2.o.below.size)
   have HVY3:=I ((HVY.o.under HX2.o.below).more HX2.o.below.size)
   obtain⟨pb,hpb⟩:∃ pb,Z.heap.size= pb:=⟨_,rfl⟩
   rw[hpb] at HRB2
   rw[hpb]
   have HC:=I (HF.o x HMX.o y cs cs' Z2 HVX3.o HVY3.o)
   clear hpb HX2 HR2 HVX2 HVY HRA HPA HVX3 HVY3
   obtain⟨cv,hcv⟩:∃ b,sameE x y= b:=⟨_,rfl⟩
   rw[hcv] at HC HV
   clear hcv
   cases cv with
   |true=>
    have HV2:Hid (res= z09 (l.drop (k+1)) (r.drop (k+1))):=I (HV.o.trans (Bool.true_and _))
    clear HV
    go_wp2_with (first|((with_reducible refine za 54 _ rfl ?_ (pa) (0) (cs) _ rfl HRA2.o Tryz.underlying54 rfl ?_ ?_);(exact wA rfl);rw[HCL.o.1];kernel_rfl)|((with_reducible refine za 54 _ rfl ?_ (pb) (0) (cs') _ rfl HRB2.o Tryz.underlying54 rfl ?_ ?_);(exact wA rfl);rw[HCM.o.1];kernel_rfl)|(go_at_call 83;refine(HC.o).mono ?_;rintro e z ⟨rfl,hbz⟩;have HB3:=I hbz;clear hbz))
    go_roundg q
    case measure=>omega
    case rel=>exact⟨k+1,by omega,by go_num,HBZ2.o.trans (HB3.o.mono HBZ2.o.size),HV2.o.symm⟩
   |false=>
    have HV2:Hid (res= false):=I (HV.o.trans (Bool.false_and _))
    clear HV
    go_wp2_with (first|((with_reducible refine za 54 _ rfl ?_ (pa) (0) (cs) _ rfl HRA2.o Tryz.underlying54 rfl ?_ ?_);(exact wA rfl);rw[HCL.o.1];kernel_rfl)|((with_reducible refine za 54 _ rfl ?_ (pb) (0) (cs') _ rfl HRB2.o Tryz.underlying54 rfl ?_ ?_);(exact wA rfl);rw[HCM.o.1];kernel_rfl)|(go_at_call 83;refine(HC.o).mono ?_;rintro e z ⟨rfl,hbz⟩;have HB3:=I hbz;clear hbz))
    go_ret
    exact⟨zb HV2.o.symm,HBZ2.o.trans (HB3.o.mono HBZ2.o.size)⟩
theorem zbk:∀ (t t':ET) (cs cs':List Value) (w:World),ExpAt w w.heap.size cs t->ExpAt w w.heap.size cs' t'->
  Calls Tryz.prog 83 #[.agg ⟨cs⟩,.agg ⟨cs'⟩] w fun e w'=>e= .returned (.bool (sameE t t'))/\Below w.heap.size w w':=by
 intro t
 induction t using ET.ind with
 |h k s v ns its ih=>
  intro t' cs cs' w hv hv'
  cases t' with
  |mk k' s' v' ns' its'=>
  obtain⟨v0,v1,v2,v3,v4,v5,vn,vi,rfl,_,_,hvv,hns,_,hi⟩:=hv.inv
  obtain⟨u0,u1,u2,u3,u4,u5,vn',vi',rfl,_,_,hvv',hns',_,hi'⟩:=hv'.inv
  have HO:=I (z9F (k:=k) (k':=k') (s:=s) (s':=s') (v:=v) (v':=v') (ns:=ns) (ns':=ns') (its:=its) (its':=its'))
  generalize sameE (.mk k s v ns its) (.mk k' s' v' ns' its')= res at HO ⊢
  have HNS:=I hns
  have HNS':=I hns'
  have HIT:=I hi
  have HIT':=I hi'
  have HVV:=I hvv
  have HVV':=I hvv'
  obtain⟨_,NA,nc,rfl,_⟩:=hns
  obtain⟨_,NB,nd,rfl,_⟩:=hns'
  obtain⟨_,A,c,rfl,_⟩:=hi
  obtain⟨_,D,d,rfl,_⟩:=hi'
  have HIH:=I (fun x (hx:x∈its) y cs cs' z h h'=>ih x hx y cs cs' z h h')
  clear ih hv hv' hvv hvv'
  have g1:=zd w (.cells ⟨[.int .i64 k,.string s,v0,v1,v2,v3,v4,v5,.slice NA ns.length nc,.slice A its.length c]⟩ 54)
  have hA:=Whole.new w [.int .i64 k,.string s,v0,v1,v2,v3,v4,v5,.slice NA ns.length nc,.slice A its.length c] 54
  go_enter Tryz.func83,Tryz.ntmps83
  go_upto_region 1 with (fail)
  have hs1:(w.alloc (.cells ⟨[.int .i64 k,.string s,v0,v1,v2,v3,v4,v5,.slice NA ns.length nc,.slice A its.length c]⟩ 54)).heap.size= w.heap.size+1:=by simp
  generalize w.alloc (.cells ⟨[.int .i64 k,.string s,v0,v1,v2,v3,v4,v5,.slice NA ns.length nc,.slice A its.length c]⟩ 54)= W1 at*
  have g2:=zd W1 (.cells ⟨[.int .i64 k',.string s',u0,u1,u2,u3,u4,u5,.slice NB ns'.length nd,.slice D its'.length d]⟩ 54)
  have hB:=Whole.new W1 [.int .i64 k',.string s',u0,u1,u2,u3,u4,u5,.slice NB ns'.length nd,.slice D its'.length d] 54
  generalize W1.alloc (.cells ⟨[.int .i64 k',.string s',u0,u1,u2,u3,u4,u5,.slice NB ns'.length nd,.slice D its'.length d]⟩ 54)= W at*
  rw[hs1] at hB
  (try rw[hs1])
  obtain⟨pb,hpb⟩:∃ pb,w.heap.size+1= pb:=⟨_,rfl⟩
  rw[hpb] at hB
  rw[hpb]
  have hA2:=hA.keep (g2.block _ (by have:=hA.lt;omega))
  have HBL:=I (g1.trans (g2.mono g1.size))
  have HAW:=I hA2
  have HBW:=I hB
  clear g1 g2 hA hB hA2 hs1 hpb
  have d0:W.cell? ⟨w.heap.size,0,none⟩= some (.int .i64 k):=HAW.o.range 0 _ rfl
  have d1:W.cell? ⟨w.heap.size,1,none⟩= some (.string s):=HAW.o.range 1 _ rfl
  have e0:W.cell? ⟨pb,0,none⟩= some (.int .i64 k'):=HBW.o.range 0 _ rfl
  have e1:W.cell? ⟨pb,1,none⟩= some (.string s'):=HBW.o.range 1 _ rfl
  have HRV:Hid (W.rangeAt w.heap.size 2 [v0,v1,v2,v3,v4,v5]):=I (by have:=zcw (i:=2) (ds:=[v0,v1,v2,v3,v4,v5]) HAW.o.range (fun j v h=>match j,h with|0,h=>h|1,h=>h|2,h=>h|3,h=>h|4,h=>h|5,h=>h|j+6,h=>by simp at h);simpa using this)
  have HRW:Hid (W.rangeAt pb 2 [u0,u1,u2,u3,u4,u5]):=I (by have:=zcw (i:=2) (ds:=[u0,u1,u2,u3,u4,u5]) HBW.o.range (fun j v h=>match j,h with|0,h=>h|1,h=>h|2,h=>h|3,h=>h|4,h=>h|5,h=>h|j+6,h=>by simp at h);simpa using this)
  cases hk:(k ==k') with
  |false=>
   have HV:Hid (res= false):=I (by rw[HO.o,hk];rfl)
   go_wp2
   go_ret
   exact⟨zb HV.o.symm,HBL.o⟩
  |true=>
  cases hs:(s.toList ==s'.toList) with
  |false=>
   have HV:Hid (res= false):=I (by rw[HO.o,hk,hs];rfl)
   go_wp2
   go_ret
   exact⟨zb HV.o.symm,HBL.o⟩
  |true=>
  have HSV:=I (vsame v v' [v0,v1,v2,v3,v4,v5] [u0,u1,u2,u3,u4,u5] W ((HVV.o.under HBL.o).more HBL.o.size) ((HVV'.o.under HBL.o).more HBL.o.size))
  obtain⟨sv,hsv⟩:∃ b,(ordV v v' ==0)= b:=⟨_,rfl⟩
  rw[hsv] at HSV
  cases sv with
  |false=>
   have HV:Hid (res= false):=I (by rw[HO.o,hk,hs,hsv];rfl)
   clear hsv
   go_wp2_with (first|(first|((with_reducible refine za 52 _ rfl ?_ (w.heap.size) (2) ([v0,v1,v2,v3,v4,v5]) _ rfl HRV.o Tryz.underlying52 rfl ?_ ?_);(exact wA rfl);kernel_rfl)|((with_reducible refine za 52 _ rfl ?_ (pb) (2) ([u0,u1,u2,u3,u4,u5]) _ rfl HRW.o Tryz.underlying52 rfl ?_ ?_);(exact wA rfl);kernel_rfl))|(go_at_call 104;refine(HSV.o).mono ?_;rintro e w2 ⟨rfl,hb2⟩;have HB2:=I hb2;clear hb2))
   go_ret
   exact⟨zb HV.o.symm,HBL.o.trans (HB2.o.mono HBL.o.size)⟩
  |true=>
  have HN:Hid (∀ z,Below W.heap.size W z->Calls Tryz.prog 81 #[.slice NA ns.length nc,.slice NB ns'.length nd] z fun e w'=>e= .returned (.bool (eqN ns ns'))/\∃ m,w'= z.drewN m):=I fun z hz=>by
   have h:=HBL.o.trans (hz.mono HBL.o.size)
   rw[← z5X]
   exact z3o _ _ ns ns' z ((HNS.o.below h (fun _ _ _ h=>h)).more h.size) ((HNS'.o.below h (fun _ _ _ h=>h)).more h.size)
  cases hn:eqN ns ns' with
  |false=>
   have HV:Hid (res= false):=I (by rw[HO.o,hk,hs,hsv,hn];rfl)
   rw[hn] at HN
   clear hn hsv
   go_wp2_with (first|(first|((with_reducible refine za 52 _ rfl ?_ (w.heap.size) (2) ([v0,v1,v2,v3,v4,v5]) _ rfl HRV.o Tryz.underlying52 rfl ?_ ?_);(exact wA rfl);kernel_rfl)|((with_reducible refine za 52 _ rfl ?_ (pb) (2) ([u0,u1,u2,u3,u4,u5]) _ rfl HRW.o Tryz.underlying52 rfl ?_ ?_);(exact wA rfl);kernel_rfl))|(go_at_call 104;refine(HSV.o).mono ?_;rintro e w2 ⟨rfl,hb2⟩;have HB2:=I hb2;have d8:w2.cell? ⟨w.heap.size,8,none⟩= some (.slice NA ns.length nc):=(hb2.cell (p:=⟨w.heap.size,8,none⟩) HAW.o.lt).trans (HAW.o.range 8 _ rfl);have e8:w2.cell? ⟨pb,8,none⟩= some (.slice NB ns'.length nd):=(hb2.cell (p:=⟨pb,8,none⟩) HBW.o.lt).trans (HBW.o.range 8 _ rfl);clear hb2)|(go_at_call 81;refine((HN.o _ HB2.o)).mono ?_;rintro e z ⟨rfl,q,rfl⟩;skip))
   go_ret
   exact⟨zb HV.o.symm,zj (HBL.o.trans (HB2.o.mono HBL.o.size)) _⟩
  |true=>
   have HV:Hid (res= z09 its its'):=I (by rw[HO.o,hk,hs,hsv,hn];rfl)
   rw[hn] at HN
   clear hn hsv
   have HQ:Hid (∀ z,Below W.heap.size W z->Calls Tryz.prog 105 #[.slice A its.length c,.slice D its'.length d,.func (.func 83) #[] #[]] z fun e w'=>e= .returned (.bool (z09 its its'))/\Below z.heap.size z w'):=I fun z hz=>by
    have h:=HBL.o.trans (hz.mono HBL.o.size)
    exact zeO its its' _ _ z ((HIT.o.below h (fun _ _ _ h2=>(h2.under h).more h.size)).more h.size) ((HIT'.o.below h (fun _ _ _ h2=>(h2.under h).more h.size)).more h.size) HIH.o
   go_wp2_with (first|(first|((with_reducible refine za 52 _ rfl ?_ (w.heap.size) (2) ([v0,v1,v2,v3,v4,v5]) _ rfl HRV.o Tryz.underlying52 rfl ?_ ?_);(exact wA rfl);kernel_rfl)|((with_reducible refine za 52 _ rfl ?_ (pb) (2) ([u0,u1,u2,u3,u4,u5]) _ rfl HRW.o Tryz.underlying52 rfl ?_ ?_);(exact wA rfl);kernel_rfl))|(go_at_call 104;refine(HSV.o).mono ?_;rintro e w2 ⟨rfl,hb2⟩;have HB2:=I hb2;have d8:w2.cell? ⟨w.heap.size,8,none⟩= some (.slice NA ns.length nc):=(hb2.cell (p:=⟨w.heap.size,8,none⟩) HAW.o.lt).trans (HAW.o.range 8 _ rfl);have e8:w2.cell? ⟨pb,8,none⟩= some (.slice NB ns'.length nd):=(hb2.cell (p:=⟨pb,8,none⟩) HBW.o.lt).trans (HBW.o.range 8 _ rfl);clear hb2)|(go_at_call 81;refine((HN.o _ HB2.o)).mono ?_;rintro e z ⟨rfl,q,rfl⟩;have d9:(w2.drewN q).cell? ⟨w.heap.size,9,none⟩= some (.slice A its.length c):=(HB2.o.cell (p:=⟨w.heap.size,9,none⟩) HAW.o.lt).trans (HAW.o.range 9 _ rfl);have e9:(w2.drewN q).cell? ⟨pb,9,none⟩= some (.slice D its'.length d):=(HB2.o.cell (p:=⟨pb,9,none⟩) HBW.o.lt).trans (HBW.o.range 9 _ rfl))|(go_at_call 105;refine((HQ.o _ (zj HB2.o _))).mono ?_;rintro e z ⟨rfl,hb⟩;have HB4:=I hb;clear hb))
   go_ret
   have hB:=zj (HBL.o.trans (HB2.o.mono HBL.o.size)) q
   exact⟨zb HV.o.symm,hB.trans (HB4.o.mono hB.size)⟩
end
section
open Go Go.RowKit
theorem zfA:∀ (x:ET) (far:Nat) (cs:List Value) (w:World),far<=40->ExpAt w w.heap.size cs x->Calls Tryz.prog 40 #[.agg ⟨cs⟩,.int .i64 far] w (z63 w):=by
 intro x
 induction x using ET.ind with
 |h k s t ns its ih=>
  intro far cs w hfar hv
  obtain⟨v0,v1,v2,v3,v4,v5,vn,vi,rfl,_,_,_,_,hil,hi⟩:=hv.inv
  obtain⟨_,A,c,rfl,hA⟩:=hi
  have HA:=I hA
  have IH:=I ih
  unfold maxLen at hil
  clear hA hv ih
  go_enter Tryz.func40,Tryz.ntmps40
  go_upto_region 1 with (fail)
  have hb0:=zd w (.cells ⟨[.int .i64 k,.string s,v0,v1,v2,v3,v4,v5,vn,.slice A its.length c]⟩ 54)
  have hz0:=zL w (.cells ⟨[.int .i64 k,.string s,v0,v1,v2,v3,v4,v5,vn,.slice A its.length c]⟩ 54)
  have c5:=zB w ⟨[.int .i64 k,.string s,v0,v1,v2,v3,v4,v5,vn,.slice A its.length c]⟩ 54 9
  generalize w.alloc (.cells ⟨[.int .i64 k,.string s,v0,v1,v2,v3,v4,v5,vn,.slice A its.length c]⟩ 54)= W at*
  have HB:=I hb0
  have C5:=I c5
  have HSZ:=I hz0
  clear hb0 c5 hz0
  go_wp2
  go_loopg [5,6] its.length (fun g m i wr=>∃ (j:Nat) (x:Int),j+g= its.length/\i= .int .i64 j/\m= .int .i64 x/\Below W.heap.size W wr)
  case atStart=>exact⟨0,0,by omega,rfl,rfl,Below.refl _ _⟩
  case round=>
   obtain⟨j,x,hj,rfl,rfl,hb⟩:=hrel
   have HB1:=I hb
   have d5:=(hb.cell (p:=⟨w.heap.size,9,none⟩) HSZ.o).trans C5.o
   clear hb
   simp only[List.getElem?_toArray,List.getElem?_cons_succ,List.getElem?_cons_zero] at d5
   cases gk with
   |zero=>
    have hge: ¬ ((j:Int) <(its.length:Int)):=by omega
    go_wp2
    go_ret
    exact⟨_,rfl,HB.o.trans (HB1.o.mono HB.o.size)⟩
   |succ g=>
    have hlt:(j:Int) <(its.length:Int):=by omega
    by_cases h0:far= 0
    ·subst h0
     go_wp2
     go_ret
     exact⟨_,rfl,HB.o.trans (HB1.o.mono HB.o.size)⟩
    ·have hpos:(0:Int) <(far:Int):=by omega
     have hz2:w.heap.size<=wr.heap.size:=Nat.le_trans HB.o.size HB1.o.size
     obtain⟨y,hy⟩:∃ y,its[j]?= some y:=⟨_,List.getElem?_eq_getElem (by omega)⟩
     obtain⟨b,o,rfl,hbb,hc⟩:=HA.o (by omega)
     obtain⟨cs,hcl,hr,hR⟩:=hc j y hy
     have hB2:=HB.o.trans (HB1.o.mono HB.o.size)
     have HR:=I (zc hr hB2 hbb)
     have HC:=I (IH.o y (List.mem_of_getElem? hy) (far - 1) cs wr (by omega) ((hR.under hB2).more hB2.size))
     have HCL:=I hcl
     have hf1:((far - 1:Nat):Int)=(far:Int) - 1:=by omega
     clear hc hr hR hB2 hy hcl h0
     rw[hf1] at HC
     clear hf1
     go_wp2_with (first|(with_reducible refine za 54 _ rfl ?hw b (o+j*10) cs _ rfl HR.o Tryz.underlying54 rfl ?hi ?_;(case hw=>exact wA rfl);(case hi=>rw[HCL.o];kernel_rfl))|(go_at_call 40;refine HC.o.mono ?_;rintro e w' ⟨z,rfl,hb⟩;have HB2:=I hb;clear hb))
     all_goals
      go_roundg g
      case measure=>omega
      case rel=>exact⟨j+1,_,by omega,by go_num,rfl,HB1.o.trans (HB2.o.mono HB1.o.size)⟩
theorem z8J (t:ET) (cs:List Value) (w:World) (hv:ExpAt w w.heap.size cs t):Calls Tryz.prog 41 #[.agg ⟨cs⟩] w (z4R w):=
 (z8A t cs w hv).mono fun e w' ⟨h,hb⟩=>⟨(cntE t 0:Nat),by omega,by have:=z64 t 0 (by omega);omega,h,hb⟩
theorem z88:∀ (x:ET) (cs:List Value) (w:World),ExpAt w w.heap.size cs x->Calls Tryz.prog 19 #[.agg ⟨cs⟩] w (z4N w):=by
 intro x
 induction x using ET.ind with
 |h k s t ns its ih=>
  intro cs w hv
  have HV:=I hv
  have HCL:=I (eslen hv)
  obtain⟨v0,v1,v2,v3,v4,v5,vn,vi,hcs,_,_,ht,_,hil,hi⟩:=hv.inv
  obtain⟨_,A,c,rfl,hA⟩:=hi
  have HA:=I hA
  have IH:=I ih
  have HT:=I ht
  have HCS:=I hcs
  unfold maxLen at hil
  clear hA hv ih ht hcs
  go_enter Tryz.func19,Tryz.ntmps19
  go_upto_region 1 with (fail)
  have HB:=I (zd w (.cells ⟨cs⟩ 54))
  have HR:=I (zD w cs 54)
  have HSZ:=I (zL w (.cells ⟨cs⟩ 54))
  generalize w.alloc (.cells ⟨cs⟩ 54)= W at*
  have HR2:Hid (∀ z:World,Below W.heap.size W z->z.rangeAt w.heap.size 0 cs/\z.rangeAt w.heap.size 2 [v0,v1,v2,v3,v4,v5]/\z.cell? ⟨w.heap.size,9,none⟩= some (.slice A its.length c)):=I fun z hz=>by
   have hr:=zc HR.o hz HSZ.o
   refine⟨hr,?_,?_⟩
   ·rw[HCS.o] at hr
    exact zb0 (p:=[.int .i64 k,.string s]) (cs:=[v0,v1,v2,v3,v4,v5]) (q:=[vn,.slice A its.length c]) hr 2 rfl
   ·rw[HCS.o] at hr
    exact z1f hr 9 rfl
  have HC:=I (zfA (.mk k s t ns its) 40 cs W (by omega) ((HV.o.under HB.o).more HB.o.size))
  go_wp2_with (first|(with_reducible refine za 54 _ rfl ?hw w.heap.size 0 cs _ rfl HR.o Tryz.underlying54 rfl ?hi ?_;(case hw=>exact wA rfl);(case hi=>rw[HCL.o];kernel_rfl))|(go_at_call 40;fail))
  refine HC.o.mono ?_
  rintro e w2 ⟨z,rfl,hb⟩
  have HB2:=I hb
  have HRZ:=I (HR2.o w2 hb).1
  have HB2':=I (HB.o.trans (hb.mono HB.o.size))
  have HC2:=I (z8J (.mk k s t ns its) cs w2 ((HV.o.under HB2'.o).more HB2'.o.size))
  clear hb HC
  by_cases hz:z<=30
  ·have hz':decide ((30:Int) < z)= false:=by simp;omega
   go_wp2_with (first|(with_reducible refine za 54 _ rfl ?hw w.heap.size 0 cs _ rfl HRZ.o Tryz.underlying54 rfl ?hi ?_;(case hw=>exact wA rfl);(case hi=>rw[HCL.o];kernel_rfl))|(go_at_call 41;fail))
   refine HC2.o.mono ?_
   rintro e w3 ⟨y,hy0,hy1,rfl,hb⟩
   have HB3:=I (HB2.o.trans (hb.mono HB2.o.size))
   have HRY:=I (HR2.o w3 HB3.o).2.1
   have HB3':=I (HB.o.trans (HB3.o.mono HB.o.size))
   have HC3:=I (zbz t [v0,v1,v2,v3,v4,v5] w3 ((HT.o.under HB3'.o).more HB3'.o.size))
   clear hb HC2 HRZ HB2 HB2'
   by_cases hy:y < 500
   ·have hy':decide ((500:Int)<=y)= false:=by simp;omega
    go_wp2_with (first|(with_reducible refine za 52 _ rfl ?hw w.heap.size 2 [v0,v1,v2,v3,v4,v5] _ rfl HRY.o Tryz.underlying52 rfl ?hi ?_;(case hw=>exact wA rfl);(case hi=>kernel_rfl))|(go_at_call 18;fail))
    refine HC3.o.mono ?_
    rintro e w4 ⟨q,rfl,hb⟩
    have HB4:=I (HB3.o.trans (hb.mono HB3.o.size))
    have HB4':=I (HB.o.trans (HB4.o.mono HB.o.size))
    clear hb HC3 HRY HB3 HB3'
    cases q with
    |false=>
     go_wp2
     go_ret
     exact⟨_,rfl,HB4'.o⟩
    |true=>
     go_wp2
     go_loopg [3] its.length (fun g i wr=>∃ j:Nat,j+g= its.length/\i= .int .i64 j/\Below W.heap.size W wr)
     case atStart=>exact⟨0,by omega,rfl,HB4.o⟩
     case round=>
      obtain⟨j,hj,rfl,hb⟩:=hrel
      have HB5:=I hb
      have HB5':=I (HB.o.trans (hb.mono HB.o.size))
      have d9:=(HR2.o wr hb).2.2
      clear hb
      cases gk with
      |zero=>
       have hge: ¬ ((j:Int) <(its.length:Int)):=by omega
       go_wp2
       go_ret
       exact⟨_,rfl,HB5'.o⟩
      |succ g=>
       have hlt:(j:Int) <(its.length:Int):=by omega
       obtain⟨y,hy⟩:∃ y,its[j]?= some y:=⟨_,List.getElem?_eq_getElem (by omega)⟩
       obtain⟨b,o,rfl,hbb,hc⟩:=HA.o (by omega)
       obtain⟨ks,hcl,hr,hR⟩:=hc j y hy
       have HRK:=I (zc hr HB5'.o hbb)
       have HCK:=I (IH.o y (List.mem_of_getElem? hy) ks wr ((hR.under HB5'.o).more HB5'.o.size))
       have HKL:=I hcl
       clear hc hr hR hy hcl
       go_wp2_with (first|(with_reducible refine za 54 _ rfl ?hw b (o+j*10) ks _ rfl HRK.o Tryz.underlying54 rfl ?hi ?_;(case hw=>exact wA rfl);(case hi=>rw[HKL.o];kernel_rfl))|(go_at_call 19;fail))
       refine HCK.o.mono ?_
       rintro e w6 ⟨q,rfl,hb⟩
       have HB6:=I (HB5.o.trans (hb.mono HB5.o.size))
       clear hb
       cases q with
       |false=>
        go_wp2
        go_ret
        exact⟨_,rfl,HB.o.trans (HB6.o.mono HB.o.size)⟩
       |true=>
        go_wp2
        go_roundg g
        case measure=>omega
        case rel=>exact⟨j+1,by omega,by go_num,HB6.o⟩
   ·have hy':decide ((500:Int)<=y)= true:=by simp;omega
    go_wp2
    go_ret
    exact⟨_,rfl,HB3'.o⟩
  ·have hz':decide ((30:Int) < z)= true:=by simp;omega
   go_wp2
   go_ret
   exact⟨_,rfl,HB2'.o⟩
end
section
open Go.RowKit
structure SmallM (m:ModelT):Prop where
 order:m.order.length<=200
 grants:m.grants.length<=200
 vars:m.vars.length<=40
 msgs:m.msgs.length<=40
 nodes:m.nodes.length<=100
 next:∀ (i:Nat) x,m.nodes[i]?= some x->x.next.length<=40/\x.conds.length<=40
def SmallPost (m:ModelT) (w:World) (e:Ending) (w':World):Prop:=∃ b:Bool,e= .returned (.bool b)/\Below w.heap.size w w'/\(b= true->SmallM m)
theorem SmallPost.no {m:ModelT} {w w':World} (h:Below w.heap.size w w'):SmallPost m w (.returned (.bool false)) w':=⟨false,rfl,h,fun h=>by cases h⟩
theorem zf8 (m:ModelT) (cs:List Value) (w:World) (hv:ModelAt w w.heap.size cs m):Calls Tryz.prog 7 #[.agg ⟨cs⟩] w (SmallPost m w):=by
 obtain⟨⟨u1,u2,u3,u4,u5,rfl,hu1,hu2,hu3,hu4,hu5⟩,_⟩:=hv
 obtain⟨hl1,A1,c1,rfl,_⟩:=hu1
 obtain⟨hl2,A2,c2,rfl,_⟩:=hu2
 obtain⟨hl3,A3,c3,rfl,ha3⟩:=hu3
 obtain⟨hl4,A4,c4,rfl,ha4⟩:=hu4
 obtain⟨hl5,A5,c5,rfl,ha5⟩:=hu5
 have HA3:=I ha3
 have HA4:=I ha4
 have HA5:=I ha5
 clear ha3 ha4 ha5
 obtain⟨cs,hcs⟩:∃ cs,cs=[Value.int .i64 m.labels,.slice A1 m.order.length c1,.slice A2 m.grants.length c2,.slice A3 m.vars.length c3,.slice A4 m.msgs.length c4,.slice A5 m.nodes.length c5]:=⟨_,rfl⟩
 rw[← hcs]
 have HCS:=I hcs
 clear hcs
 go_enter Tryz.func7,Tryz.ntmps7
 go_upto_region 1 with (fail)
 have HB:=I (zd w (.cells ⟨cs⟩ 27))
 have HR:=I (zD w cs 27)
 have HSZ:=I (zL w (.cells ⟨cs⟩ 27))
 generalize w.alloc (.cells ⟨cs⟩ 27)= W at*
 rw[HCS.o] at HR
 have HF:Hid (∀ z:World,Below W.heap.size W z->z.cell? ⟨w.heap.size,1,none⟩= some (.slice A1 m.order.length c1)/\z.cell? ⟨w.heap.size,2,none⟩= some (.slice A2 m.grants.length c2)/\z.cell? ⟨w.heap.size,3,none⟩= some (.slice A3 m.vars.length c3)/\
   z.cell? ⟨w.heap.size,4,none⟩= some (.slice A4 m.msgs.length c4)/\z.cell? ⟨w.heap.size,5,none⟩= some (.slice A5 m.nodes.length c5)):=I fun z hz=>by
  have hr:=zc HR.o hz HSZ.o
  exact⟨z1f hr 1 rfl,z1f hr 2 rfl,z1f hr 3 rfl,z1f hr 4 rfl,z1f hr 5 rfl⟩
 obtain⟨d1,d2,d3,d4,d5⟩:=HF.o W (Below.refl _ _)
 have no:∀ {z:World},Below W.heap.size W z->SmallPost m w (.returned (.bool false)) z:=fun h=>SmallPost.no (HB.o.trans (h.mono HB.o.size))
 have NO:Hid (∀ z:World,Below W.heap.size W z->SmallPost m w (.returned (.bool false)) z):=I fun z h=>no h
 clear no HR HCS
 by_cases h1:m.order.length<=200
 ·have t1:decide ((200:Int) < m.order.length)= false:=by simp;omega
  by_cases h2:m.grants.length<=200
  ·have t2:decide ((200:Int) < m.grants.length)= false:=by simp;omega
   by_cases h3:m.vars.length<=40
   ·have t3:decide ((40:Int) < m.vars.length)= false:=by simp;omega
    by_cases h4:m.msgs.length<=40
    ·have t4:decide ((40:Int) < m.msgs.length)= false:=by simp;omega
     by_cases h5:m.nodes.length<=100
     ·have t5:decide ((100:Int) < m.nodes.length)= false:=by simp;omega
      have H1:=I h1
      have H2:=I h2
      have H3:=I h3
      have H4:=I h4
      have H5:=I h5
      clear h1 h2 h3 h4 h5
      go_wp2
      clear t1 t2 t3 t4 t5 d1 d2 d3 d4 d5
      go_loopg [3] m.vars.length (fun g i wr=>∃ j:Nat,j+g= m.vars.length/\i= .int .i64 j/\Below W.heap.size W wr)
      case atStart=>exact⟨0,by omega,rfl,Below.refl _ _⟩
      case round=>
       obtain⟨j,hj,rfl,hb⟩:=hrel
       have HB1:=I hb
       have HB1':=I (HB.o.trans (hb.mono HB.o.size))
       obtain⟨d1,d2,d3,d4,d5⟩:=HF.o wr hb
       clear hb d1 d2 d4 d5
       cases gk with
       |succ g=>
        have hlt:(j:Int) <(m.vars.length:Int):=by omega
        have hle:(m.vars.length:Int)<=40:=by have:=H3.o;omega
        obtain⟨y,hy⟩:∃ y,m.vars[j]?= some y:=⟨_,List.getElem?_eq_getElem (by omega)⟩
        obtain⟨b,o,rfl,hbb,hc⟩:=HA3.o (by omega)
        obtain⟨ks,hcl,hr,hR⟩:=hc j y hy
        have HRK:=I (zc hr HB1'.o hbb)
        have HKL:=I hcl
        have HVA:=I ((hR.under HB1'.o).more HB1'.o.size)
        have HY:=I hy
        clear hc hr hR hy hcl
        go_upto_region 7 with (first|((with_reducible refine za 62 _ rfl ?_ b (o+j*11) ks _ rfl HRK.o Tryz.underlying62 rfl ?_ ?_);exact wA rfl;rw[HKL.o];kernel_rfl)|((with_reducible refine zJ 62 _ _ rfl ?hw wr ?z7 ks ?hwld ?hz ?hx ?hy ?hi ?h1 ?_);(case hwld=>rfl);(case hx=>rfl);(case hy=>rfl);(case hw=>exact wA rfl);(case hz=>rw[HKL.o];rfl);(case hi=>rw[HKL.o];kernel_rfl);(case h1=>exact HVA.o.one);intro Z hbx;have HX:=I hbx;clear hbx))
        have HBZ:=I (HB1.o.trans (HX.o.below.mono HB1.o.size))
        obtain⟨⟨ct,ci,hks,hct,hci,tA,vA⟩,_,_⟩:=HVA.o
        have dn:Z.cell? ⟨wr.heap.size,0,none⟩= some (.string y.name):=HX.o.cell 0 (by rw[hks];rfl)
        have HRS:=I (HX.o.sub (Below.refl _ _) [.string y.name,.int .i64 y.label] ct ci hks 2 rfl)
        have HRV:=I (fun(u:World) (hu:Below Z.heap.size Z u)=>HX.o.sub hu ([.string y.name,.int .i64 y.label] ++ ct) ci [] (by rw[hks];simp) 5 (by simp[hct]))
        have HTA:=I tA
        have HVV:=I vA
        have HCT:=I hct
        have HCI:=I hci
        clear hks hct hci tA vA
        by_cases hn:y.name.size<=300
        ·have tn:decide ((300:Int) <(y.name.size:Int))= false:=by simp;omega
         have HN:=I hn
         clear hn
         go_wp2_with (first|((with_reducible refine za 41 _ rfl ?_ wr.heap.size 2 ct _ rfl HRS.o Tryz.underlying41 rfl ?_ ?_);exact wA rfl;rw[HCT.o];kernel_rfl)|(go_at_call 10;fail))
         refine(z7S _ ct Z ((HTA.o.under HX.o.below).more HX.o.below.size)).mono ?_
         rintro e z ⟨q,rfl,hb⟩
         have HBA:=I (HBZ.o.trans (hb.mono HBZ.o.size))
         have HZ2:=I hb
         clear hb
         cases q with
         |false=>
          go_wp2
          go_ret
          exact NO.o _ (HBA.o)
         |true=>
          clear HRS
          have HRS:=I (HRV.o z HZ2.o)
          have HW2:=I (HX.o.below.trans (HZ2.o.mono HX.o.below.size))
          go_wp2_with (first|((with_reducible refine za 52 _ rfl ?_ wr.heap.size 5 ci _ rfl HRS.o Tryz.underlying52 rfl ?_ ?_);exact wA rfl;rw[HCI.o];kernel_rfl)|(go_at_call 18;fail))
          refine(zbz _ ci z ((HVV.o.under HW2.o).more HW2.o.size)).mono ?_
          rintro e z ⟨q,rfl,hb⟩
          have HBC:=I (HBA.o.trans (hb.mono HBA.o.size))
          have HZ2:=I hb
          clear hb
          cases q with
          |false=>
           go_wp2
           go_ret
           exact NO.o _ (HBC.o)
          |true=>
           go_wp2
           go_roundg g
           case measure=>omega
           case rel=>exact⟨j+1,by omega,by go_num,HBC.o⟩
        ·have tn:decide ((300:Int) <(y.name.size:Int))= true:=by simp;omega
         clear hn
         go_wp2
         go_ret
         exact NO.o _ HBZ.o
       |zero=>
        have hge: ¬ ((j:Int) <(m.vars.length:Int)):=by omega
        go_wp2
        clear hge hj d3
        go_loopg [5] m.msgs.length (fun g i wr=>∃ j:Nat,j+g= m.msgs.length/\i= .int .i64 j/\Below W.heap.size W wr)
        case atStart=>exact⟨0,by omega,rfl,HB1.o⟩
        case round=>
         obtain⟨j,hj,rfl,hb⟩:=hrel
         have HB1:=I hb
         have HB1':=I (HB.o.trans (hb.mono HB.o.size))
         obtain⟨d1,d2,d3,d4,d5⟩:=HF.o wr hb
         clear hb d1 d2 d3 d5
         cases gk with
         |succ g=>
          have hlt:(j:Int) <(m.msgs.length:Int):=by omega
          have hle:(m.msgs.length:Int)<=40:=by have:=H4.o;omega
          obtain⟨y,hy⟩:∃ y,m.msgs[j]?= some y:=⟨_,List.getElem?_eq_getElem (by omega)⟩
          obtain⟨b,o,rfl,hbb,hc⟩:=HA4.o (by omega)
          obtain⟨ks,hcl,hr,hR⟩:=hc j y hy
          have HRK:=I (zc hr HB1'.o hbb)
          have HKL:=I hcl
          have HVA:=I ((hR.under HB1'.o).more HB1'.o.size)
          have HY:=I hy
          clear hc hr hR hy hcl
          go_upto_region 13 with (first|((with_reducible refine za 65 _ rfl ?_ b (o+j*8) ks _ rfl HRK.o Tryz.underlying65 rfl ?_ ?_);exact wA rfl;rw[HKL.o];kernel_rfl)|((with_reducible refine zJ 65 _ _ rfl ?hw wr ?z13 ks ?hwld ?hz ?hx ?hy ?hi ?h1 ?_);(case hwld=>rfl);(case hx=>rfl);(case hy=>rfl);(case hw=>exact wA rfl);(case hz=>rw[HKL.o];rfl);(case hi=>rw[HKL.o];kernel_rfl);(case h1=>exact HVA.o.one);intro Z hbx;have HX:=I hbx;clear hbx))
          have HBZ:=I (HB1.o.trans (HX.o.below.mono HB1.o.size))
          obtain⟨⟨ct,ci,hks,hct,hci,tA,vA⟩,_,_⟩:=HVA.o
          have dn:Z.cell? ⟨wr.heap.size,0,none⟩= some (.string y.name):=HX.o.cell 0 (by rw[hks];rfl)
          have HRS:=I (HX.o.sub (Below.refl _ _) [.string y.name,.int .i64 y.label] ct ci hks 2 rfl)
          have HRV:=I (fun(u:World) (hu:Below Z.heap.size Z u)=>HX.o.sub hu ([.string y.name,.int .i64 y.label] ++ ct) ci [] (by rw[hks];simp) 5 (by simp[hct]))
          have HTA:=I tA
          have HVV:=I vA
          have HCT:=I hct
          have HCI:=I hci
          clear hks hct hci tA vA
          by_cases hn:y.name.size<=300
          ·have tn:decide ((300:Int) <(y.name.size:Int))= false:=by simp;omega
           have HN:=I hn
           clear hn
           go_wp2_with (first|((with_reducible refine za 41 _ rfl ?_ wr.heap.size 2 ct _ rfl HRS.o Tryz.underlying41 rfl ?_ ?_);exact wA rfl;rw[HCT.o];kernel_rfl)|(go_at_call 10;fail))
           refine(z7S _ ct Z ((HTA.o.under HX.o.below).more HX.o.below.size)).mono ?_
           rintro e z ⟨q,rfl,hb⟩
           have HBA:=I (HBZ.o.trans (hb.mono HBZ.o.size))
           have HZ2:=I hb
           clear hb
           cases q with
           |false=>
            go_wp2
            go_ret
            exact NO.o _ (HBA.o)
           |true=>
            clear HRS
            have HRS:=I (HRV.o z HZ2.o)
            have HW2:=I (HX.o.below.trans (HZ2.o.mono HX.o.below.size))
            go_wp2_with (first|((with_reducible refine za 41 _ rfl ?_ wr.heap.size 5 ci _ rfl HRS.o Tryz.underlying41 rfl ?_ ?_);exact wA rfl;rw[HCI.o];kernel_rfl)|(go_at_call 10;fail))
            refine(z7S _ ci z ((HVV.o.under HW2.o).more HW2.o.size)).mono ?_
            rintro e z ⟨q,rfl,hb⟩
            have HBC:=I (HBA.o.trans (hb.mono HBA.o.size))
            have HZ2:=I hb
            clear hb
            cases q with
            |false=>
             go_wp2
             go_ret
             exact NO.o _ (HBC.o)
            |true=>
             go_wp2
             go_roundg g
             case measure=>omega
             case rel=>exact⟨j+1,by omega,by go_num,HBC.o⟩
          ·have tn:decide ((300:Int) <(y.name.size:Int))= true:=by simp;omega
           clear hn
           go_wp2
           go_ret
           exact NO.o _ HBZ.o
         |zero=>
          have hge: ¬ ((j:Int) <(m.msgs.length:Int)):=by omega
          go_wp2
          clear hge hj d4
          go_loopg [7] m.nodes.length (fun g i wr=>∃ j:Nat,j+g= m.nodes.length/\i= .int .i64 j/\Below W.heap.size W wr/\∀ (q:Nat) x,q < j->m.nodes[q]?= some x->x.next.length<=40/\x.conds.length<=40)
          case atStart=>exact⟨0,by omega,rfl,HB1.o,fun q x hq=>by omega⟩
          case round=>
           obtain⟨j,hj,rfl,hb,hall⟩:=hrel
           have HB1:=I hb
           have HB1':=I (HB.o.trans (hb.mono HB.o.size))
           obtain⟨d1,d2,d3,d4,d5⟩:=HF.o wr hb
           clear hb d1 d2 d3 d4
           have HALL:=I hall
           clear hall
           cases gk with
           |succ g=>
            have hlt:(j:Int) <(m.nodes.length:Int):=by omega
            have hle:(m.nodes.length:Int)<=100:=by have:=H5.o;omega
            obtain⟨y,hy⟩:∃ y,m.nodes[j]?= some y:=⟨_,List.getElem?_eq_getElem (by omega)⟩
            obtain⟨b,o,rfl,hbb,hc⟩:=HA5.o (by omega)
            obtain⟨ks,hcl,hr,hR⟩:=hc j y hy
            have HRK:=I (zc hr HB1'.o hbb)
            have HKL:=I hcl
            have HVA:=I ((hR.under HB1'.o).more HB1'.o.size)
            have HY:=I hy
            clear hc hr hR hy hcl
            go_upto_region 19 with (first|((with_reducible refine za 56 _ rfl ?_ b (o+j*29) ks _ rfl HRK.o Tryz.underlying56 rfl ?_ ?_);exact wA rfl;rw[HKL.o];kernel_rfl)|((with_reducible refine zJ 56 _ _ rfl ?hw wr ?z19 ks ?hwld ?hz ?hx ?hy ?hi ?h1 ?_);(case hwld=>rfl);(case hx=>rfl);(case hy=>rfl);(case hw=>exact wA rfl);(case hz=>rw[HKL.o];rfl);(case hi=>rw[HKL.o];kernel_rfl);(case h1=>exact HVA.o.one);intro Z hbx;have HX:=I hbx;clear hbx))
            have HBZ:=I (HB1.o.trans (HX.o.below.mono HB1.o.size))
            obtain⟨⟨vn,vc,ce,cb,hks,hce,hcb,hnx,hcn,_,eA,bA⟩,_⟩:=HVA.o
            obtain⟨_,NA,nc,rfl,_⟩:=hnx
            have HCN:=I hcn
            obtain⟨_,CA,cc,rfl,hca⟩:=hcn
            have HCA:=I hca
            have HEA:=I eA
            have HBA:=I bA
            have dn:Z.cell? ⟨wr.heap.size,2,none⟩= some (.slice NA y.next.length nc):=HX.o.cell 2 (by rw[hks];rfl)
            have HDC:=I (fun(u:World) (hu:Below Z.heap.size Z u)=>(HX.o.cell' hu 3 (by rw[hks];rfl):u.cell? ⟨wr.heap.size,3,none⟩= some (.slice CA y.conds.length cc)))
            have dc:=HDC.o Z (Below.refl _ _)
            have HRE:=I (fun(u:World) (hu:Below Z.heap.size Z u)=>HX.o.sub hu [.int .i64 y.kind,.int .i64 y.label,.slice NA y.next.length nc,.slice CA y.conds.length cc] ce (cb ++ [.int .i64 y.var,.int .i64 y.msg,.int .i64 y.catch_,.int .i64 y.wait,.int .i64 y.from_]) (by rw[hks];simp) 4 rfl)
            have HRB:=I (fun(u:World) (hu:Below Z.heap.size Z u)=>HX.o.sub hu ([.int .i64 y.kind,.int .i64 y.label,.slice NA y.next.length nc,.slice CA y.conds.length cc] ++ ce) cb [.int .i64 y.var,.int .i64 y.msg,.int .i64 y.catch_,.int .i64 y.wait,.int .i64 y.from_] (by rw[hks]) 14 (by simp[hce]))
            have HCE:=I hce
            have HCB:=I hcb
            clear hks hce hcb eA bA hca
            by_cases h1:y.next.length<=40
            ·have t1:decide ((40:Int) <(y.next.length:Int))= false:=by simp;omega
             have HN1:=I h1
             clear h1
             by_cases h2:y.conds.length<=40
             ·have t2:decide ((40:Int) <(y.conds.length:Int))= false:=by simp;omega
              have HN2:=I h2
              clear h2
              have HRS:=I (HRE.o Z (Below.refl _ _))
              go_wp2_with (first|((with_reducible refine za 54 _ rfl ?_ wr.heap.size 4 ce _ rfl HRS.o Tryz.underlying54 rfl ?_ ?_);exact wA rfl;rw[HCE.o];kernel_rfl)|(go_at_call 19;fail))
              refine(z88 _ ce Z ((HEA.o.under HX.o.below).more HX.o.below.size)).mono ?_
              rintro e z ⟨q,rfl,hb⟩
              have HBG:=I (HBZ.o.trans (hb.mono HBZ.o.size))
              have HZ2:=I hb
              clear hb
              cases q with
              |false=>
               go_wp2
               go_ret
               exact NO.o _ (HBG.o)
              |true=>
               clear HRS dc dn
               have HRS:=I (HRB.o z HZ2.o)
               have HW2:=I (HX.o.below.trans (HZ2.o.mono HX.o.below.size))
               have HQ1:=I HZ2.o
               clear HZ2
               go_wp2_with (first|((with_reducible refine za 54 _ rfl ?_ wr.heap.size 14 cb _ rfl HRS.o Tryz.underlying54 rfl ?_ ?_);exact wA rfl;rw[HCB.o];kernel_rfl)|(go_at_call 19;fail))
               refine(z88 _ cb z ((HBA.o.under HW2.o).more HW2.o.size)).mono ?_
               rintro e z ⟨q,rfl,hb⟩
               have HBH:=I (HBG.o.trans (hb.mono HBG.o.size))
               have HZ2:=I hb
               clear hb
               cases q with
               |false=>
                go_wp2
                go_ret
                exact NO.o _ (HBH.o)
               |true=>
                have HQ2:=I (HQ1.o.trans (HZ2.o.mono HQ1.o.size))
                clear HRS HZ2 HQ1 HW2 HRE HRB t1 t2
                go_wp2
                go_loopg [9] y.conds.length (fun g i u=>∃ t:Nat,t+g= y.conds.length/\i= .int .i64 t/\Below Z.heap.size Z u)
                case atStart=>exact⟨0,by omega,rfl,HQ2.o⟩
                case round=>
                 obtain⟨t,ht,rfl,hu⟩:=hrel
                 have HU:=I hu
                 have HU':=I (HBZ.o.trans (hu.mono HBZ.o.size))
                 have dc:=HDC.o wr hu
                 clear hu
                 cases gk with
                 |zero=>
                  have hge: ¬ ((t:Int) <(y.conds.length:Int)):=by omega
                  go_wp2
                  go_roundg g
                  case measure=>omega
                  case rel=>
                   refine⟨j+1,by omega,by go_num,HU'.o,fun q x hq hx=> ?_⟩
                   by_cases e:q= j
                   ·subst e
                    have:x= y:=Option.some.inj (hx.symm.trans HY.o)
                    subst this
                    exact⟨HN1.o,HN2.o⟩
                   ·exact HALL.o q x (by omega) hx
                 |succ g2=>
                  have hlt2:(t:Int) <(y.conds.length:Int):=by omega
                  have hle2:(y.conds.length:Int)<=40:=by have:=HN2.o;omega
                  obtain⟨x,hx⟩:∃ x,y.conds[t]?= some x:=⟨_,List.getElem?_eq_getElem (by omega)⟩
                  obtain⟨bc,oc,rfl,hbc,hcc⟩:=HCA.o (by omega)
                  obtain⟨es,hel,her,heR⟩:=hcc t x hx
                  have hZU:=HX.o.below.trans (HU.o.mono HX.o.below.size)
                  have HRS:=I (zc her hZU hbc)
                  have HEL:=I hel
                  have HEV:=I ((heR.under hZU).more hZU.size)
                  clear hcc her heR hx hel hZU
                  go_wp2_with (first|((with_reducible refine za 54 _ rfl ?_ bc (oc+t*10) es _ rfl HRS.o Tryz.underlying54 rfl ?_ ?_);exact wA rfl;rw[HEL.o];kernel_rfl)|(go_at_call 19;fail))
                  refine(z88 _ es _ HEV.o).mono ?_
                  rintro e z2 ⟨q,rfl,hb⟩
                  have HU2:=I (HU.o.trans (hb.mono HU.o.size))
                  clear hb
                  cases q with
                  |false=>
                   go_wp2
                   go_ret
                   exact NO.o _ (HBZ.o.trans (HU2.o.mono HBZ.o.size))
                  |true=>
                   go_wp2
                   go_roundg g2
                   case measure=>omega
                   case rel=>exact⟨t+1,by omega,by go_num,HU2.o⟩
             ·have t2:decide ((40:Int) <(y.conds.length:Int))= true:=by simp;omega
              clear h2
              go_wp2
              go_ret
              exact NO.o _ HBZ.o
            ·have t1:decide ((40:Int) <(y.next.length:Int))= true:=by simp;omega
             clear h1
             go_wp2
             go_ret
             exact NO.o _ HBZ.o
           |zero=>
            have hge: ¬ ((j:Int) <(m.nodes.length:Int)):=by omega
            go_wp2
            go_ret
            exact⟨true,rfl,HB1'.o,fun _=>⟨H1.o,H2.o,H3.o,H4.o,H5.o,fun i x hx=>HALL.o i x (by have:=(List.getElem?_eq_some_iff.1 hx).1;omega) hx⟩⟩
     ·have t5:decide ((100:Int) < m.nodes.length)= true:=by simp;omega
      clear h1 h2 h3 h4 h5
      go_wp2
      go_ret
      exact NO.o _ (Below.refl _ _)
    ·have t4:decide ((40:Int) < m.msgs.length)= true:=by simp;omega
     clear h1 h2 h3 h4
     go_wp2
     go_ret
     exact NO.o _ (Below.refl _ _)
   ·have t3:decide ((40:Int) < m.vars.length)= true:=by simp;omega
    clear h1 h2 h3
    go_wp2
    go_ret
    exact NO.o _ (Below.refl _ _)
  ·have t2:decide ((200:Int) < m.grants.length)= true:=by simp;omega
   clear h1 h2
   go_wp2
   go_ret
   exact NO.o _ (Below.refl _ _)
 ·have t1:decide ((200:Int) < m.order.length)= true:=by simp;omega
  clear h1
  go_wp2
  go_ret
  exact NO.o _ (Below.refl _ _)
end
end Go.Proofs.YtdjfpcmlffekkaaGreatDoor
