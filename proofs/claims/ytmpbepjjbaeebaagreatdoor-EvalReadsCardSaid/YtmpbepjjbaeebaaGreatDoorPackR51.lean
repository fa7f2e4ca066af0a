/- Parts of a proof: Typ, RTyp, RSmallE, Rows4. -/
import Derived.Test.YtmpbepjjbaeebaaGreatDoorPackR8
import Derived.Test.YtmpbepjjbaeebaaGreatDoorPackR9
import Derived.Test.YtmpbepjjbaeebaaGreatDoorPackR14
import Derived.Test.YtmpbepjjbaeebaaGreatDoorPackR50
set_option maxHeartbeats 8000000
set_option maxRecDepth 100000
set_option linter.unusedVariables false
set_option linter.unusedSimpArgs false
section
namespace Go.Proofs.YtmpbepjjbaeebaaGreatDoor
open Go Go.RowKit
open Go.Lib (hid)
theorem TypAt.next {w w':World} {cs:List Value} {t:TT} (h:TypAt w w.heap.size cs t) (hb:Below w.heap.size w w'):TypAt w' w'.heap.size cs t:=(h.under hb).more hb.size
theorem z8g {w:World} {v:Value} {l:List TT} (h:SlAt w w.heap.size 3 (TypAt w w.heap.size) v l):∃ A c,v= .slice A l.length c∧l.length≤9223372036854775807∧
  (0 < l.length→∃ b o,A= some ⟨b,o,none⟩∧b < w.heap.size∧∀ (i:Nat) x,l[i]?= some x→∃ cs:List Value,w.rangeAt b (o+i*3) cs∧TypAt w w.heap.size cs x):=by
 obtain⟨h0,A,c,h1,h2⟩:=h
 refine⟨A,c,h1,h0,fun hp=> ?_⟩
 obtain⟨b,o,h3,h4,h5⟩:=h2 hp
 refine⟨b,o,h3,h4,fun i x hx=> ?_⟩
 obtain⟨cs,_,h7,h8⟩:=h5 i x hx
 exact⟨cs,h7,h8⟩
theorem z3M {w:World} {B:Nat} {cs:List Value} {t:TT} (h:TypAt w B cs t):cs.length= 3∧∀ u∈cs,u.oneCell'= true:=by
 cases t with
 |mk k ns its=>
  have h9:=h.one
  obtain⟨vn,vi,rfl,_,h1,_,h2⟩:=h.inv
  exact⟨rfl,h9⟩
mutual
def cntT:TT→Nat→Nat
 | .mk _ _ its,n=>cntTL its (n+1)
def cntTL:List TT→Nat→Nat
 |[],n=>n
 |a::l,n=>if 500≤n then n else cntTL l (cntT a n)
end
theorem z6r:∀ (l:List TT) (n:Nat),(∀ x∈l,∀ m,m < 500→cntT x m≤500)→n≤500→cntTL l n≤500
 |[],n,_,h=>by rw[cntTL];exact h
 |a::l,n,h,hn=>by
  rw[cntTL]
  split
  ·exact hn
  ·exact z6r l _ (fun x hx=>h x (List.mem_cons_of_mem _ hx)) (h a (List.mem_cons_self ..) n (by omega))
theorem zc6 (t:TT):∀ m,m < 500→cntT t m≤500:=by
 induction t using TT.ind with
 |h k ns its ih=>exact fun m hm=>by rw[cntT];exact z6r its _ ih (by omega)
theorem z8V {l:List TT} {k m:Nat} {x:TT} (h:l[k]?= some x):cntTL (l.drop k) m= if 500≤m then m else cntTL (l.drop (k+1)) (cntT x m):=by
 rw[z0m h,cntTL]
theorem z9P {l:List TT} {m:Nat}:cntTL (l.drop l.length) m= m:=by
 rw[List.drop_eq_nil_of_le (Nat.le_refl _),cntTL]
end Go.Proofs.YtmpbepjjbaeebaaGreatDoor
end
section
namespace Go.Proofs.YtmpbepjjbaeebaaGreatDoor
open Go Go.RowKit
open Go.Lib (hid)
theorem zdu:∀ (x:TT) (far:Nat) (cs:List Value) (w:World),far≤40→TypAt w w.heap.size cs x→Calls Tryz.prog 50 #[.agg ⟨cs⟩,.int .i64 far] w (z5v w):=by
 intro x
 induction x using TT.ind with
 |h k ns its ih=>
  intro far cs w hfar hv
  obtain⟨vn,vi,rfl,_,_,_,hi⟩:=hv.inv
  obtain⟨A,c,rfl,hil,hA⟩:=z8g hi
  have HA:=hid hA
  have IH:=hid ih
  clear hA hv ih hi
  go_enter Tryz.func50,Tryz.ntmps50
  go_upto_region 1 with (fail)
  have hb0:=zc w (.cells ⟨[.int .i64 k,vn,.slice A its.length c]⟩ 45)
  have hz0:=zw w (.cells ⟨[.int .i64 k,vn,.slice A its.length c]⟩ 45)
  have c5:=zp w ⟨[.int .i64 k,vn,.slice A its.length c]⟩ 45 2
  generalize w.alloc (.cells ⟨[.int .i64 k,vn,.slice A its.length c]⟩ 45)= W at*
  have HB:=hid hb0
  have C5:=hid c5
  have HSZ:=hid hz0
  clear hb0 c5 hz0
  go_wp2
  go_loopg [5,6] its.length (fun g m i wr=>∃ (j:Nat) (x:Int),j+g= its.length∧i= .int .i64 j∧m= .int .i64 x∧Below W.heap.size W wr)
  case atStart=>exact⟨0,0,by omega,rfl,rfl,Below.refl _ _⟩
  case round=>
   obtain⟨j,x,hj,rfl,rfl,hb⟩:=hrel
   have HB1:=hid hb
   have d5:=(hb.cell (p:=⟨w.heap.size,2,none⟩) HSZ.out).trans C5.out
   clear hb
   simp only[List.getElem?_toArray,List.getElem?_cons_succ,List.getElem?_cons_zero] at d5
   cases gk with
   |zero=>
    have hge: ¬ ((j:Int) <(its.length:Int)):=by omega
    go_wp2
    go_ret
    exact⟨_,rfl,HB.out.trans (HB1.out.mono HB.out.size)⟩
   |succ g=>
    have hlt:(j:Int) <(its.length:Int):=by omega
    by_cases h0:far= 0
    ·subst h0
     go_wp2
     go_ret
     exact⟨_,rfl,HB.out.trans (HB1.out.mono HB.out.size)⟩
    ·have hpos:(0:Int) <(far:Int):=by omega
     obtain⟨y,hy⟩:∃ y,its[j]?= some y:=⟨_,List.getElem?_eq_getElem (by omega)⟩
     obtain⟨b,o,rfl,hbb,hc⟩:=HA.out (by omega)
     obtain⟨cs,hr,hR⟩:=hc j y hy
     have hB2:=HB.out.trans (HB1.out.mono HB.out.size)
     have HR:=hid (zd hr hB2 hbb)
     have HC:=hid (IH.out y (List.mem_of_getElem? hy) (far - 1) cs wr (by omega) (hR.next hB2))
     have HCL:=hid (z3M hR)
     have hf1:((far - 1:Nat):Int)=(far:Int) - 1:=by omega
     clear hc hr hR hB2 hy h0
     rw[hf1] at HC
     clear hf1
     go_wp2_with (first|((with_reducible refine z8 45 _ rfl ?hwa b (o+j*3) cs _ rfl HR.out Tryz.underlying45 rfl ?hia ?_);(case hwa=>(exact wantA rfl));(case hia=>rw[HCL.out.1];kernel_rfl))|(go_at_call 50;refine HC.out.mono ?_;rintro e w' ⟨z,rfl,hb⟩;have HB2:=hid hb;clear hb))
     all_goals
      go_roundg g
      case measure=>omega
      case rel=>exact⟨j+1,_,by omega,by go_num,rfl,HB1.out.trans (HB2.out.mono HB1.out.size)⟩
theorem z8H:∀ (t:TT) (m:Nat) (cs:List Value) (w:World),m < 500→TypAt w w.heap.size cs t→
  Calls Tryz.prog 88 #[.agg ⟨cs⟩,.int .i64 m] w fun e w'=>e= .returned (.int .i64 (cntT t m:Nat))∧Below w.heap.size w w':=by
 intro t
 induction t using TT.ind with
 |h k ns its ih=>
  intro m cs w hm hv
  have IH:=hid ih
  obtain⟨vn,vi,rfl,_,_,_,hi⟩:=hv.inv
  obtain⟨A,c,rfl,hil,hA⟩:=z8g hi
  have HA:=hid hA
  have HS:=hid (fun k m x=>z8V (l:=its) (k:=k) (m:=m) (x:=x))
  have HE:=hid (fun m=>z9P (l:=its) (m:=m))
  have HLE:=hid (fun x m hm=>zc6 x m hm)
  have HCE:Hid (∀ k m,500≤m→cntTL (its.drop k) m= m):=hid (fun k m h=>by
   cases its.drop k with
   |nil=>rw[cntTL]
   |cons a l=>rw[cntTL,if_pos h])
  have H0:Hid (cntTL (its.drop 0) (m+1)= cntT (.mk k ns its) m):=hid (by rw[cntT];rfl)
  clear ih hi hA hv
  generalize cntT (.mk k ns its) m= res at*
  go_enter Tryz.func88,Tryz.ntmps88
  go_upto_region 1 with (fail)
  have hb0:=zc w (.cells ⟨[.int .i64 k,vn,.slice A its.length c]⟩ 45)
  have hz0:=zw w (.cells ⟨[.int .i64 k,vn,.slice A its.length c]⟩ 45)
  have c5:=zp w ⟨[.int .i64 k,vn,.slice A its.length c]⟩ 45 2
  generalize w.alloc (.cells ⟨[.int .i64 k,vn,.slice A its.length c]⟩ 45)= W at*
  have HB:=hid hb0
  have C5:=hid c5
  have HSZ:=hid hz0
  clear hb0 c5 hz0
  have hm2:(m:Int) < 500:=by omega
  go_wp2
  go_loopg [1,5] its.length (fun g u i wr=>∃ (j m:Nat),j+g= its.length∧i= .int .i64 j∧u= .int .i64 m∧m≤500∧Below W.heap.size W wr∧cntTL (its.drop j) m= res)
  case atStart=>exact⟨0,m+1,by omega,rfl,by go_num,by omega,Below.refl _ _,H0.out⟩
  case round=>
   obtain⟨j,m,hj,rfl,rfl,hm5,hb,hres⟩:=hrel
   have HB1:=hid hb
   have HR:=hid hres
   have d5:=(hb.cell (p:=⟨w.heap.size,2,none⟩) HSZ.out).trans C5.out
   clear hb hres
   simp only[List.getElem?_toArray,List.getElem?_cons_succ,List.getElem?_cons_zero] at d5
   have hm5':(m:Int)≤500:=by omega
   cases gk with
   |zero=>
    obtain rfl:j= its.length:=by omega
    have hge: ¬ ((its.length:Int) <(its.length:Int)):=by omega
    have HV:=hid (HR.out.symm.trans (HE.out m))
    go_wp2
    go_ret
    exact⟨by rw[HV.out];go_num,HB.out.trans (HB1.out.mono HB.out.size)⟩
   |succ g=>
    have hlt:(j:Int) <(its.length:Int):=by omega
    by_cases h0:m < 500
    ·obtain⟨y,hy⟩:∃ y,its[j]?= some y:=⟨_,List.getElem?_eq_getElem (by omega)⟩
     obtain⟨b,o,rfl,hbb,hc⟩:=HA.out (by omega)
     obtain⟨cs,hr,hR⟩:=hc j y hy
     have hB2:=HB.out.trans (HB1.out.mono HB.out.size)
     have HV:=hid (HR.out.symm.trans (HS.out j m y hy))
     have HV2:=hid (HV.out.trans (if_neg (by omega)))
     have HR1:=hid (zd hr hB2 hbb)
     have HC:=hid (IH.out y (List.mem_of_getElem? hy) m cs wr h0 (hR.next hB2))
     have HCL:=hid (z3M hR)
     have hle:=HLE.out y m h0
     have h0':(m:Int) < 500:=by omega
     clear hc hr hR hB2 hy HV h0
     go_wp2_with (first|((with_reducible refine z8 45 _ rfl ?hwa b (o+j*3) cs _ rfl HR1.out Tryz.underlying45 rfl ?hia ?_);(case hwa=>(exact wantA rfl));(case hia=>rw[HCL.out.1];kernel_rfl))|(go_at_call 88;refine HC.out.mono ?_;rintro e w' ⟨rfl,hb⟩;have HB2:=hid hb;clear hb))
     go_roundg g
     case measure=>omega
     case rel=>exact⟨j+1,_,by omega,by go_num,rfl,hle,HB1.out.trans (HB2.out.mono HB1.out.size),HV2.out.symm⟩
    ·have HV:=hid (HR.out.symm.trans (HCE.out j m (by omega)))
     have h0': ¬ ((m:Int) < 500):=by omega
     have hm500:m= 500:=by omega
     go_wp2
     all_goals
      go_ret
      exact⟨by rw[HV.out,hm500];rfl,HB.out.trans (HB1.out.mono HB.out.size)⟩
theorem z93 (t:TT) (cs:List Value) (w:World) (hv:TypAt w w.heap.size cs t):Calls Tryz.prog 51 #[.agg ⟨cs⟩] w fun e w'=>e= .returned (.int .i64 (cntT t 0:Nat))∧Below w.heap.size w w':=by
 have HCL:=hid (z3M hv)
 have HV:=hid hv
 clear hv
 go_enter Tryz.func51,Tryz.ntmps51
 go_upto_region 1 with (fail)
 have HB:=hid (zc w (.cells ⟨cs⟩ 45))
 have HR:=hid (zq w cs 45)
 generalize w.alloc (.cells ⟨cs⟩ 45)= W at*
 have HC:=hid (z8H t 0 cs W (by omega) (HV.out.next HB.out))
 go_wp2_with (first|((with_reducible refine z8 45 _ rfl ?hwa w.heap.size 0 cs _ rfl HR.out Tryz.underlying45 rfl ?hia ?_);(case hwa=>(exact wantA rfl));(case hia=>rw[HCL.out.1];kernel_rfl))|(go_at_call 88;refine HC.out.mono ?_;rintro e w' ⟨rfl,hb⟩;have HB2:=hid hb;clear hb))
 go_ret
 exact⟨rfl,HB.out.trans (HB2.out.mono HB.out.size)⟩
theorem zdz (x:TT) (cs:List Value) (w:World) (hv:TypAt w w.heap.size cs x):Calls Tryz.prog 28 #[.agg ⟨cs⟩] w (z4D w):=by
 have HCL:=hid (z3M hv)
 have HV:=hid hv
 clear hv
 go_enter Tryz.func28,Tryz.ntmps28
 go_upto_region 1 with (fail)
 have HB:=hid (zc w (.cells ⟨cs⟩ 45))
 have HR:=hid (zq w cs 45)
 have HSZ:=hid (zw w (.cells ⟨cs⟩ 45))
 generalize w.alloc (.cells ⟨cs⟩ 45)= W at*
 have HC:=hid (zdu x 40 cs W (by omega) (HV.out.next HB.out))
 go_wp2_with (first|((with_reducible refine z8 45 _ rfl ?hwa w.heap.size 0 cs _ rfl HR.out Tryz.underlying45 rfl ?hia ?_);(case hwa=>(exact wantA rfl));(case hia=>rw[HCL.out.1];kernel_rfl))|(go_at_call 50;fail))
 refine HC.out.mono ?_
 rintro e w2 ⟨z,rfl,hb⟩
 have HB2:=hid (HB.out.trans (hb.mono HB.out.size))
 have HR2:=hid (zd HR.out hb HSZ.out)
 have HC2:=hid (z93 x cs w2 (HV.out.next HB2.out))
 clear hb HC
 by_cases hz:z≤30
 ·go_wp2_with (first|((with_reducible refine z8 45 _ rfl ?hwc w.heap.size 0 cs _ rfl HR2.out Tryz.underlying45 rfl ?hic ?_);(case hwc=>(exact wantA rfl));(case hic=>rw[HCL.out.1];kernel_rfl))|(go_at_call 51;refine HC2.out.mono ?_;rintro e w' ⟨rfl,hb⟩;have HB3:=hid hb;clear hb))
  all_goals
   go_ret
   exact⟨_,rfl,HB2.out.trans (HB3.out.mono HB2.out.size)⟩
 ·go_wp2
  all_goals
   go_ret
   exact⟨_,rfl,HB2.out⟩
end Go.Proofs.YtmpbepjjbaeebaaGreatDoor
end
section
namespace Go.Proofs.YtmpbepjjbaeebaaGreatDoor
open Go Go.RowKit
open Go.Lib (hid)
theorem zdR:∀ (x:ET) (far:Nat) (cs:List Value) (w:World),far≤40→ExpAt w w.heap.size cs x→Calls Tryz.prog 24 #[.agg ⟨cs⟩,.int .i64 far] w (z5v w):=by
 intro x
 induction x using ET.ind with
 |h k s t ns its ih=>
  intro far cs w hfar hv
  obtain⟨v0,v1,v2,v3,v4,v5,vn,vi,rfl,_,_,_,_,hil,hi⟩:=hv.inv
  obtain⟨_,A,c,rfl,hA⟩:=hi
  have HA:=hid hA
  have IH:=hid ih
  unfold maxLen at hil
  clear hA hv ih
  go_enter Tryz.func24,Tryz.ntmps24
  go_upto_region 1 with (fail)
  have hb0:=zc w (.cells ⟨[.int .i64 k,.string s,v0,v1,v2,v3,v4,v5,vn,.slice A its.length c]⟩ 29)
  have hz0:=zw w (.cells ⟨[.int .i64 k,.string s,v0,v1,v2,v3,v4,v5,vn,.slice A its.length c]⟩ 29)
  have c5:=zp w ⟨[.int .i64 k,.string s,v0,v1,v2,v3,v4,v5,vn,.slice A its.length c]⟩ 29 9
  generalize w.alloc (.cells ⟨[.int .i64 k,.string s,v0,v1,v2,v3,v4,v5,vn,.slice A its.length c]⟩ 29)= W at*
  have HB:=hid hb0
  have C5:=hid c5
  have HSZ:=hid hz0
  clear hb0 c5 hz0
  go_wp2
  go_loopg [5,6] its.length (fun g m i wr=>∃ (j:Nat) (x:Int),j+g= its.length∧i= .int .i64 j∧m= .int .i64 x∧Below W.heap.size W wr)
  case atStart=>exact⟨0,0,by omega,rfl,rfl,Below.refl _ _⟩
  case round=>
   obtain⟨j,x,hj,rfl,rfl,hb⟩:=hrel
   have HB1:=hid hb
   have d5:=(hb.cell (p:=⟨w.heap.size,9,none⟩) HSZ.out).trans C5.out
   clear hb
   simp only[List.getElem?_toArray,List.getElem?_cons_succ,List.getElem?_cons_zero] at d5
   cases gk with
   |zero=>
    have hge: ¬ ((j:Int) <(its.length:Int)):=by omega
    go_wp2
    go_ret
    exact⟨_,rfl,HB.out.trans (HB1.out.mono HB.out.size)⟩
   |succ g=>
    have hlt:(j:Int) <(its.length:Int):=by omega
    by_cases h0:far= 0
    ·subst h0
     go_wp2
     go_ret
     exact⟨_,rfl,HB.out.trans (HB1.out.mono HB.out.size)⟩
    ·have hpos:(0:Int) <(far:Int):=by omega
     have hz2:w.heap.size≤wr.heap.size:=Nat.le_trans HB.out.size HB1.out.size
     obtain⟨y,hy⟩:∃ y,its[j]?= some y:=⟨_,List.getElem?_eq_getElem (by omega)⟩
     obtain⟨b,o,rfl,hbb,hc⟩:=HA.out (by omega)
     obtain⟨cs,hcl,hr,hR⟩:=hc j y hy
     have hB2:=HB.out.trans (HB1.out.mono HB.out.size)
     have HR:=hid (zd hr hB2 hbb)
     have HC:=hid (IH.out y (List.mem_of_getElem? hy) (far - 1) cs wr (by omega) ((hR.under hB2).more hB2.size))
     have HCL:=hid hcl
     have hf1:((far - 1:Nat):Int)=(far:Int) - 1:=by omega
     clear hc hr hR hB2 hy hcl h0
     rw[hf1] at HC
     clear hf1
     go_wp2_with (first|(with_reducible refine z8 29 _ rfl ?hw b (o+j*10) cs _ rfl HR.out Tryz.underlying29 rfl ?hi ?_;(case hw=>exact wantA rfl);(case hi=>rw[HCL.out];kernel_rfl))|(go_at_call 24;refine HC.out.mono ?_;rintro e w' ⟨z,rfl,hb⟩;have HB2:=hid hb;clear hb))
     all_goals
      go_roundg g
      case measure=>omega
      case rel=>exact⟨j+1,_,by omega,by go_num,rfl,HB1.out.trans (HB2.out.mono HB1.out.size)⟩
theorem z89 (t:ET) (cs:List Value) (w:World) (hv:ExpAt w w.heap.size cs t):Calls Tryz.prog 25 #[.agg ⟨cs⟩] w (z4o w):=
 (z48 t cs w hv).mono fun e w' ⟨h,hb⟩=>⟨(cntE t 0:Nat),by omega,by have:=z5m t 0 (by omega);omega,h,hb⟩
theorem zdh:∀ (x:ET) (cs:List Value) (w:World),ExpAt w w.heap.size cs x→Calls Tryz.prog 11 #[.agg ⟨cs⟩] w (z4D w):=by
 intro x
 induction x using ET.ind with
 |h k s t ns its ih=>
  intro cs w hv
  have HV:=hid hv
  have HCL:=hid (eslen hv)
  obtain⟨v0,v1,v2,v3,v4,v5,vn,vi,hcs,_,_,ht,_,hil,hi⟩:=hv.inv
  obtain⟨_,A,c,rfl,hA⟩:=hi
  have HA:=hid hA
  have IH:=hid ih
  have HT:=hid ht
  have HCS:=hid hcs
  unfold maxLen at hil
  clear hA hv ih ht hcs
  go_enter Tryz.func11,Tryz.ntmps11
  go_upto_region 1 with (fail)
  have HB:=hid (zc w (.cells ⟨cs⟩ 29))
  have HR:=hid (zq w cs 29)
  have HSZ:=hid (zw w (.cells ⟨cs⟩ 29))
  generalize w.alloc (.cells ⟨cs⟩ 29)= W at*
  have HR2:Hid (∀ z:World,Below W.heap.size W z→z.rangeAt w.heap.size 0 cs∧z.rangeAt w.heap.size 2 [v0,v1,v2,v3,v4,v5]∧z.cell? ⟨w.heap.size,9,none⟩= some (.slice A its.length c)):=hid fun z hz=>by
   have hr:=zd HR.out hz HSZ.out
   refine⟨hr,?_,?_⟩
   ·rw[HCS.out] at hr
    exact z3E (p:=[.int .i64 k,.string s]) (cs:=[v0,v1,v2,v3,v4,v5]) (q:=[vn,.slice A its.length c]) hr 2 rfl
   ·rw[HCS.out] at hr
    exact z4Z hr 9 rfl
  have HC:=hid (zdR (.mk k s t ns its) 40 cs W (by omega) ((HV.out.under HB.out).more HB.out.size))
  go_wp2_with (first|(with_reducible refine z8 29 _ rfl ?hw w.heap.size 0 cs _ rfl HR.out Tryz.underlying29 rfl ?hi ?_;(case hw=>exact wantA rfl);(case hi=>rw[HCL.out];kernel_rfl))|(go_at_call 24;fail))
  refine HC.out.mono ?_
  rintro e w2 ⟨z,rfl,hb⟩
  have HB2:=hid hb
  have HRZ:=hid (HR2.out w2 hb).1
  have HB2':=hid (HB.out.trans (hb.mono HB.out.size))
  have HC2:=hid (z89 (.mk k s t ns its) cs w2 ((HV.out.under HB2'.out).more HB2'.out.size))
  clear hb HC
  by_cases hz:z≤30
  ·have hz':decide ((30:Int) < z)= false:=by simp;omega
   go_wp2_with (first|(with_reducible refine z8 29 _ rfl ?hw w.heap.size 0 cs _ rfl HRZ.out Tryz.underlying29 rfl ?hi ?_;(case hw=>exact wantA rfl);(case hi=>rw[HCL.out];kernel_rfl))|(go_at_call 25;fail))
   refine HC2.out.mono ?_
   rintro e w3 ⟨y,hy0,hy1,rfl,hb⟩
   have HB3:=hid (HB2.out.trans (hb.mono HB2.out.size))
   have HRY:=hid (HR2.out w3 HB3.out).2.1
   have HB3':=hid (HB.out.trans (HB3.out.mono HB.out.size))
   have HC3:=hid (z6L t [v0,v1,v2,v3,v4,v5] w3 ((HT.out.under HB3'.out).more HB3'.out.size))
   clear hb HC2 HRZ HB2 HB2'
   by_cases hy:y < 500
   ·have hy':decide ((500:Int)≤y)= false:=by simp;omega
    go_wp2_with (first|(with_reducible refine z8 26 _ rfl ?hw w.heap.size 2 [v0,v1,v2,v3,v4,v5] _ rfl HRY.out Tryz.underlying26 rfl ?hi ?_;(case hw=>exact wantA rfl);(case hi=>kernel_rfl))|(go_at_call 20;fail))
    refine HC3.out.mono ?_
    rintro e w4 ⟨q,rfl,hb⟩
    have HB4:=hid (HB3.out.trans (hb.mono HB3.out.size))
    have HB4':=hid (HB.out.trans (HB4.out.mono HB.out.size))
    clear hb HC3 HRY HB3 HB3'
    cases q with
    |false=>
     go_wp2
     go_ret
     exact⟨_,rfl,HB4'.out⟩
    |true=>
     go_wp2
     go_loopg [3] its.length (fun g i wr=>∃ j:Nat,j+g= its.length∧i= .int .i64 j∧Below W.heap.size W wr)
     case atStart=>exact⟨0,by omega,rfl,HB4.out⟩
     case round=>
      obtain⟨j,hj,rfl,hb⟩:=hrel
      have HB5:=hid hb
      have HB5':=hid (HB.out.trans (hb.mono HB.out.size))
      have d9:=(HR2.out wr hb).2.2
      clear hb
      cases gk with
      |zero=>
       have hge: ¬ ((j:Int) <(its.length:Int)):=by omega
       go_wp2
       go_ret
       exact⟨_,rfl,HB5'.out⟩
      |succ g=>
       have hlt:(j:Int) <(its.length:Int):=by omega
       obtain⟨y,hy⟩:∃ y,its[j]?= some y:=⟨_,List.getElem?_eq_getElem (by omega)⟩
       obtain⟨b,o,rfl,hbb,hc⟩:=HA.out (by omega)
       obtain⟨ks,hcl,hr,hR⟩:=hc j y hy
       have HRK:=hid (zd hr HB5'.out hbb)
       have HCK:=hid (IH.out y (List.mem_of_getElem? hy) ks wr ((hR.under HB5'.out).more HB5'.out.size))
       have HKL:=hid hcl
       clear hc hr hR hy hcl
       go_wp2_with (first|(with_reducible refine z8 29 _ rfl ?hw b (o+j*10) ks _ rfl HRK.out Tryz.underlying29 rfl ?hi ?_;(case hw=>exact wantA rfl);(case hi=>rw[HKL.out];kernel_rfl))|(go_at_call 11;fail))
       refine HCK.out.mono ?_
       rintro e w6 ⟨q,rfl,hb⟩
       have HB6:=hid (HB5.out.trans (hb.mono HB5.out.size))
       clear hb
       cases q with
       |false=>
        go_wp2
        go_ret
        exact⟨_,rfl,HB.out.trans (HB6.out.mono HB.out.size)⟩
       |true=>
        go_wp2
        go_roundg g
        case measure=>omega
        case rel=>exact⟨j+1,by omega,by go_num,HB6.out⟩
   ·have hy':decide ((500:Int)≤y)= true:=by simp;omega
    go_wp2
    go_ret
    exact⟨_,rfl,HB3'.out⟩
  ·have hz':decide ((30:Int) < z)= true:=by simp;omega
   go_wp2
   go_ret
   exact⟨_,rfl,HB2'.out⟩
def za5 (E:List VarT) (w:World) (e:Ending) (w':World):Prop:=∃ b:Bool,e= .returned (.bool b)∧(b= true→E.length≤40)∧Below w.heap.size w w'
theorem zd0 (E:List VarT) (v:Value) (w:World) (hv:SlAt w w.heap.size 11 (VarAt w w.heap.size) v E) (hE:E.length≤maxLen):
  Calls Tryz.prog 12 #[v] w (za5 E w):=by
 obtain⟨hel,EA,ec,rfl,hea⟩:=hv
 have HEB:=hid hea
 unfold maxLen at hE
 clear hea hel
 go_enter Tryz.func12,Tryz.ntmps12
 go_wp2
 go_loopg [3] E.length (fun q x u=>∃ j:Nat,j+q= E.length∧x= .int .i64 j∧Below w.heap.size w u)
 case atStart=>exact⟨0,by omega,rfl,Below.refl _ _⟩
 case round=>
  obtain⟨jj,hj,rfl,hb⟩:=hrel
  have HBK:=hid hb
  clear hb
  cases gk with
  |zero=>
   obtain rfl:jj= E.length:=by omega
   have hge: ¬ ((E.length:Int) <(E.length:Int)):=by omega
   by_cases h40:(E.length:Int)≤40
   ·go_wp2
    go_ret
    exact⟨_,rfl,(fun _=>by omega),HBK.out⟩
   ·go_wp2
    go_ret
    exact⟨_,rfl,nofun,HBK.out⟩
  |succ q=>
   have hlt2:(jj:Int) <(E.length:Int):=by omega
   obtain⟨x,he⟩:∃ e,E[jj]?= some e:=⟨_,List.getElem?_eq_getElem (by omega)⟩
   obtain⟨bb,o,rfl,hbl,hc⟩:=HEB.out (by omega)
   obtain⟨ks,hkl,hks,hva⟩:=hc jj x he
   obtain⟨ct,ci,hce,h3,h6,hct,hci⟩:=hva.ex
   have hnm:=hva.name
   unfold maxLen at hnm
   have HRG:Hid (∀ z:World,Below w.heap.size w z→z.cell? ⟨bb,o+jj*11,none⟩= some (.string x.name)∧z.rangeAt bb (o+jj*11+2) ct∧z.rangeAt bb (o+jj*11+5) ci):=hid fun z hz=>by
    have hr0:=zd hks hz hbl
    rw[hce] at hr0
    refine⟨z4Z hr0 0 rfl,z3E (p:=[.string x.name,.int .i64 x.label]) (cs:=ct) (q:=ci) hr0 _ rfl,?_⟩
    exact z3E (p:=[.string x.name,.int .i64 x.label] ++ ct) (cs:=ci) (q:=[]) (by rw[List.append_nil];exact hr0) _ (by simp[h3])
   have HT:=hid (fun z (hz:Below w.heap.size w z)=>zdz x.type ct z ((hct.under hz).more hz.size))
   have HI:=hid (fun z (hz:Below w.heap.size w z)=>z6L x.init ci z ((hci.under hz).more hz.size))
   have HL3:=hid h3
   have HL6:=hid h6
   have HC1:=hid (HT.out wr HBK.out)
   have HR1:=hid (HRG.out wr HBK.out).2.1
   clear hc he hks hva hkl hct hci hce h3 h6
   go_wp2_with (first|(with_reducible refine z8 45 _ rfl ?hw bb (o+jj*11+2) ct _ rfl HR1.out Tryz.underlying45 rfl ?hi ?_;(case hw=>exact wantA rfl);(case hi=>rw[HL3.out];kernel_rfl))|(go_at_call 28;fail))
   refine HC1.out.mono ?_
   rintro e w2 ⟨q1,rfl,hb⟩
   have HB2:=hid (HBK.out.trans (hb.mono HBK.out.size))
   clear hb HC1
   cases q1 with
   |false=>
    go_wp2
    go_ret
    exact⟨_,rfl,nofun,HB2.out⟩
   |true=>
    have HC2:=hid (HI.out w2 HB2.out)
    have HR2:=hid (HRG.out w2 HB2.out).2.2
    go_wp2_with (first|(with_reducible refine z8 26 _ rfl ?hw bb (o+jj*11+5) ci _ rfl HR2.out Tryz.underlying26 rfl ?hi ?_;(case hw=>exact wantA rfl);(case hi=>rw[HL6.out];kernel_rfl))|(go_at_call 20;fail))
    refine HC2.out.mono ?_
    rintro e w3 ⟨q2,rfl,hb⟩
    have HB3:=hid (HB2.out.trans (hb.mono HB2.out.size))
    clear hb HC2
    cases q2 with
    |false=>
     go_wp2
     go_ret
     exact⟨_,rfl,nofun,HB3.out⟩
    |true=>
     have c0:=(HRG.out w3 HB3.out).1
     by_cases h300:(300:Int) <(x.name.size:Int)
     ·go_wp2
      go_ret
      exact⟨_,rfl,nofun,HB3.out⟩
     ·go_wp2
      go_roundg q
      case measure=>omega
      case rel=>exact⟨jj+1,by omega,by go_num,HB3.out⟩
end Go.Proofs.YtmpbepjjbaeebaaGreatDoor
end
section
namespace Go.Proofs.YtmpbepjjbaeebaaGreatDoor
open Go Go.RowKit
open Go.Lib (hid)
theorem z6c (a b:ByteArray) (w:World):Calls Tryz.prog 78 #[.string a,.string b] w fun e w'=>e= .returned (.int .i64 (cmpS a b))∧w'= w:=by
 obtain⟨h1,h2⟩:=z2M a.data.toList b.data.toList
 obtain⟨k1,k2⟩:=z2M b.data.toList a.data.toList
 have h3:=z1b a.data.toList b.data.toList
 have h4:=z13 a.data.toList b.data.toList
 rw[← toList_eq,← toList_eq] at h1 h2 h3 k1 k2 h4
 have hc:cmpS a b= Lib.compareBytes a.toList b.toList:=by unfold cmpS;rw[toList_eq,toList_eq]
 rw[hc]
 rcases h3 with h|h|h
 ·rw[h]
  have t1:Op.bytesLess a.toList b.toList= true:=h1.2 h
  clear h1 h2 k1 k2 h4 hc h
  go_enter Tryz.func78,Tryz.ntmps78
  go_wp2
  go_ret
  exact⟨rfl,rfl⟩
 ·rw[h]
  have t1:Op.bytesLess a.toList b.toList= false:=by rw[Bool.eq_false_iff];intro e;have:=h1.1 e;omega
  have t2:Op.bytesLess b.toList a.toList= false:=by rw[Bool.eq_false_iff];intro e;have:=k1.1 e;omega
  have t3:(a.toList ==b.toList)= true:=h2.2 h
  clear h1 h2 k1 k2 h4 hc h
  go_enter Tryz.func78,Tryz.ntmps78
  go_wp2
  go_ret
  exact⟨rfl,rfl⟩
 ·rw[h]
  have t1:Op.bytesLess a.toList b.toList= false:=by rw[Bool.eq_false_iff];intro e;have:=h1.1 e;omega
  have t2:Op.bytesLess b.toList a.toList= true:=k1.2 (by omega)
  have t3:(a.toList ==b.toList)= false:=by rw[Bool.eq_false_iff];intro e;have:=h2.1 e;omega
  clear h1 h2 k1 k2 h4 hc h
  go_enter Tryz.func78,Tryz.ntmps78
  go_wp2
  go_ret
  exact⟨rfl,rfl⟩
theorem z3A (a b:Int) (w:World):Calls Tryz.prog 76 #[.int .i64 a,.int .i64 b] w fun e w'=>e= .returned (.int .i64 (cmpI a b))∧w'= w:=by
 rcases zX a b with ⟨h,k⟩|⟨h,k⟩|⟨h,k⟩
 ·rw[h]
  go_enter Tryz.func76,Tryz.ntmps76
  go_wp2
  go_ret
  exact⟨rfl,rfl⟩
 ·rw[h]
  have t1: ¬ (a < b):=by omega
  have t2: ¬ (b < a):=by omega
  clear k h
  go_enter Tryz.func76,Tryz.ntmps76
  go_wp2
  go_ret
  exact⟨rfl,rfl⟩
 ·rw[h]
  have t1: ¬ (a < b):=by omega
  go_enter Tryz.func76,Tryz.ntmps76
  go_wp2
  go_ret
  exact⟨rfl,rfl⟩
theorem z5c {α:Type} {f:α→α→Int} {l r:List α} {k:Nat} (hl:k≤l.length) (hr:k≤r.length) (h:k= l.length∨k= r.length):listC f (l.drop k) (r.drop k)= cmpI l.length r.length:=by
 unfold cmpI
 by_cases h1:l.length < r.length
 ·rw[if_pos (by omega),z3D (by omega) (by omega)]
 ·rw[if_neg (by omega)]
  by_cases h2:r.length < l.length
  ·rw[if_pos (by omega)]
   obtain⟨x,hx⟩:∃ x,l[k]?= some x:=⟨_,List.getElem?_eq_getElem (by omega)⟩
   exact z2B hx (by omega)
  ·rw[if_neg (by omega),z2F (by omega) (by omega)]
theorem za9 (u v:Value) (l r:List ByteArray) (w:World) (hu:SlAt w w.heap.size 1 StrR u l) (hv:SlAt w w.heap.size 1 StrR v r):
  Calls Tryz.prog 79 #[u,v] w fun e w'=>e= .returned (.int .i64 (listC cmpS l r))∧∃ m,w'= w.drewN m:=by
 obtain⟨_,A,ca,rfl,_⟩:=id hu
 obtain⟨_,D,cb,rfl,_⟩:=id hv
 obtain⟨_,hl,ha⟩:=z1m hu
 obtain⟨_,hr,hb⟩:=z1m hv
 have HA:=hid ha
 have HB:=hid hb
 have HS:=hid (fun k x y=>z33 (f:=cmpS) (l:=l) (r:=r) (k:=k) (x:=x) (y:=y))
 have HT:=hid (fun k=>z5c (f:=cmpS) (l:=l) (r:=r) (k:=k))
 have H0:Hid (listC cmpS (l.drop 0) (r.drop 0)= listC cmpS l r):=hid rfl
 have HSG:=hid (fun z=>z3A (l.length:Int) (r.length:Int) z)
 have hl2:(l.length:Int)≤9223372036854775807:=by omega
 have hr2:(r.length:Int)≤9223372036854775807:=by omega
 clear ha hb hu hv
 generalize listC cmpS l r= res at*
 go_enter Tryz.func79,Tryz.ntmps79
 go_wp2
 go_loopg [5] l.length (fun q x u=>∃ k m:Nat,k+q= l.length∧k≤r.length∧x= .int .i64 k∧u= w.drewN m∧listC cmpS (l.drop k) (r.drop k)= res)
 case atStart=>exact⟨0,0,by omega,by omega,rfl,rfl,H0.out⟩
 case round=>
  obtain⟨k,m,hk,hkr,rfl,rfl,hres⟩:=hrel
  have HR:=hid hres
  clear hres
  cases gk with
  |zero=>
   obtain rfl:k= l.length:=by omega
   have hge: ¬ ((l.length:Int) <(l.length:Int)):=by omega
   have HV:=hid ((HR.out).symm.trans (HT.out l.length (Nat.le_refl _) hkr (.inl rfl)))
   rw[← HV.out] at HSG
   clear HR
   go_wp2_with (go_at_call 76;refine(HSG.out _).mono ?_;rintro e z ⟨rfl,rfl⟩)
   go_ret
   exact⟨rfl,_,rfl⟩
  |succ q=>
   have hlt:(k:Int) <(l.length:Int):=by omega
   by_cases hkr2:k < r.length
   ·have hlt2:(k:Int) <(r.length:Int):=by omega
    obtain⟨x,hx⟩:∃ x,l[k]?= some x:=⟨_,List.getElem?_eq_getElem (by omega)⟩
    obtain⟨y,hy⟩:∃ y,r[k]?= some y:=⟨_,List.getElem?_eq_getElem hkr2⟩
    obtain⟨b1,o1,rfl,_,c1⟩:=HA.out (by omega)
    obtain⟨b2,o2,rfl,_,c2⟩:=HB.out (by omega)
    obtain⟨wm,hwm⟩:∃ wm,w.drewN m= wm:=⟨_,rfl⟩
    have d1:wm.cell? ⟨b1,o1+k,none⟩= some (.string x):=by rw[← hwm];exact(c1 k x hx).1
    have d2:wm.cell? ⟨b2,o2+k,none⟩= some (.string y):=by rw[← hwm];exact(c2 k y hy).1
    have HDM:Hid (∀ q,∃ m',wm.drewN q= w.drewN m'):=hid fun q=>⟨m+q,by rw[← hwm,World.drewN_drewN]⟩
    rw[hwm]
    have HV:=hid ((HR.out).symm.trans (HS.out k x y hx hy))
    have HC:=hid (fun w=>z6c x y w)
    clear c1 c2 hx hy hkr hwm
    generalize cmpS x y= cv at*
    by_cases hc:cv= 0
    ·subst hc
     have HV2:=hid (HV.out.trans (if_neg (fun h=>h rfl)))
     clear HV
     go_upto_region 4 with (fail)
     go_quiet ((go_at_call 78;exact Calls.quiet_of_same (HC.out _)))
     obtain⟨m',hm'⟩:=HDM.out nq
     rw[hm']
     go_wp2
     go_roundg q
     case measure=>omega
     case rel=>exact⟨k+1,_,by omega,by omega,by go_num,rfl,HV2.out.symm⟩
    ·have HV2:=hid (HV.out.trans (if_pos hc))
     have t2:(cv !=0)= true:=by simpa using hc
     clear HV hc
     go_upto_region 4 with (fail)
     go_quiet ((go_at_call 78;exact Calls.quiet_of_same (HC.out _)))
     obtain⟨m',hm'⟩:=HDM.out nq
     rw[hm']
     go_wp2
     go_ret
     exact⟨zD HV2.out.symm,_,rfl⟩
   ·have HV:=hid ((HR.out).symm.trans (HT.out k (by omega) hkr (.inr (by omega))))
    have hge: ¬ ((k:Int) <(r.length:Int)):=by omega
    rw[← HV.out] at HSG
    clear HR hkr hkr2
    go_wp2_with (go_at_call 76;refine(HSG.out _).mono ?_;rintro e z ⟨rfl,rfl⟩)
    go_ret
    exact⟨rfl,_,rfl⟩
end Go.Proofs.YtmpbepjjbaeebaaGreatDoor
end
