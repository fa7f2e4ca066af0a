/- Parts of a proof: Typ, RTyp, Rows4. -/
import Derived.Test.YtmpbepjjbaeebaaGreatDoorPackN13
import Derived.Test.YtmpbepjjbaeebaaGreatDoorPackN14
import Derived.Test.YtmpbepjjbaeebaaGreatDoorPackN15
set_option maxHeartbeats 8000000
set_option maxRecDepth 100000
set_option linter.unusedVariables false
set_option linter.unusedSimpArgs false
section
namespace Go.Proofs.YtmpbepjjbaeebaaGreatDoor
open Go Go.RowKit
open Go.Lib (hid)
theorem TypAt.next {w w':World} {cs:List Value} {t:TT} (h:TypAt w w.heap.size cs t) (hb:Below w.heap.size w w'):TypAt w' w'.heap.size cs t:=(h.under hb).more hb.size
theorem z98 {w:World} {v:Value} {l:List TT} (h:SlAt w w.heap.size 3 (TypAt w w.heap.size) v l):∃ A c,v= .slice A l.length c∧l.length≤9223372036854775807∧
  (0 < l.length→∃ b o,A= some ⟨b,o,none⟩∧b < w.heap.size∧∀ (i:Nat) x,l[i]?= some x→∃ cs:List Value,w.rangeAt b (o+i*3) cs∧TypAt w w.heap.size cs x):=by
 obtain⟨h0,A,c,h1,h2⟩:=h
 refine⟨A,c,h1,h0,fun hp=> ?_⟩
 obtain⟨b,o,h3,h4,h5⟩:=h2 hp
 refine⟨b,o,h3,h4,fun i x hx=> ?_⟩
 obtain⟨cs,_,h7,h8⟩:=h5 i x hx
 exact⟨cs,h7,h8⟩
theorem z4d {w:World} {B:Nat} {cs:List Value} {t:TT} (h:TypAt w B cs t):cs.length= 3∧∀ u∈cs,u.oneCell'= true:=by
 cases t with
 |mk k ns its=>
  have h9:=h.one
  obtain⟨vn,vi,rfl,_,h1,_,h2⟩:=h.inv
  exact⟨rfl,h9⟩
mutual
def cntT:TT→Nat→Nat
 | .mk _ _ its,n=>cntTL its (n+1)
def cntTL:List TT→Nat→Nat
 |[],n=>n
 |a::l,n=>if 500≤n then n else cntTL l (cntT a n)
end
theorem z84:∀ (l:List TT) (n:Nat),(∀ x∈l,∀ m,m < 500→cntT x m≤500)→n≤500→cntTL l n≤500
 |[],n,_,h=>by rw[cntTL];exact h
 |a::l,n,h,hn=>by
  rw[cntTL]
  split
  ·exact hn
  ·exact z84 l _ (fun x hx=>h x (List.mem_cons_of_mem _ hx)) (h a (List.mem_cons_self ..) n (by omega))
theorem zd9 (t:TT):∀ m,m < 500→cntT t m≤500:=by
 induction t using TT.ind with
 |h k ns its ih=>exact fun m hm=>by rw[cntT];exact z84 its _ ih (by omega)
theorem z9j {l:List TT} {k m:Nat} {x:TT} (h:l[k]?= some x):cntTL (l.drop k) m= if 500≤m then m else cntTL (l.drop (k+1)) (cntT x m):=by
 rw[z0p h,cntTL]
theorem zb2 {l:List TT} {m:Nat}:cntTL (l.drop l.length) m= m:=by
 rw[List.drop_eq_nil_of_le (Nat.le_refl _),cntTL]
end Go.Proofs.YtmpbepjjbaeebaaGreatDoor
end
section
namespace Go.Proofs.YtmpbepjjbaeebaaGreatDoor
open Go Go.RowKit
open Go.Lib (hid)
theorem zes:∀ (x:TT) (far:Nat) (cs:List Value) (w:World),far≤40→TypAt w w.heap.size cs x→Calls Tryz.prog 50 #[.agg ⟨cs⟩,.int .i64 far] w (z6d w):=by
 intro x
 induction x using TT.ind with
 |h k ns its ih=>
  intro far cs w hfar hv
  obtain⟨vn,vi,rfl,_,_,_,hi⟩:=hv.inv
  obtain⟨A,c,rfl,hil,hA⟩:=z98 hi
  have HA:=hid hA
  have IH:=hid ih
  clear hA hv ih hi
  go_enter Tryz.func50,Tryz.ntmps50
  go_upto_region 1 with (fail)
  have hb0:=zc w (.cells ⟨[.int .i64 k,vn,.slice A its.length c]⟩ 45)
  have hz0:=zC w (.cells ⟨[.int .i64 k,vn,.slice A its.length c]⟩ 45)
  have c5:=zr w ⟨[.int .i64 k,vn,.slice A its.length c]⟩ 45 2
  generalize w.alloc (.cells ⟨[.int .i64 k,vn,.slice A its.length c]⟩ 45)= W at*
  have HB:=hid hb0
  have C5:=hid c5
  have HSZ:=hid hz0
  clear hb0 c5 hz0
  go_wp2
  go_loopg [5,6] its.length (fun g m i wr=>∃ (j:Nat) (x:Int),j+g= its.length∧i= .int .i64 j∧m= .int .i64 x∧Below W.heap.size W wr)
  case atStart=>exact⟨0,0,by omega,rfl,rfl,Below.refl _ _⟩
  case round=>
   obtain⟨j,x,hj,rfl,rfl,hb⟩:=hrel
   have HB1:=hid hb
   have d5:=(hb.cell (p:=⟨w.heap.size,2,none⟩) HSZ.out).trans C5.out
   clear hb
   simp only[List.getElem?_toArray,List.getElem?_cons_succ,List.getElem?_cons_zero] at d5
   cases gk with
   |zero=>
    have hge: ¬ ((j:Int) <(its.length:Int)):=by omega
    go_wp2
    go_ret
    exact⟨_,rfl,HB.out.trans (HB1.out.mono HB.out.size)⟩
   |succ g=>
    have hlt:(j:Int) <(its.length:Int):=by omega
    by_cases h0:far= 0
    ·subst h0
     go_wp2
     go_ret
     exact⟨_,rfl,HB.out.trans (HB1.out.mono HB.out.size)⟩
    ·have hpos:(0:Int) <(far:Int):=by omega
     obtain⟨y,hy⟩:∃ y,its[j]?= some y:=⟨_,List.getElem?_eq_getElem (by omega)⟩
     obtain⟨b,o,rfl,hbb,hc⟩:=HA.out (by omega)
     obtain⟨cs,hr,hR⟩:=hc j y hy
     have hB2:=HB.out.trans (HB1.out.mono HB.out.size)
     have HR:=hid (zd hr hB2 hbb)
     have HC:=hid (IH.out y (List.mem_of_getElem? hy) (far - 1) cs wr (by omega) (hR.next hB2))
     have HCL:=hid (z4d hR)
     have hf1:((far - 1:Nat):Int)=(far:Int) - 1:=by omega
     clear hc hr hR hB2 hy h0
     rw[hf1] at HC
     clear hf1
     go_wp2_with (first|((with_reducible refine z8 45 _ rfl ?hwa b (o+j*3) cs _ rfl HR.out Tryz.underlying45 rfl ?hia ?_);(case hwa=>(exact wantA rfl));(case hia=>rw[HCL.out.1];kernel_rfl))|(go_at_call 50;refine HC.out.mono ?_;rintro e w' ⟨z,rfl,hb⟩;have HB2:=hid hb;clear hb))
     all_goals
      go_roundg g
      case measure=>omega
      case rel=>exact⟨j+1,_,by omega,by go_num,rfl,HB1.out.trans (HB2.out.mono HB1.out.size)⟩
theorem z9l:∀ (t:TT) (m:Nat) (cs:List Value) (w:World),m < 500→TypAt w w.heap.size cs t→
  Calls Tryz.prog 88 #[.agg ⟨cs⟩,.int .i64 m] w fun e w'=>e= .returned (.int .i64 (cntT t m:Nat))∧Below w.heap.size w w':=by
 intro t
 induction t using TT.ind with
 |h k ns its ih=>
  intro m cs w hm hv
  have IH:=hid ih
  obtain⟨vn,vi,rfl,_,_,_,hi⟩:=hv.inv
  obtain⟨A,c,rfl,hil,hA⟩:=z98 hi
  have HA:=hid hA
  have HS:=hid (fun k m x=>z9j (l:=its) (k:=k) (m:=m) (x:=x))
  have HE:=hid (fun m=>zb2 (l:=its) (m:=m))
  have HLE:=hid (fun x m hm=>zd9 x m hm)
  have HCE:Hid (∀ k m,500≤m→cntTL (its.drop k) m= m):=hid (fun k m h=>by
   cases its.drop k with
   |nil=>rw[cntTL]
   |cons a l=>rw[cntTL,if_pos h])
  have H0:Hid (cntTL (its.drop 0) (m+1)= cntT (.mk k ns its) m):=hid (by rw[cntT];rfl)
  clear ih hi hA hv
  generalize cntT (.mk k ns its) m= res at*
  go_enter Tryz.func88,Tryz.ntmps88
  go_upto_region 1 with (fail)
  have hb0:=zc w (.cells ⟨[.int .i64 k,vn,.slice A its.length c]⟩ 45)
  have hz0:=zC w (.cells ⟨[.int .i64 k,vn,.slice A its.length c]⟩ 45)
  have c5:=zr w ⟨[.int .i64 k,vn,.slice A its.length c]⟩ 45 2
  generalize w.alloc (.cells ⟨[.int .i64 k,vn,.slice A its.length c]⟩ 45)= W at*
  have HB:=hid hb0
  have C5:=hid c5
  have HSZ:=hid hz0
  clear hb0 c5 hz0
  have hm2:(m:Int) < 500:=by omega
  go_wp2
  go_loopg [1,5] its.length (fun g u i wr=>∃ (j m:Nat),j+g= its.length∧i= .int .i64 j∧u= .int .i64 m∧m≤500∧Below W.heap.size W wr∧cntTL (its.drop j) m= res)
  case atStart=>exact⟨0,m+1,by omega,rfl,by go_num,by omega,Below.refl _ _,H0.out⟩
  case round=>
   obtain⟨j,m,hj,rfl,rfl,hm5,hb,hres⟩:=hrel
   have HB1:=hid hb
   have HR:=hid hres
   have d5:=(hb.cell (p:=⟨w.heap.size,2,none⟩) HSZ.out).trans C5.out
   clear hb hres
   simp only[List.getElem?_toArray,List.getElem?_cons_succ,List.getElem?_cons_zero] at d5
   have hm5':(m:Int)≤500:=by omega
   cases gk with
   |zero=>
    obtain rfl:j= its.length:=by omega
    have hge: ¬ ((its.length:Int) <(its.length:Int)):=by omega
    have HV:=hid (HR.out.symm.trans (HE.out m))
    go_wp2
    go_ret
    exact⟨by rw[HV.out];go_num,HB.out.trans (HB1.out.mono HB.out.size)⟩
   |succ g=>
    have hlt:(j:Int) <(its.length:Int):=by omega
    by_cases h0:m < 500
    ·obtain⟨y,hy⟩:∃ y,its[j]?= some y:=⟨_,List.getElem?_eq_getElem (by omega)⟩
     obtain⟨b,o,rfl,hbb,hc⟩:=HA.out (by omega)
     obtain⟨cs,hr,hR⟩:=hc j y hy
     have hB2:=HB.out.trans (HB1.out.mono HB.out.size)
     have HV:=hid (HR.out.symm.trans (HS.out j m y hy))
     have HV2:=hid (HV.out.trans (if_neg (by omega)))
     have HR1:=hid (zd hr hB2 hbb)
     have HC:=hid (IH.out y (List.mem_of_getElem? hy) m cs wr h0 (hR.next hB2))
     have HCL:=hid (z4d hR)
     have hle:=HLE.out y m h0
     have h0':(m:Int) < 500:=by omega
     clear hc hr hR hB2 hy HV h0
     go_wp2_with (first|((with_reducible refine z8 45 _ rfl ?hwa b (o+j*3) cs _ rfl HR1.out Tryz.underlying45 rfl ?hia ?_);(case hwa=>(exact wantA rfl));(case hia=>rw[HCL.out.1];kernel_rfl))|(go_at_call 88;refine HC.out.mono ?_;rintro e w' ⟨rfl,hb⟩;have HB2:=hid hb;clear hb))
     go_roundg g
     case measure=>omega
     case rel=>exact⟨j+1,_,by omega,by go_num,rfl,hle,HB1.out.trans (HB2.out.mono HB1.out.size),HV2.out.symm⟩
    ·have HV:=hid (HR.out.symm.trans (HCE.out j m (by omega)))
     have h0': ¬ ((m:Int) < 500):=by omega
     have hm500:m= 500:=by omega
     go_wp2
     all_goals
      go_ret
      exact⟨by rw[HV.out,hm500];rfl,HB.out.trans (HB1.out.mono HB.out.size)⟩
theorem z9x (t:TT) (cs:List Value) (w:World) (hv:TypAt w w.heap.size cs t):Calls Tryz.prog 51 #[.agg ⟨cs⟩] w fun e w'=>e= .returned (.int .i64 (cntT t 0:Nat))∧Below w.heap.size w w':=by
 have HCL:=hid (z4d hv)
 have HV:=hid hv
 clear hv
 go_enter Tryz.func51,Tryz.ntmps51
 go_upto_region 1 with (fail)
 have HB:=hid (zc w (.cells ⟨cs⟩ 45))
 have HR:=hid (zu w cs 45)
 generalize w.alloc (.cells ⟨cs⟩ 45)= W at*
 have HC:=hid (z9l t 0 cs W (by omega) (HV.out.next HB.out))
 go_wp2_with (first|((with_reducible refine z8 45 _ rfl ?hwa w.heap.size 0 cs _ rfl HR.out Tryz.underlying45 rfl ?hia ?_);(case hwa=>(exact wantA rfl));(case hia=>rw[HCL.out.1];kernel_rfl))|(go_at_call 88;refine HC.out.mono ?_;rintro e w' ⟨rfl,hb⟩;have HB2:=hid hb;clear hb))
 go_ret
 exact⟨rfl,HB.out.trans (HB2.out.mono HB.out.size)⟩
theorem zeF (x:TT) (cs:List Value) (w:World) (hv:TypAt w w.heap.size cs x):Calls Tryz.prog 28 #[.agg ⟨cs⟩] w (z5a w):=by
 have HCL:=hid (z4d hv)
 have HV:=hid hv
 clear hv
 go_enter Tryz.func28,Tryz.ntmps28
 go_upto_region 1 with (fail)
 have HB:=hid (zc w (.cells ⟨cs⟩ 45))
 have HR:=hid (zu w cs 45)
 have HSZ:=hid (zC w (.cells ⟨cs⟩ 45))
 generalize w.alloc (.cells ⟨cs⟩ 45)= W at*
 have HC:=hid (zes x 40 cs W (by omega) (HV.out.next HB.out))
 go_wp2_with (first|((with_reducible refine z8 45 _ rfl ?hwa w.heap.size 0 cs _ rfl HR.out Tryz.underlying45 rfl ?hia ?_);(case hwa=>(exact wantA rfl));(case hia=>rw[HCL.out.1];kernel_rfl))|(go_at_call 50;fail))
 refine HC.out.mono ?_
 rintro e w2 ⟨z,rfl,hb⟩
 have HB2:=hid (HB.out.trans (hb.mono HB.out.size))
 have HR2:=hid (zd HR.out hb HSZ.out)
 have HC2:=hid (z9x x cs w2 (HV.out.next HB2.out))
 clear hb HC
 by_cases hz:z≤30
 ·go_wp2_with (first|((with_reducible refine z8 45 _ rfl ?hwc w.heap.size 0 cs _ rfl HR2.out Tryz.underlying45 rfl ?hic ?_);(case hwc=>(exact wantA rfl));(case hic=>rw[HCL.out.1];kernel_rfl))|(go_at_call 51;refine HC2.out.mono ?_;rintro e w' ⟨rfl,hb⟩;have HB3:=hid hb;clear hb))
  all_goals
   go_ret
   exact⟨_,rfl,HB2.out.trans (HB3.out.mono HB2.out.size)⟩
 ·go_wp2
  all_goals
   go_ret
   exact⟨_,rfl,HB2.out⟩
end Go.Proofs.YtmpbepjjbaeebaaGreatDoor
end
section
namespace Go.Proofs.YtmpbepjjbaeebaaGreatDoor
open Go Go.RowKit
open Go.Lib (hid)
theorem z6U (a b:ByteArray) (w:World):Calls Tryz.prog 78 #[.string a,.string b] w fun e w'=>e= .returned (.int .i64 (cmpS a b))∧w'= w:=by
 obtain⟨h1,h2⟩:=z35 a.data.toList b.data.toList
 obtain⟨k1,k2⟩:=z35 b.data.toList a.data.toList
 have h3:=z1n a.data.toList b.data.toList
 have h4:=z1b a.data.toList b.data.toList
 rw[← toList_eq,← toList_eq] at h1 h2 h3 k1 k2 h4
 have hc:cmpS a b= Lib.compareBytes a.toList b.toList:=by unfold cmpS;rw[toList_eq,toList_eq]
 rw[hc]
 rcases h3 with h|h|h
 ·rw[h]
  have t1:Op.bytesLess a.toList b.toList= true:=h1.2 h
  clear h1 h2 k1 k2 h4 hc h
  go_enter Tryz.func78,Tryz.ntmps78
  go_wp2
  go_ret
  exact⟨rfl,rfl⟩
 ·rw[h]
  have t1:Op.bytesLess a.toList b.toList= false:=by rw[Bool.eq_false_iff];intro e;have:=h1.1 e;omega
  have t2:Op.bytesLess b.toList a.toList= false:=by rw[Bool.eq_false_iff];intro e;have:=k1.1 e;omega
  have t3:(a.toList ==b.toList)= true:=h2.2 h
  clear h1 h2 k1 k2 h4 hc h
  go_enter Tryz.func78,Tryz.ntmps78
  go_wp2
  go_ret
  exact⟨rfl,rfl⟩
 ·rw[h]
  have t1:Op.bytesLess a.toList b.toList= false:=by rw[Bool.eq_false_iff];intro e;have:=h1.1 e;omega
  have t2:Op.bytesLess b.toList a.toList= true:=k1.2 (by omega)
  have t3:(a.toList ==b.toList)= false:=by rw[Bool.eq_false_iff];intro e;have:=h2.1 e;omega
  clear h1 h2 k1 k2 h4 hc h
  go_enter Tryz.func78,Tryz.ntmps78
  go_wp2
  go_ret
  exact⟨rfl,rfl⟩
theorem z3Q (a b:Int) (w:World):Calls Tryz.prog 76 #[.int .i64 a,.int .i64 b] w fun e w'=>e= .returned (.int .i64 (cmpI a b))∧w'= w:=by
 rcases z03 a b with ⟨h,k⟩|⟨h,k⟩|⟨h,k⟩
 ·rw[h]
  go_enter Tryz.func76,Tryz.ntmps76
  go_wp2
  go_ret
  exact⟨rfl,rfl⟩
 ·rw[h]
  have t1: ¬ (a < b):=by omega
  have t2: ¬ (b < a):=by omega
  clear k h
  go_enter Tryz.func76,Tryz.ntmps76
  go_wp2
  go_ret
  exact⟨rfl,rfl⟩
 ·rw[h]
  have t1: ¬ (a < b):=by omega
  go_enter Tryz.func76,Tryz.ntmps76
  go_wp2
  go_ret
  exact⟨rfl,rfl⟩
theorem z5x {α:Type} {f:α→α→Int} {l r:List α} {k:Nat} (hl:k≤l.length) (hr:k≤r.length) (h:k= l.length∨k= r.length):listC f (l.drop k) (r.drop k)= cmpI l.length r.length:=by
 unfold cmpI
 by_cases h1:l.length < r.length
 ·rw[if_pos (by omega),z3U (by omega) (by omega)]
 ·rw[if_neg (by omega)]
  by_cases h2:r.length < l.length
  ·rw[if_pos (by omega)]
   obtain⟨x,hx⟩:∃ x,l[k]?= some x:=⟨_,List.getElem?_eq_getElem (by omega)⟩
   exact z30 hx (by omega)
  ·rw[if_neg (by omega),z3j (by omega) (by omega)]
theorem zbt (u v:Value) (l r:List ByteArray) (w:World) (hu:SlAt w w.heap.size 1 StrR u l) (hv:SlAt w w.heap.size 1 StrR v r):
  Calls Tryz.prog 79 #[u,v] w fun e w'=>e= .returned (.int .i64 (listC cmpS l r))∧∃ m,w'= w.drewN m:=by
 obtain⟨_,A,ca,rfl,_⟩:=id hu
 obtain⟨_,D,cb,rfl,_⟩:=id hv
 obtain⟨_,hl,ha⟩:=z22 hu
 obtain⟨_,hr,hb⟩:=z22 hv
 have HA:=hid ha
 have HB:=hid hb
 have HS:=hid (fun k x y=>z39 (f:=cmpS) (l:=l) (r:=r) (k:=k) (x:=x) (y:=y))
 have HT:=hid (fun k=>z5x (f:=cmpS) (l:=l) (r:=r) (k:=k))
 have H0:Hid (listC cmpS (l.drop 0) (r.drop 0)= listC cmpS l r):=hid rfl
 have HSG:=hid (fun z=>z3Q (l.length:Int) (r.length:Int) z)
 have hl2:(l.length:Int)≤9223372036854775807:=by omega
 have hr2:(r.length:Int)≤9223372036854775807:=by omega
 clear ha hb hu hv
 generalize listC cmpS l r= res at*
 go_enter Tryz.func79,Tryz.ntmps79
 go_wp2
 go_loopg [5] l.length (fun q x u=>∃ k m:Nat,k+q= l.length∧k≤r.length∧x= .int .i64 k∧u= w.drewN m∧listC cmpS (l.drop k) (r.drop k)= res)
 case atStart=>exact⟨0,0,by omega,by omega,rfl,rfl,H0.out⟩
 case round=>
  obtain⟨k,m,hk,hkr,rfl,rfl,hres⟩:=hrel
  have HR:=hid hres
  clear hres
  cases gk with
  |zero=>
   obtain rfl:k= l.length:=by omega
   have hge: ¬ ((l.length:Int) <(l.length:Int)):=by omega
   have HV:=hid ((HR.out).symm.trans (HT.out l.length (Nat.le_refl _) hkr (.inl rfl)))
   rw[← HV.out] at HSG
   clear HR
   go_wp2_with (go_at_call 76;refine(HSG.out _).mono ?_;rintro e z ⟨rfl,rfl⟩)
   go_ret
   exact⟨rfl,_,rfl⟩
  |succ q=>
   have hlt:(k:Int) <(l.length:Int):=by omega
   by_cases hkr2:k < r.length
   ·have hlt2:(k:Int) <(r.length:Int):=by omega
    obtain⟨x,hx⟩:∃ x,l[k]?= some x:=⟨_,List.getElem?_eq_getElem (by omega)⟩
    obtain⟨y,hy⟩:∃ y,r[k]?= some y:=⟨_,List.getElem?_eq_getElem hkr2⟩
    obtain⟨b1,o1,rfl,_,c1⟩:=HA.out (by omega)
    obtain⟨b2,o2,rfl,_,c2⟩:=HB.out (by omega)
    obtain⟨wm,hwm⟩:∃ wm,w.drewN m= wm:=⟨_,rfl⟩
    have d1:wm.cell? ⟨b1,o1+k,none⟩= some (.string x):=by rw[← hwm];exact(c1 k x hx).1
    have d2:wm.cell? ⟨b2,o2+k,none⟩= some (.string y):=by rw[← hwm];exact(c2 k y hy).1
    have HDM:Hid (∀ q,∃ m',wm.drewN q= w.drewN m'):=hid fun q=>⟨m+q,by rw[← hwm,World.drewN_drewN]⟩
    rw[hwm]
    have HV:=hid ((HR.out).symm.trans (HS.out k x y hx hy))
    have HC:=hid (fun w=>z6U x y w)
    clear c1 c2 hx hy hkr hwm
    generalize cmpS x y= cv at*
    by_cases hc:cv= 0
    ·subst hc
     have HV2:=hid (HV.out.trans (if_neg (fun h=>h rfl)))
     clear HV
     go_upto_region 4 with (fail)
     go_quiet ((go_at_call 78;exact Calls.quiet_of_same (HC.out _)))
     obtain⟨m',hm'⟩:=HDM.out nq
     rw[hm']
     go_wp2
     go_roundg q
     case measure=>omega
     case rel=>exact⟨k+1,_,by omega,by omega,by go_num,rfl,HV2.out.symm⟩
    ·have HV2:=hid (HV.out.trans (if_pos hc))
     have t2:(cv !=0)= true:=by simpa using hc
     clear HV hc
     go_upto_region 4 with (fail)
     go_quiet ((go_at_call 78;exact Calls.quiet_of_same (HC.out _)))
     obtain⟨m',hm'⟩:=HDM.out nq
     rw[hm']
     go_wp2
     go_ret
     exact⟨zG HV2.out.symm,_,rfl⟩
   ·have HV:=hid ((HR.out).symm.trans (HT.out k (by omega) hkr (.inr (by omega))))
    have hge: ¬ ((k:Int) <(r.length:Int)):=by omega
    rw[← HV.out] at HSG
    clear HR hkr hkr2
    go_wp2_with (go_at_call 76;refine(HSG.out _).mono ?_;rintro e z ⟨rfl,rfl⟩)
    go_ret
    exact⟨rfl,_,rfl⟩
end Go.Proofs.YtmpbepjjbaeebaaGreatDoor
end
