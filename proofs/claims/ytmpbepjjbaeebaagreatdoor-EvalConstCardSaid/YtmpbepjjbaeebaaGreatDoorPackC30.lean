/- Parts of a proof: EvalP2, EvNotP, Rds10, EvMathP. -/
import Derived.Test.YtmpbepjjbaeebaaGreatDoorPackC7
import Derived.Test.YtmpbepjjbaeebaaGreatDoorPackC12
import Derived.Test.YtmpbepjjbaeebaaGreatDoorPackC14
import Derived.Test.YtmpbepjjbaeebaaGreatDoorPackC27
import Derived.Test.YtmpbepjjbaeebaaGreatDoorPackC28
import Derived.Test.YtmpbepjjbaeebaaGreatDoorPackC29
set_option maxHeartbeats 8000000
set_option maxRecDepth 100000
set_option linter.unusedVariables false
set_option linter.unusedSimpArgs false
namespace Go.Proofs.YtmpbepjjbaeebaaGreatDoor
section
open Go Go.RowKit
mutual
def szV:VT->Nat
 | .mk _ _ _ _ _ its=>szVL its+1
def szVL:List VT->Nat
 |[]=>0
 |a::l=>szV a+szVL l
end
theorem zd6 (t:VT):1<=szV t:=by cases t;rw[szV];omega
theorem z77:∀ (l:List VT),(∀ x∈l,∀ n,n < 500->cntV x n= min 500 (n+szV x))->∀ n,n<=500->cntL l n= min 500 (n+szVL l)
 |[],_,n,hn=>by rw[cntL,szVL];omega
 |a::l,h,n,hn=>by
  rw[cntL,szVL]
  by_cases h5:500<=n
  ·rw[if_pos h5];omega
  ·rw[if_neg h5,h a (by simp) n (by omega),z77 l (fun x hx=>h x (by simp[hx])) _ (by omega)]
   omega
theorem zc0 (t:VT):∀ n,n < 500->cntV t n= min 500 (n+szV t):=by
 induction t using VT.ind with
 |h k m f s ns its ih=>
  intro n hn
  rw[cntV,szV,z77 its ih (n+1) (by omega)]
  omega
theorem z7M:∀ {l:List VT} {x:VT},x∈l->szV x<=szVL l
 |a::l,x,hx=>by
  rw[szVL]
  rcases List.mem_cons.1 hx with rfl|hx
  ·omega
  ·have:=z7M hx;omega
theorem z7B:∀ (l:List VT),l.length<=szVL l
 |[]=>by simp
 |a::l=>by
  have:=z7B l
  have:=zd6 a
  rw[szVL,List.length_cons];omega
theorem z4m:∀ (l:List VT) (d:Nat),(∀ x∈l,∀ d,zo x (d+1)= true->zo x d= true)->zE l (d+1)= true->zE l d= true
 |[],_,_,_=>by rw[zE]
 |a::l,d,h,hr=>by
  rw[zE,Bool.and_eq_true] at hr
  rw[zE,h a (by simp) d hr.1,z4m l d (fun x hx=>h x (by simp[hx])) hr.2];rfl
theorem z4r (t:VT):∀ d,zo t (d+1)= true->zo t d= true:=by
 induction t using VT.ind with
 |h k n f s ns its ih=>
  intro d hr
  rw[zo] at hr ⊢
  by_cases h1:12 < d+1
  ·rw[if_pos h1] at hr;cases hr
  ·rw[if_neg h1] at hr
   rw[if_neg (by omega: ¬ 12 < d)]
   have hL:=z4m its (d+1) ih
   by_cases k1:k= 1
   ·simp only[if_pos k1] at hr ⊢;exact hr
   by_cases k2:k= 2
   ·simp only[if_neg k1,if_pos k2] at hr ⊢;exact hr
   by_cases k3:k= 3
   ·simp only[if_neg k1,if_neg k2,if_pos k3] at hr ⊢;exact hr
   by_cases k4:k= 4
   ·simp only[if_neg k1,if_neg k2,if_neg k3,if_pos k4] at hr ⊢;exact hr
   by_cases k6:k= 6
   ·simp only[if_neg k1,if_neg k2,if_neg k3,if_neg k4,if_pos k6,Bool.and_eq_true] at hr ⊢
    exact⟨hr.1,hr.2.1,hr.2.2.1,hL hr.2.2.2⟩
   by_cases k5:k= 5
   ·simp only[if_neg k1,if_neg k2,if_neg k3,if_neg k4,if_neg k6,if_pos k5,Bool.and_eq_true] at hr ⊢
    exact⟨hr.1,hr.2.1,hL hr.2.2⟩
   ·simp only[if_neg k1,if_neg k2,if_neg k3,if_neg k4,if_neg k6,if_neg k5] at hr;cases hr
theorem z0J {t:VT}:zj t= true↔szV t<=200/\zo t 1= true:=by
 unfold zj
 rw[Bool.and_eq_true,decide_eq_true_eq,zc0 t 0 (by omega)]
 constructor
 ·rintro⟨h,h2⟩;exact⟨by omega,h2⟩
 ·rintro⟨h,h2⟩;exact⟨by omega,h2⟩
theorem z6J {k n:Int} {f:Nat} {s:ByteArray} {ns:List ByteArray} {its:List VT} (h:zj (.mk k n f s ns its)= true) {x:VT} (hx:x∈its):zj x= true:=by
 obtain⟨h1,h2⟩:=z0J.1 h
 rw[szV] at h1
 have h3:=z7M hx
 refine z0J.2 ⟨by omega,?_⟩
 rcases z1C h2 with ⟨_,_,_,e⟩|⟨_,_,e⟩|⟨_,_,e⟩|⟨_,_,_,e⟩|⟨_,_,h4⟩|⟨_,_,_,h4⟩
 ·rw[e] at hx;cases hx
 ·rw[e] at hx;cases hx
 ·rw[e] at hx;cases hx
 ·rw[e] at hx;cases hx
 ·exact z4r x 1 (z1Q h4 x hx)
 ·exact z4r x 1 (z1Q h4 x hx)
theorem z5k {k n:Int} {f:Nat} {s:ByteArray} {ns:List ByteArray} {its:List VT} (h:zj (.mk k n f s ns its)= true) {i:Nat} (hi:i < its.length):zj (its.getD i v0)= true:=by
 have:its.getD i v0= its[i]:=by simp[List.getD,List.getElem?_eq_getElem hi]
 rw[this];exact z6J h (List.getElem_mem hi)
theorem z0d {k n:Int} {f:Nat} {s:ByteArray} {ns:List ByteArray} {its:List VT} (h:zj (.mk k n f s ns its)= true):its.length<=199/\ns.length<=its.length/\(k= 6->ns.length= its.length):=by
 obtain⟨h1,h2⟩:=z0J.1 h
 rw[szV] at h1
 have h3:=z7B its
 refine⟨by omega,?_⟩
 rcases z1C h2 with ⟨e0,_,e,_⟩|⟨e0,e,_⟩|⟨e0,e,_⟩|⟨e0,_,e,_⟩|⟨e0,e,_⟩|⟨e0,e,_⟩
 all_goals first|(rw[e];exact⟨Nat.zero_le _,fun h6=>by omega⟩)|exact⟨by omega,fun _=>e⟩
theorem z6z (t:VT):zj t= true->Fit t:=by
 induction t using VT.ind with
 |h k n f s ns its ih=>
  intro h
  obtain⟨h1,h2,_⟩:=z0d h
  have hr:reachBytes= 140737488351232:=rfl
  exact .mk (by omega) (by omega) fun x hx=>ih x hx (z6J h hx)
theorem z3L (v:VT):zj (z0a v)= zj v:=by unfold zj;rw[z8D,z8A]
theorem z1c (b:Bool):zj (vB b)= true:=by cases b<;>decide +kernel
theorem z7m:(⟨#[]⟩:ByteArray).toList.isEmpty= true:=by decide +kernel
theorem zbu:cmpF 0 0= 0:=by decide +kernel
theorem z2Y (n:Int):zj (vI n)= true:=z0J.2 ⟨by unfold vI;rw[szV,szVL];omega,by
 unfold vI;rw[zo,if_neg (by decide),if_neg (by decide),if_pos rfl];unfold bareB;rw[zbu,z7m];simp⟩
theorem z55 (f:Nat):zj (vF f)= true:=z0J.2 ⟨by unfold vF;rw[szV,szVL];omega,by
 unfold vF;rw[zo,if_neg (by decide),if_neg (by decide),if_neg (by decide),if_pos rfl];unfold bareB;rw[z7m];simp⟩
theorem zcH {s:ByteArray} (h:s.size<=200):zj (vS s)= true:=z0J.2 ⟨by unfold vS;rw[szV,szVL];omega,by
 unfold vS;rw[zo,if_neg (by decide),if_neg (by decide),if_neg (by decide),if_neg (by decide),if_pos rfl,decide_eq_true h];unfold bareB;rw[zbu];simp⟩
theorem z41 {v r:VT} (h:szd v= .ok r):r= v/\zj r= true:=by
 unfold szd at h
 split at h
 ·injection h with h;subst h;exact⟨rfl,by assumption⟩
 ·cases h
theorem z5w {k n:Int} {f:Nat} {s:ByteArray} {ns:List ByteArray} {its:List VT} (hn: -9223372036854775808<=n/\n<=9223372036854775807) (hk:k= 1\/k= 2\/k= 3):(textV (.mk k n f s ns its)).length<=200:=by
 rw[textV]
 rcases hk with rfl|rfl|rfl
 ·simp only[if_true]
  split<;>decide
 ·rw[if_neg (by decide),if_pos rfl]
  have:=z29 hn.1 hn.2;omega
 ·rw[if_neg (by decide),if_neg (by decide),if_pos rfl]
  have:=z6p f;omega
theorem zas {k:Int} {s:ByteArray} {a v:VT} (hs:saneV a) (ha:zj a= true) (h:unV k s a= .ok v):zj v= true:=by
 cases a with
 |mk kv n f sv ns its=>
  rw[saneV] at hs
  rw[unV] at h
  by_cases k18:k= 18
  ·rw[if_pos k18] at h
   by_cases k6:kv= 6
   ·rw[if_neg (by simpa using k6)] at h
    have hl:=(z0d ha).2.2 k6
    by_cases h1:Lib.idxOfS ns s= -1
    ·rw[if_pos h1] at h;cases h
    ·rw[if_neg h1] at h
     injection h with h
     rw[← h]
     rcases z6x ns s with h2|h2
     ·contradiction
     ·exact z5k ha (by omega)
   ·rw[if_pos k6] at h;cases h
  rw[if_neg k18] at h
  by_cases k4:k= 4
  ·rw[if_pos k4] at h
   split at h
   ·injection h with h;rw[← h];exact z1c _
   ·cases h
  rw[if_neg k4] at h
  by_cases k21:k= 21
  ·rw[if_pos k21] at h
   split at h
   ·injection h with h;rw[← h];exact z55 _
   ·cases h
  rw[if_neg k21] at h
  by_cases k22:k= 22
  ·rw[if_pos k22] at h
   split at h
   ·split at h
    ·injection h with h;rw[← h];exact z2Y _
    ·cases h
   ·cases h
  rw[if_neg k22] at h
  by_cases k23:k= 23
  ·rw[if_pos k23] at h
   split at h
   ·injection h with h;rw[← h];exact ha
   ·split at h
    ·injection h with h
     rename_i hk
     rw[← h]
     refine zcH ?_
     show(textV _).toArray.size<=200
     rw[List.size_toArray]
     exact z5w hs.1 hk
    ·cases h
  rw[if_neg k23] at h
  by_cases k20:k= 20
  ·rw[if_pos k20] at h
   split at h
   ·injection h with h;rw[← h];exact z2Y _
   ·cases h
  rw[if_neg k20] at h
  split at h
  ·injection h with h;rw[← h];exact z55 _
  ·split at h
   ·split at h
    ·cases h
    ·injection h with h;rw[← h];exact z2Y _
   ·cases h
theorem z74 {α:Type} {x:Except Int α} {g:α->VT} {v:VT} (h:x.map g= .ok v):∃ y,x= .ok y/\v= g y:=by
 cases x with
 |error e=>cases h
 |ok y=>injection h with h;exact⟨y,rfl,h.symm⟩
theorem z9Q {k:Int} {a b v:VT} (ha:zj a= true) (h:binV k a b= .ok v):zj v= true:=by
 cases a with
 |mk ka na fa sa nsa ia=>
 cases b with
 |mk kb nb fb sb nsb ib=>
  rw[binV] at h
  by_cases k19:k= 19
  ·rw[if_pos k19] at h
   split at h
   ·split at h
    ·rename_i hb
     injection h with h;rw[← h]
     exact z5k ha (by omega)
    ·cases h
   ·cases h
  rw[if_neg k19] at h
  split at h
  ·cases h
  split at h
  ·injection h with h;rw[← h];exact z1c _
  split at h
  ·obtain⟨y,_,rfl⟩:=z74 h;exact z1c _
  split at h
  ·obtain⟨y,_,rfl⟩:=z74 h;exact z2Y _
  split at h
  ·obtain⟨y,_,rfl⟩:=z74 h;exact z55 _
  split at h
  ·exact(z41 h).2
  ·cases h
end
section
open Go Go.RowKit
mutual
def szE:ET->Nat
 | .mk _ _ _ _ its=>szEL its+1
def szEL:List ET->Nat
 |[]=>0
 |a::l=>szE a+szEL l
end
theorem zdt (t:ET):1<=szE t:=by cases t;rw[szE];omega
theorem z6w:∀ (l:List ET),(∀ x∈l,∀ n,n < 500->cntE x n= min 500 (n+szE x))->∀ n,n<=500->cntEL l n= min 500 (n+szEL l)
 |[],_,n,hn=>by rw[cntEL,szEL];omega
 |a::l,h,n,hn=>by
  rw[cntEL,szEL]
  by_cases h5:500<=n
  ·rw[if_pos h5];omega
  ·rw[if_neg h5,h a (by simp) n (by omega),z6w l (fun x hx=>h x (by simp[hx])) _ (by omega)]
   omega
theorem zcf (t:ET):∀ n,n < 500->cntE t n= min 500 (n+szE t):=by
 induction t using ET.ind with
 |h k s v ns its ih=>
  intro n hn
  rw[cntE,szE,z6w its ih (n+1) (by omega)]
  omega
theorem z4x {d:Nat}:∀ {l:List ET},zU l d= true↔∀ x∈l,z04 x d= true
 |[]=>by rw[zU];simp
 |a::l=>by rw[zU,Bool.and_eq_true,z4x];simp
theorem z8v {t:ET}:zJ t= true↔szE t<=200/\z04 t 1= true:=by
 unfold zJ
 rw[Bool.and_eq_true,decide_eq_true_eq,zcf t 0 (by omega)]
 constructor
 ·rintro⟨h,h2⟩;exact⟨by omega,h2⟩
 ·rintro⟨h,h2⟩;exact⟨by omega,h2⟩
section
variable {E:List VarT} {V:List VT}
end
mutual
def anyE:ET->Bool
 | .mk k _ _ _ its=>decide (k= 2) || anyEL its
def anyEL:List ET->Bool
 |[]=>false
 |a::l=>anyE a || anyEL l
end
theorem z6K:∀ {l:List ET},anyEL l= false->∀ x∈l,anyE x= false
 |[],_,x,hx=>by cases hx
 |a::l,h,x,hx=>by
  rw[anyEL,Bool.or_eq_false_iff] at h
  rcases List.mem_cons.1 hx with rfl|hx
  ·exact h.1
  ·exact z6K h.2 x hx
theorem z39 (E:List VarT) (V:List VT):∀ l:List ET,zP E V l= l.map (evalE E V)
 |[]=>by rw[zP];rfl
 |a::l=>by rw[zP,z39 E V l];rfl
theorem zbo {E E':List VarT} {V V':List VT} (x:ET):anyE x= false->evalE E V x= evalE E' V' x:=by
 induction x using ET.ind with
 |h k s v ns its ih=>
  intro h
  rw[anyE,Bool.or_eq_false_iff] at h
  have h2: ¬ k= 2:=by simpa using h.1
  have hL:zP E V its= zP E' V' its:=by
   rw[z39,z39]
   exact List.map_congr_left fun x hx=>ih x hx (z6K h.2 x hx)
  rw[evalE,evalE,hL,if_neg h2,if_neg h2]
end
section
open Go Go.RowKit
theorem z7K {α:Type} {f:α->Bool} {fL:List α->Bool} (h:∀ l,fL l= l.any f) {its:List α} {j:Nat} {y:α} (hy:its[j]?= some y):fL (its.take (j+1))=(fL (its.take j) || f y):=by
 rw[h,h,List.take_add_one,hy,List.any_append]
 simp
theorem z8U {α:Type} {f:α->Bool} {fL:List α->Bool} (h:∀ l,fL l= l.any f) {its:List α} {y:α} (hy:y∈its) (hf:f y= true):fL its= true:=by
 rw[h,List.any_eq_true]
 exact⟨y,hy,hf⟩
theorem z1B:∀ l:List ET,anyEL l= l.any anyE
 |[]=>by rw[anyEL];rfl
 |a::l=>by rw[anyEL,z1B l];rfl
theorem zed:∀ (x:ET) (cs:List Value) (w:World),ExpAt w w.heap.size cs x->Calls Tryz.prog 31 #[.agg ⟨cs⟩] w fun e w'=>e= .returned (.bool (anyE x))/\Below w.heap.size w w':=by
 intro x
 induction x using ET.ind with
 |h k s t ns its ih=>
  intro cs w hv
  obtain⟨v0,v1,v2,v3,v4,v5,vn,vi,rfl,_,_,_,_,hil,hi⟩:=hv.inv
  obtain⟨_,A,c,rfl,hA⟩:=hi
  have HA:=I hA
  have IH:=I ih
  unfold maxLen at hil
  clear hA hv ih
  go_enter Tryz.func31,Tryz.ntmps31
  go_upto_region 1 with (fail)
  have hb0:=ze w (.cells ⟨[.int .i64 k,.string s,v0,v1,v2,v3,v4,v5,vn,.slice A its.length c]⟩ 29)
  have hz0:=zt w (.cells ⟨[.int .i64 k,.string s,v0,v1,v2,v3,v4,v5,vn,.slice A its.length c]⟩ 29)
  have c0:=zA w ⟨[.int .i64 k,.string s,v0,v1,v2,v3,v4,v5,vn,.slice A its.length c]⟩ 29 0
  have c1:=zA w ⟨[.int .i64 k,.string s,v0,v1,v2,v3,v4,v5,vn,.slice A its.length c]⟩ 29 1
  have c5:=zA w ⟨[.int .i64 k,.string s,v0,v1,v2,v3,v4,v5,vn,.slice A its.length c]⟩ 29 9
  generalize w.alloc (.cells ⟨[.int .i64 k,.string s,v0,v1,v2,v3,v4,v5,vn,.slice A its.length c]⟩ 29)= W at*
  have HB:=I hb0
  have C5:=I c5
  have HSZ:=I hz0
  clear hb0 c5 hz0
  simp only[List.getElem?_toArray,List.getElem?_cons_succ,List.getElem?_cons_zero] at c0 c1
  have hcase:(k ==2)= true\/((k ==2)= false/\anyE (.mk k s t ns its)= anyEL its):=by
   rw[anyE]
   by_cases h2:k= 2
   ·exact .inl (by simpa using h2)
   ·exact .inr ⟨by simpa using h2,by simp[h2]⟩
  rcases hcase with hk|⟨hk,hans⟩
  ·have HE:Hid (anyE (.mk k s t ns its)= true):=I (by rw[anyE,decide_eq_true (by simpa using hk)];rfl)
   go_wp2
   go_ret
   exact⟨by rw[HE.out]<;>rfl,HB.out⟩
  all_goals
   have H0:=I hans
   clear hans
   go_upto_region 3 with (fail)
   clear c0 c1
   go_wp2
   go_loopg [3] its.length (fun g i wr=>∃ (j:Nat),j+g= its.length/\i= .int .i64 j/\anyEL (its.take j)= false/\Below W.heap.size W wr)
   case atStart=>exact⟨0,by omega,rfl,rfl,Below.refl _ _⟩
   case round=>
    obtain⟨j,hj,rfl,hno,hb⟩:=hrel
    have HB1:=I hb
    have HNO:=I hno
    have d5:=(hb.cell (p:=⟨w.heap.size,9,none⟩) HSZ.out).trans C5.out
    clear hb hno
    simp only[List.getElem?_toArray,List.getElem?_cons_succ,List.getElem?_cons_zero] at d5
    cases gk with
    |zero=>
     have hge: ¬ ((j:Int) <(its.length:Int)):=by omega
     have HE:Hid (anyEL its= false):=I (by have h:=HNO.out;rw[List.take_of_length_le (by omega)] at h;exact h)
     go_wp2
     go_ret
     exact⟨by rw[H0.out,HE.out]<;>rfl,HB.out.trans (HB1.out.mono HB.out.size)⟩
    |succ g=>
     have hlt:(j:Int) <(its.length:Int):=by omega
     obtain⟨y,hy⟩:∃ y,its[j]?= some y:=⟨_,List.getElem?_eq_getElem (by omega)⟩
     obtain⟨b,o,rfl,hbb,hc⟩:=HA.out (by omega)
     obtain⟨cs,hcl,hr,hR⟩:=hc j y hy
     have hB2:=HB.out.trans (HB1.out.mono HB.out.size)
     have HR:=I (zd hr hB2 hbb)
     have HC:=I (IH.out y (List.mem_of_getElem? hy) cs wr ((hR.under hB2).more hB2.size))
     have HCL:=I hcl
     have HT:=I (z7K (f:=anyE) z1B hy)
     have HM:=I (z8U (f:=anyE) z1B (List.mem_of_getElem? hy))
     clear hc hr hR hB2 hy hcl
     cases hyr:anyE y with
     |true=>
      rw[hyr] at HC
      have HE:=I (HM.out hyr)
      clear hyr
      go_wp2_with (first|(with_reducible refine zc 29 _ rfl ?hw b (o+j*10) cs _ rfl HR.out Tryz.underlying29 rfl ?hi ?_;(case hw=>(exact wantA rfl));(case hi=>rw[HCL.out];kernel_rfl))|(go_at_call 31;refine HC.out.mono ?_;rintro e w' ⟨rfl,hb⟩;have HB2:=I hb;clear hb))
      go_ret
      exact⟨by rw[H0.out,HE.out]<;>rfl,HB.out.trans ((HB1.out.trans (HB2.out.mono HB1.out.size)).mono HB.out.size)⟩
     |false=>
      rw[hyr] at HC
      have HE:Hid (anyEL (its.take (j+1))= false):=I (by rw[HT.out,HNO.out,hyr];rfl)
      clear hyr
      go_wp2_with (first|(with_reducible refine zc 29 _ rfl ?hw b (o+j*10) cs _ rfl HR.out Tryz.underlying29 rfl ?hi ?_;(case hw=>(exact wantA rfl));(case hi=>rw[HCL.out];kernel_rfl))|(go_at_call 31;refine HC.out.mono ?_;rintro e w' ⟨rfl,hb⟩;have HB2:=I hb;clear hb))
      go_roundg g
      case measure=>omega
      case rel=>exact⟨j+1,by omega,by go_num,HE.out,HB1.out.trans (HB2.out.mono HB1.out.size)⟩
theorem z7Q:∀ (x:ET) (cs:List Value) (p o:Nat) (w:World),w.rangeAt p o cs->p < w.heap.size->ExpAt w w.heap.size cs x->Calls Tryz.prog 52 #[.pointer (some ⟨p,o,none⟩)] w fun e w'=>e= .returned (.bool (anyE x))/\Below w.heap.size w w':=by
 intro x
 induction x using ET.ind with
 |h k s t ns its ih=>
  intro cs p o w hr hp hv
  obtain⟨v0,v1,v2,v3,v4,v5,vn,vi,rfl,_,_,_,_,hil,hi⟩:=hv.inv
  obtain⟨_,A,c,rfl,hA⟩:=hi
  have HA:=I hA
  have IH:=I ih
  have d0:w.cell? ⟨p,o,none⟩= some (.int .i64 k):=hr 0 _ rfl
  have d9:w.cell? ⟨p,o+9,none⟩= some (.slice A its.length c):=hr 9 _ rfl
  have D9:=I d9
  have HPL:=I hp
  unfold maxLen at hil
  clear hA hv ih hr
  have hcase:(k ==2)= true\/((k ==2)= false/\anyE (.mk k s t ns its)= anyEL its):=by
   rw[anyE]
   by_cases h2:k= 2
   ·exact .inl (by simpa using h2)
   ·exact .inr ⟨by simpa using h2,by simp[h2]⟩
  rcases hcase with hk|⟨hk,hans⟩
  ·have HE:Hid (anyE (.mk k s t ns its)= true):=I (by rw[anyE,decide_eq_true (by simpa using hk)];rfl)
   go_enter Tryz.func52,Tryz.ntmps52
   go_wp2
   go_ret
   exact⟨by rw[HE.out]<;>rfl,Below.refl _ _⟩
  ·have H0:=I hans
   clear hans
   go_enter Tryz.func52,Tryz.ntmps52
   go_wp2
   go_loopg [14] its.length (fun g i wr=>∃ (j:Nat),j+g= its.length/\i= .int .i64 j/\anyEL (its.take j)= false/\Below w.heap.size w wr)
   case atStart=>exact⟨0,by omega,rfl,rfl,Below.refl _ _⟩
   case round=>
    obtain⟨j,hj,rfl,hno,hb⟩:=hrel
    have HB1:=I hb
    have HNO:=I hno
    have d9:=(hb.cell (p:=⟨p,o+9,none⟩) HPL.out).trans D9.out
    clear hb hno
    cases gk with
    |zero=>
     have hge: ¬ ((j:Int) <(its.length:Int)):=by omega
     have HE:Hid (anyEL its= false):=I (by have h:=HNO.out;rw[List.take_of_length_le (by omega)] at h;exact h)
     go_wp2
     go_ret
     exact⟨by rw[H0.out,HE.out]<;>rfl,HB1.out⟩
    |succ g=>
     have hlt:(j:Int) <(its.length:Int):=by omega
     obtain⟨y,hy⟩:∃ y,its[j]?= some y:=⟨_,List.getElem?_eq_getElem (by omega)⟩
     obtain⟨b,ob,rfl,hbb,hc⟩:=HA.out (by omega)
     obtain⟨cs,hcl,hr,hR⟩:=hc j y hy
     have HC:=I (IH.out y (List.mem_of_getElem? hy) cs b (ob+j*10) wr (zd hr HB1.out hbb) (Nat.lt_of_lt_of_le hbb HB1.out.size) ((hR.under HB1.out).more HB1.out.size))
     have HT:=I (z7K (f:=anyE) z1B hy)
     have HM:=I (z8U (f:=anyE) z1B (List.mem_of_getElem? hy))
     clear hc hr hR hy hcl
     cases hyr:anyE y with
     |true=>
      rw[hyr] at HC
      have HE:=I (HM.out hyr)
      clear hyr
      go_wp2_with (go_at_call 52;refine HC.out.mono ?_;rintro e w4 ⟨rfl,hb⟩;have HB2:=I hb;clear hb)
      go_ret
      exact⟨by rw[H0.out,HE.out]<;>rfl,HB1.out.trans (HB2.out.mono HB1.out.size)⟩
     |false=>
      rw[hyr] at HC
      have HE:Hid (anyEL (its.take (j+1))= false):=I (by rw[HT.out,HNO.out,hyr];rfl)
      clear hyr
      go_wp2_with (go_at_call 52;refine HC.out.mono ?_;rintro e w4 ⟨rfl,hb⟩;have HB2:=I hb;clear hb)
      go_roundg g
      case measure=>omega
      case rel=>exact⟨j+1,by omega,by go_num,HE.out,HB1.out.trans (HB2.out.mono HB1.out.size)⟩
end
section
open Go Go.RowKit
def i64R (a:Int):Prop:= -9223372036854775808<=a/\a<=9223372036854775807
section
variable {E:List VarT} {V:List VT}
end
instance (a:Int):Decidable (i64R a):=by unfold i64R;exact inferInstance
end
end Go.Proofs.YtmpbepjjbaeebaaGreatDoor
