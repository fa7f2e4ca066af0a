/- Parts of a proof: EvalP2, EvNotP, EvMathP, RDepth. -/
import Derived.Test.YtmpbepjjbaeebaaGreatDoorPackN8
import Derived.Test.YtmpbepjjbaeebaaGreatDoorPackN9
import Derived.Test.YtmpbepjjbaeebaaGreatDoorPackN13
import Derived.Test.YtmpbepjjbaeebaaGreatDoorPackN26
import Derived.Test.YtmpbepjjbaeebaaGreatDoorPackN27
import Derived.Test.YtmpbepjjbaeebaaGreatDoorPackN29
set_option maxHeartbeats 8000000
set_option maxRecDepth 100000
set_option linter.unusedVariables false
set_option linter.unusedSimpArgs false
section
namespace Go.Proofs.YtmpbepjjbaeebaaGreatDoor
open Go Go.RowKit
open Go.Lib (hid)
mutual
def szV:VT→Nat
 | .mk _ _ _ _ _ its=>szVL its+1
def szVL:List VT→Nat
 |[]=>0
 |a::l=>szV a+szVL l
end
theorem zdf (t:VT):1≤szV t:=by cases t;rw[szV];omega
theorem z7u:∀ (l:List VT),(∀ x∈l,∀ n,n < 500→cntV x n= min 500 (n+szV x))→∀ n,n≤500→cntL l n= min 500 (n+szVL l)
 |[],_,n,hn=>by rw[cntL,szVL];omega
 |a::l,h,n,hn=>by
  rw[cntL,szVL]
  by_cases h5:500≤n
  ·rw[if_pos h5];omega
  ·rw[if_neg h5,h a (by simp) n (by omega),z7u l (fun x hx=>h x (by simp[hx])) _ (by omega)]
   omega
theorem zcH (t:VT):∀ n,n < 500→cntV t n= min 500 (n+szV t):=by
 induction t using VT.ind with
 |h k m f s ns its ih=>
  intro n hn
  rw[cntV,szV,z7u its ih (n+1) (by omega)]
  omega
theorem z82:∀ {l:List VT} {x:VT},x∈l→szV x≤szVL l
 |a::l,x,hx=>by
  rw[szVL]
  rcases List.mem_cons.1 hx with rfl|hx
  ·omega
  ·have:=z82 hx;omega
theorem z7K:∀ (l:List VT),l.length≤szVL l
 |[]=>by simp
 |a::l=>by
  have:=z7K l
  have:=zdf a
  rw[szVL,List.length_cons];omega
theorem z4u:∀ (l:List VT) (d:Nat),(∀ x∈l,∀ d,zw x (d+1)= true→zw x d= true)→zS l (d+1)= true→zS l d= true
 |[],_,_,_=>by rw[zS]
 |a::l,d,h,hr=>by
  rw[zS,Bool.and_eq_true] at hr
  rw[zS,h a (by simp) d hr.1,z4u l d (fun x hx=>h x (by simp[hx])) hr.2];rfl
theorem z4A (t:VT):∀ d,zw t (d+1)= true→zw t d= true:=by
 induction t using VT.ind with
 |h k n f s ns its ih=>
  intro d hr
  rw[zw] at hr ⊢
  by_cases h1:12 < d+1
  ·rw[if_pos h1] at hr;cases hr
  ·rw[if_neg h1] at hr
   rw[if_neg (by omega: ¬ 12 < d)]
   have hL:=z4u its (d+1) ih
   by_cases k1:k= 1
   ·simp only[if_pos k1] at hr ⊢;exact hr
   by_cases k2:k= 2
   ·simp only[if_neg k1,if_pos k2] at hr ⊢;exact hr
   by_cases k3:k= 3
   ·simp only[if_neg k1,if_neg k2,if_pos k3] at hr ⊢;exact hr
   by_cases k4:k= 4
   ·simp only[if_neg k1,if_neg k2,if_neg k3,if_pos k4] at hr ⊢;exact hr
   by_cases k6:k= 6
   ·simp only[if_neg k1,if_neg k2,if_neg k3,if_neg k4,if_pos k6,Bool.and_eq_true] at hr ⊢
    exact⟨hr.1,hr.2.1,hr.2.2.1,hL hr.2.2.2⟩
   by_cases k5:k= 5
   ·simp only[if_neg k1,if_neg k2,if_neg k3,if_neg k4,if_neg k6,if_pos k5,Bool.and_eq_true] at hr ⊢
    exact⟨hr.1,hr.2.1,hL hr.2.2⟩
   ·simp only[if_neg k1,if_neg k2,if_neg k3,if_neg k4,if_neg k6,if_neg k5] at hr;cases hr
theorem z0G {t:VT}:zi t= true↔szV t≤200∧zw t 1= true:=by
 unfold zi
 rw[Bool.and_eq_true,decide_eq_true_eq,zcH t 0 (by omega)]
 constructor
 ·rintro⟨h,h2⟩;exact⟨by omega,h2⟩
 ·rintro⟨h,h2⟩;exact⟨by omega,h2⟩
theorem z6g {k n:Int} {f:Nat} {s:ByteArray} {ns:List ByteArray} {its:List VT} (h:zi (.mk k n f s ns its)= true) {x:VT} (hx:x∈its):zi x= true:=by
 obtain⟨h1,h2⟩:=z0G.1 h
 rw[szV] at h1
 have h3:=z82 hx
 refine z0G.2 ⟨by omega,?_⟩
 rcases z1T h2 with ⟨_,_,_,e⟩|⟨_,_,e⟩|⟨_,_,e⟩|⟨_,_,_,e⟩|⟨_,_,h4⟩|⟨_,_,_,h4⟩
 ·rw[e] at hx;cases hx
 ·rw[e] at hx;cases hx
 ·rw[e] at hx;cases hx
 ·rw[e] at hx;cases hx
 ·exact z4A x 1 (z1U h4 x hx)
 ·exact z4A x 1 (z1U h4 x hx)
theorem z5R {k n:Int} {f:Nat} {s:ByteArray} {ns:List ByteArray} {its:List VT} (h:zi (.mk k n f s ns its)= true) {i:Nat} (hi:i < its.length):zi (its.getD i v0)= true:=by
 have:its.getD i v0= its[i]:=by simp[List.getD,List.getElem?_eq_getElem hi]
 rw[this];exact z6g h (List.getElem_mem hi)
theorem z0d {k n:Int} {f:Nat} {s:ByteArray} {ns:List ByteArray} {its:List VT} (h:zi (.mk k n f s ns its)= true):its.length≤199∧ns.length≤its.length∧(k= 6→ns.length= its.length):=by
 obtain⟨h1,h2⟩:=z0G.1 h
 rw[szV] at h1
 have h3:=z7K its
 refine⟨by omega,?_⟩
 rcases z1T h2 with ⟨e0,_,e,_⟩|⟨e0,e,_⟩|⟨e0,e,_⟩|⟨e0,_,e,_⟩|⟨e0,e,_⟩|⟨e0,e,_⟩
 all_goals first|(rw[e];exact⟨Nat.zero_le _,fun h6=>by omega⟩)|exact⟨by omega,fun _=>e⟩
theorem z6o (t:VT):zi t= true→Fit t:=by
 induction t using VT.ind with
 |h k n f s ns its ih=>
  intro h
  obtain⟨h1,h2,_⟩:=z0d h
  have hr:reachBytes= 140737488351232:=rfl
  exact .mk (by omega) (by omega) fun x hx=>ih x hx (z6g h hx)
theorem z43 (v:VT):zi (z00 v)= zi v:=by unfold zi;rw[z8m,z8C]
theorem z1l (b:Bool):zi (vB b)= true:=by cases b<;>decide +kernel
theorem z7j:(⟨#[]⟩:ByteArray).toList.isEmpty= true:=by decide +kernel
theorem zae:cmpF 0 0= 0:=by decide +kernel
theorem z3k (n:Int):zi (vI n)= true:=z0G.2 ⟨by unfold vI;rw[szV,szVL];omega,by
 unfold vI;rw[zw,if_neg (by decide),if_neg (by decide),if_pos rfl];unfold bareB;rw[zae,z7j];simp⟩
theorem z58 (f:Nat):zi (vF f)= true:=z0G.2 ⟨by unfold vF;rw[szV,szVL];omega,by
 unfold vF;rw[zw,if_neg (by decide),if_neg (by decide),if_neg (by decide),if_pos rfl];unfold bareB;rw[z7j];simp⟩
theorem zc6 {s:ByteArray} (h:s.size≤200):zi (vS s)= true:=z0G.2 ⟨by unfold vS;rw[szV,szVL];omega,by
 unfold vS;rw[zw,if_neg (by decide),if_neg (by decide),if_neg (by decide),if_neg (by decide),if_pos rfl,decide_eq_true h];unfold bareB;rw[zae];simp⟩
theorem z42 {v r:VT} (h:szd v= .ok r):r= v∧zi r= true:=by
 unfold szd at h
 split at h
 ·injection h with h;subst h;exact⟨rfl,by assumption⟩
 ·cases h
theorem z5r {k n:Int} {f:Nat} {s:ByteArray} {ns:List ByteArray} {its:List VT} (hn: -9223372036854775808≤n∧n≤9223372036854775807) (hk:k= 1∨k= 2∨k= 3):(textV (.mk k n f s ns its)).length≤200:=by
 rw[textV]
 rcases hk with rfl|rfl|rfl
 ·simp only[if_true]
  split<;>decide
 ·rw[if_neg (by decide),if_pos rfl]
  have:=z2o hn.1 hn.2;omega
 ·rw[if_neg (by decide),if_neg (by decide),if_pos rfl]
  have:=z6E f;omega
theorem zaJ {k:Int} {s:ByteArray} {a v:VT} (hs:saneV a) (ha:zi a= true) (h:unV k s a= .ok v):zi v= true:=by
 cases a with
 |mk kv n f sv ns its=>
  rw[saneV] at hs
  rw[unV] at h
  by_cases k18:k= 18
  ·rw[if_pos k18] at h
   by_cases k6:kv= 6
   ·rw[if_neg (by simpa using k6)] at h
    have hl:=(z0d ha).2.2 k6
    by_cases h1:Lib.idxOfS ns s= -1
    ·rw[if_pos h1] at h;cases h
    ·rw[if_neg h1] at h
     injection h with h
     rw[← h]
     rcases z6L ns s with h2|h2
     ·contradiction
     ·exact z5R ha (by omega)
   ·rw[if_pos k6] at h;cases h
  rw[if_neg k18] at h
  by_cases k4:k= 4
  ·rw[if_pos k4] at h
   split at h
   ·injection h with h;rw[← h];exact z1l _
   ·cases h
  rw[if_neg k4] at h
  by_cases k21:k= 21
  ·rw[if_pos k21] at h
   split at h
   ·injection h with h;rw[← h];exact z58 _
   ·cases h
  rw[if_neg k21] at h
  by_cases k22:k= 22
  ·rw[if_pos k22] at h
   split at h
   ·split at h
    ·injection h with h;rw[← h];exact z3k _
    ·cases h
   ·cases h
  rw[if_neg k22] at h
  by_cases k23:k= 23
  ·rw[if_pos k23] at h
   split at h
   ·injection h with h;rw[← h];exact ha
   ·split at h
    ·injection h with h
     rename_i hk
     rw[← h]
     refine zc6 ?_
     show(textV _).toArray.size≤200
     rw[List.size_toArray]
     exact z5r hs.1 hk
    ·cases h
  rw[if_neg k23] at h
  by_cases k20:k= 20
  ·rw[if_pos k20] at h
   split at h
   ·injection h with h;rw[← h];exact z3k _
   ·cases h
  rw[if_neg k20] at h
  split at h
  ·injection h with h;rw[← h];exact z58 _
  ·split at h
   ·split at h
    ·cases h
    ·injection h with h;rw[← h];exact z3k _
   ·cases h
theorem z7q {α:Type} {x:Except Int α} {g:α→VT} {v:VT} (h:x.map g= .ok v):∃ y,x= .ok y∧v= g y:=by
 cases x with
 |error e=>cases h
 |ok y=>injection h with h;exact⟨y,rfl,h.symm⟩
theorem z9N {k:Int} {a b v:VT} (ha:zi a= true) (h:binV k a b= .ok v):zi v= true:=by
 cases a with
 |mk ka na fa sa nsa ia=>
 cases b with
 |mk kb nb fb sb nsb ib=>
  rw[binV] at h
  by_cases k19:k= 19
  ·rw[if_pos k19] at h
   split at h
   ·split at h
    ·rename_i hb
     injection h with h;rw[← h]
     exact z5R ha (by omega)
    ·cases h
   ·cases h
  rw[if_neg k19] at h
  split at h
  ·cases h
  split at h
  ·injection h with h;rw[← h];exact z1l _
  split at h
  ·obtain⟨y,_,rfl⟩:=z7q h;exact z1l _
  split at h
  ·obtain⟨y,_,rfl⟩:=z7q h;exact z3k _
  split at h
  ·obtain⟨y,_,rfl⟩:=z7q h;exact z58 _
  split at h
  ·exact(z42 h).2
  ·cases h
theorem zcY {r:Res} {b:Bool} (hr:∀ v,r= .ok v→zi v= true) (h:boolR r= .ok b):r= .ok (vB b):=by
 match r,hr,h with
 | .ok (.mk k n f s ns its),hr,h=>
  rw[boolR] at h
  split at h
  ·rename_i hk
   injection h with h
   have h1:=(z0G.1 (hr _ rfl)).2
   subst hk
   rw[zw] at h1
   simp only[show ¬ 12 < 1 from by omega,if_false,if_true,Bool.and_eq_true,beq_iff_eq] at h1
   obtain⟨h2,h3⟩:=h1
   unfold bareB at h2
   simp only[Bool.and_eq_true,Bool.true_or,Bool.false_or,beq_iff_eq,true_and] at h2
   obtain⟨hf,hs,hn,hi⟩:=h2
   have e1:=(z3x f).1 hf
   have e2:s=⟨#[]⟩:=by
    have:s.toList=[]:=List.isEmpty_iff.1 hs
    rw[ByteArray.toList_eq] at this
    cases s with
    |mk d=>simp at this;subst this;rfl
   have e3:=List.eq_nil_of_length_eq_zero hn
   have e4:=List.eq_nil_of_length_eq_zero hi
   have e5:n= 0∨n= 1:=by omega
   subst e1 e2 e3 e4 h
   unfold vB
   rcases e5 with rfl|rfl<;>rfl
  ·cases h
end Go.Proofs.YtmpbepjjbaeebaaGreatDoor
end
section
namespace Go.Proofs.YtmpbepjjbaeebaaGreatDoor
open Go Go.RowKit
open Go.Lib (hid)
mutual
def szE:ET→Nat
 | .mk _ _ _ _ its=>szEL its+1
def szEL:List ET→Nat
 |[]=>0
 |a::l=>szE a+szEL l
end
theorem z68 (t:ET):1≤szE t:=by cases t;rw[szE];omega
theorem z6B:∀ (l:List ET),(∀ x∈l,∀ n,n < 500→cntE x n= min 500 (n+szE x))→∀ n,n≤500→cntEL l n= min 500 (n+szEL l)
 |[],_,n,hn=>by rw[cntEL,szEL];omega
 |a::l,h,n,hn=>by
  rw[cntEL,szEL]
  by_cases h5:500≤n
  ·rw[if_pos h5];omega
  ·rw[if_neg h5,h a (by simp) n (by omega),z6B l (fun x hx=>h x (by simp[hx])) _ (by omega)]
   omega
theorem z3i (t:ET):∀ n,n < 500→cntE t n= min 500 (n+szE t):=by
 induction t using ET.ind with
 |h k s v ns its ih=>
  intro n hn
  rw[cntE,szE,z6B its ih (n+1) (by omega)]
  omega
mutual
def zO:ET→Nat→Nat
 | .mk _ _ _ _ its,far=>(if far= 0 then 0 else zP its (far - 1))+1
def zP:List ET→Nat→Nat
 |[],_=>0
 |a::l,far=>max (zO a far) (zP l far)
end
theorem z4q {far:Nat}:∀ {l:List ET} {x:ET},x∈l→zO x far≤zP l far
 |a::l,x,hx=>by
  rw[zP]
  rcases List.mem_cons.1 hx with rfl|hx
  ·omega
  ·have:=z4q (far:=far) hx;omega
theorem z2M {d:Nat}:∀ {l:List ET},zE l d= true↔∀ x∈l,zp x d= true
 |[]=>by rw[zE];simp
 |a::l=>by rw[zE,Bool.and_eq_true,z2M];simp
theorem z1y (x:ET):∀ (d d' far m:Nat),zp x d= true→zO x far≤m→m≤far→d'+m≤13→zp x d'= true:=by
 induction x using ET.ind with
 |h k s v ns its ih=>
  intro d d' far m hr hm hf hd
  rw[zO] at hm
  rw[zp] at hr ⊢
  simp only[Bool.and_eq_true,decide_eq_true_eq] at hr ⊢
  obtain⟨h1,h2,h3,h4,h5⟩:=hr
  have hf0: ¬ far= 0:=by omega
  rw[if_neg hf0] at hm
  refine⟨by omega,h2,h3,h4,?_⟩
  rw[z2M] at h5 ⊢
  intro y hy
  exact ih y hy (d+1) (d'+1) (far - 1) (m - 1) (h5 y hy) (by have:=z4q (far:=far - 1) hy;omega) (by omega) (by omega)
theorem z0z {t:ET}:zK t= true↔szE t≤200∧zp t 1= true:=by
 unfold zK
 rw[Bool.and_eq_true,decide_eq_true_eq,z3i t 0 (by omega)]
 constructor
 ·rintro⟨h,h2⟩;exact⟨by omega,h2⟩
 ·rintro⟨h,h2⟩;exact⟨by omega,h2⟩
def notE (x:ET):ET:= .mk 4 ⟨#[]⟩ zV [] [x]
def aN:ByteArray:=⟨#[97]⟩
def zeroE:ET:= .mk 1 ⟨#[]⟩ (vI 0) [] []
def yesE:ET:= .mk 1 ⟨#[]⟩ (vB true) [] []
def ifE (x:ET):ET:= .mk 15 ⟨#[]⟩ zV [] [yesE,x,zeroE]
def recE (x:ET):ET:= .mk 17 ⟨#[]⟩ zV [aN] [x]
def fldE (x:ET):ET:= .mk 18 aN zV [] [recE x]
def lstE (x:ET):ET:= .mk 16 ⟨#[]⟩ zV [] [x]
def idxE (x:ET):ET:= .mk 19 ⟨#[]⟩ zV [] [lstE x,zeroE]
theorem z2e {k:Int} {s:ByteArray} {ns:List ByteArray} {x:ET} {d:Nat} (h:(kidsB (z07 k) 1 && (zF k s ns 1 && valB k zV))= true):zp (.mk k s zV ns [x]) d=(decide (d≤12) && zp x (d+1)):=by
 simp only[Bool.and_eq_true] at h
 rw[zp,zE,zE]
 simp only[List.length_cons,List.length_nil,Nat.zero_add]
 rw[h.1,h.2.1,h.2.2]
 simp
theorem z3n {k:Int} {x y:ET} {d:Nat} (h:(kidsB (z07 k) 2 && (zF k ⟨#[]⟩ [] 2 && valB k zV))= true):zp (twoE k x y) d=(decide (d≤12) && (zp x (d+1) && zp y (d+1))):=by
 simp only[Bool.and_eq_true] at h
 unfold twoE
 rw[zp,zE,zE,zE]
 simp only[List.length_cons,List.length_nil,Nat.zero_add]
 rw[h.1,h.2.1,h.2.2]
 simp
theorem z1Q {x:ET} {d:Nat}:zp (notE x) d=(decide (d≤12) && zp x (d+1)):=z2e (by decide +kernel)
theorem za2 {x:ET} {d:Nat}:zp (recE x) d=(decide (d≤12) && zp x (d+1)):=z2e (by decide +kernel)
theorem zaq {x:ET} {d:Nat}:zp (fldE x) d=(decide (d≤12) && zp (recE x) (d+1)):=z2e (by decide +kernel)
theorem zbn {x:ET} {d:Nat}:zp (lstE x) d=(decide (d≤12) && zp x (d+1)):=z2e (by decide +kernel)
theorem z5M {d:Nat}:zp zeroE d= decide (d≤12):=by
 have h2:(kidsB (z07 1) 0 && (zF 1 ⟨#[]⟩ [] 0 && valB 1 (vI 0)))= true:=by decide +kernel
 simp only[Bool.and_eq_true] at h2
 unfold zeroE
 rw[zp,zE]
 simp only[List.length_nil]
 rw[h2.1,h2.2.1,h2.2.2];simp
theorem zbj {d:Nat}:zp yesE d= decide (d≤12):=by
 have h2:(kidsB (z07 1) 0 && (zF 1 ⟨#[]⟩ [] 0 && valB 1 (vB true)))= true:=by decide +kernel
 simp only[Bool.and_eq_true] at h2
 unfold yesE
 rw[zp,zE]
 simp only[List.length_nil]
 rw[h2.1,h2.2.1,h2.2.2];simp
theorem zco {x:ET} {d:Nat}:zp (ifE x) d=(decide (d≤11) && zp x (d+1)):=by
 have h:(kidsB (z07 15) 3 && (zF 15 ⟨#[]⟩ [] 3 && valB 15 zV))= true:=by decide +kernel
 simp only[Bool.and_eq_true] at h
 unfold ifE
 rw[zp,zE,zE,zE,zE,z5M,zbj]
 simp only[List.length_cons,List.length_nil,Nat.zero_add]
 rw[h.1,h.2.1,h.2.2]
 by_cases h1:d≤11
 ·have h2:d≤12:=by omega
  simp[h1,h2]
 ·have h2: ¬ d+1≤12:=by omega
  simp[h1,h2]
theorem zaC {x:ET} {d:Nat}:zp (idxE x) d=(decide (d≤11) && zp (lstE x) (d+1)):=by
 have:idxE x= twoE 19 (lstE x) zeroE:=rfl
 rw[this,z3n (by decide +kernel),z5M]
 by_cases h1:d≤11
 ·have h2:d≤12:=by omega
  simp[h1,h2]
 ·have h2: ¬ d+1≤12:=by omega
  simp[h1,h2]
section
variable {E:List VarT} {V:List VT}
theorem zbU (x:ET):evalE E V (notE x)= match evalE E V x with| .error e=> .error e| .ok v=>unV 4 ⟨#[]⟩ v:=by
 unfold notE
 rw[evalE,zt,zt,if_neg (by decide),if_neg (by decide),if_neg (by decide)]
 cases evalE E V x with
 |error e=>rfl
 |ok v=>rfl
theorem z1e {x:ET} {b:Bool} (h:evalE E V x= .ok (vB b)):evalE E V (notE x)= .ok (vB (!b)):=by
 rw[zbU,h]
 cases b<;>rfl
theorem z8q {x y:ET} {a b:Bool} (h:evalE E V x= .ok (vB a)) (h2:evalE E V y= .ok (vB b)):evalE E V (twoE 13 x y)= .ok (vB (a && b)):=by
 unfold twoE
 rw[evalE,zt,zt,zt,if_neg (by decide),if_neg (by decide),if_pos (by decide),h,h2]
 cases a<;>cases b<;>rfl
theorem z9v {x y:ET} {a b:Bool} (h:evalE E V x= .ok (vB a)) (h2:evalE E V y= .ok (vB b)):evalE E V (twoE 14 x y)= .ok (vB (a || b)):=by
 unfold twoE
 rw[evalE,zt,zt,zt,if_neg (by decide),if_neg (by decide),if_pos (by decide),h,h2]
 cases a<;>cases b<;>rfl
theorem z77 {x:ET} {v:VT} (h:evalT x E V= .ok v):V.all zi= true∧zK x= true∧evalE E V x= .ok v:=by
 unfold evalT at h
 split at h
 ·rename_i h1
  rw[Bool.and_eq_true] at h1
  exact⟨h1.1,h1.2,h⟩
 ·cases h
theorem z4V {x:ET} {r:Res} (h1:V.all zi= true) (h2:zK x= true) (h:evalE E V x= r):evalT x E V= r:=by
 unfold evalT
 rw[h1,h2]
 exact h
theorem zdH {x y:ET} {a b:Bool} (hx:evalT x E V= .ok (vB a)) (hy:evalT y E V= .ok (vB b)) (dx:zO x 40≤8) (dy:zO y 40≤8) (hc:cntE x 0+cntE y 0≤150):
  evalT (notE (notE x)) E V= .ok (vB a)∧evalT (notE (twoE 13 x y)) E V= .ok (vB (!(a && b)))∧evalT (twoE 14 (notE x) (notE y)) E V= .ok (vB (!a || !b)):=by
 obtain⟨h1,hrx,ex⟩:=z77 hx
 obtain⟨_,hry,ey⟩:=z77 hy
 rw[z3i x 0 (by omega),z3i y 0 (by omega)] at hc
 have rx:=(z0z.1 hrx).2
 have ry:=(z0z.1 hry).2
 have px:=z68 x
 have py:=z68 y
 have rx2:∀ d,d≤3→zp x d= true:=fun d hd=>z1y x 1 d 40 8 rx dx (by omega) (by omega)
 have ry2:∀ d,d≤3→zp y d= true:=fun d hd=>z1y y 1 d 40 8 ry dy (by omega) (by omega)
 refine⟨z4V h1 (z0z.2 ⟨?_,?_⟩) ?_,z4V h1 (z0z.2 ⟨?_,?_⟩) ?_,z4V h1 (z0z.2 ⟨?_,?_⟩) ?_⟩
 ·unfold notE;simp only[szE,szEL];omega
 ·rw[z1Q,z1Q,rx2 _ (by omega)];rfl
 ·rw[z1e (z1e ex)];cases a<;>rfl
 ·unfold notE twoE;simp only[szE,szEL];omega
 ·rw[z1Q,z3n (by decide +kernel),rx2 _ (by omega),ry2 _ (by omega)];rfl
 ·rw[z1e (z8q ex ey)]
 ·unfold notE twoE;simp only[szE,szEL];omega
 ·rw[z3n (by decide +kernel),z1Q,z1Q,rx2 _ (by omega),ry2 _ (by omega)];rfl
 ·rw[z9v (z1e ex) (z1e ey)]
theorem z9S {x y:ET} (hr:zK y= zK x) (he:evalE E V y= evalE E V x):evalT y E V= evalT x E V:=by
 unfold evalT
 rw[hr,he]
theorem z36 {x y:ET} {d:Nat} (dx:zO x 40≤9) (hc:cntE x 0≤180) (hs:szE y≤szE x+20) (hd:1≤d∧d≤4) (hy:zp y 1= zp x d):zK y= zK x:=by
 rw[z3i x 0 (by omega)] at hc
 rw[Bool.eq_iff_iff,z0z,z0z,hy]
 constructor
 ·rintro⟨_,h⟩;exact⟨by omega,z1y x d 1 40 9 h dx (by omega) (by omega)⟩
 ·rintro⟨_,h⟩;exact⟨by omega,z1y x 1 d 40 9 h dx (by omega) (by omega)⟩
theorem zas:z00 (vB true)= vB true:=by
 have:zm 0= 0:=by decide +kernel
 unfold vB;rw[z00,z0u,this]
theorem zbN (n:Int):z00 (vI n)= vI n:=by
 unfold vI;rw[z00,z0u]
 have:zm 0= 0:=by decide +kernel
 rw[this]
theorem zce:evalE E V yesE= .ok (vB true):=by unfold yesE;rw[evalE,if_pos rfl,zas]
theorem zbF:evalE E V zeroE= .ok (vI 0):=by unfold zeroE;rw[evalE,if_pos rfl,zbN]
theorem zcb {x:ET} (dx:zO x 40≤9) (hc:cntE x 0≤180):evalT (ifE x) E V= evalT x E V:=by
 refine z9S (z36 dx hc (d:=2) (by unfold ifE yesE zeroE;simp only[szE,szEL];omega) (by omega) ?_) ?_
 ·rw[zco];simp
 ·unfold ifE
  rw[evalE,zt,zt,zt,zt,if_neg (by decide),if_neg (by decide),if_pos (by decide),zce]
  rfl
def wrapR (f:VT→VT):Res→Res
 | .error e=> .error e
 | .ok v=>if zi (f v)= true then .ok v else .error 3
theorem z5w {x y:ET} {f:VT→VT} (dx:zO x 40≤9) (hr:zK y= zK x) (he:evalE E V y= wrapR f (evalE E V x)):evalT y E V= wrapR f (evalT x E V):=by
 unfold evalT
 rw[hr,he]
 split<;>rfl
theorem zaV {x:ET} (dx:zO x 40≤9) (hc:cntE x 0≤180):evalT (fldE x) E V= wrapR (fun v=> .mk 6 0 0 ⟨#[]⟩ [aN] [v]) (evalT x E V):=by
 refine z5w dx (z36 dx hc (d:=3) (by unfold fldE recE;simp only[szE,szEL];omega) (by omega) ?_) ?_
 ·rw[zaq,za2];simp
 ·unfold fldE recE
  rw[evalE,zt,zt,if_neg (by decide),if_neg (by decide),if_neg (by decide),evalE,zt,zt,if_neg (by decide),if_neg (by decide),if_neg (by decide)]
  cases evalE E V x with
  |error e=>rfl
  |ok v=>
   show(match seqR [szd (.mk 6 0 0 ⟨#[]⟩ [aN] [v])] with| .error e=> .error e| .ok l=>combR 18 aN [] l)= wrapR _ (.ok v)
   unfold szd wrapR
   by_cases h:zi (.mk 6 0 0 ⟨#[]⟩ [aN] [v])= true
   ·simp only[if_pos h]
    show unV 18 aN (.mk 6 0 0 ⟨#[]⟩ [aN] [v])= .ok v
    have hi:Lib.idxOfS [aN] aN= 0:=by decide +kernel
    rw[unV,if_pos rfl,if_neg (by decide),hi,if_neg (by decide)]
    rfl
   ·simp only[if_neg h];rfl
theorem zb0 {x:ET} (dx:zO x 40≤9) (hc:cntE x 0≤180):evalT (idxE x) E V= wrapR (fun v=> .mk 5 0 0 ⟨#[]⟩ [] [v]) (evalT x E V):=by
 refine z5w dx (z36 dx hc (d:=3) (by unfold idxE lstE zeroE;simp only[szE,szEL];omega) (by omega) ?_) ?_
 ·rw[zaC,zbn];simp
 ·unfold idxE lstE
  rw[evalE,zt,zt,zt,if_neg (by decide),if_neg (by decide),if_neg (by decide),evalE,zt,zt,if_neg (by decide),if_neg (by decide),if_neg (by decide),zbF]
  cases evalE E V x with
  |error e=>rfl
  |ok v=>
   show(match seqR [szd (.mk 5 0 0 ⟨#[]⟩ [] [v]),.ok (vI 0)] with| .error e=> .error e| .ok l=>combR 19 ⟨#[]⟩ [] l)= wrapR _ (.ok v)
   unfold szd wrapR
   by_cases h:zi (.mk 5 0 0 ⟨#[]⟩ [] [v])= true
   ·simp only[if_pos h]
    show binV 19 (.mk 5 0 0 ⟨#[]⟩ [] [v]) (vI 0)= .ok v
    unfold vI
    rw[binV,if_pos rfl,if_pos (by decide),if_pos (by simp)]
    rfl
   ·simp only[if_neg h];rfl
end
end Go.Proofs.YtmpbepjjbaeebaaGreatDoor
end
section
namespace Go.Proofs.YtmpbepjjbaeebaaGreatDoor
open Go Go.RowKit
open Go.Lib (hid)
def i64R (a:Int):Prop:= -9223372036854775808≤a∧a≤9223372036854775807
section
variable {E:List VarT} {V:List VT}
end
instance (a:Int):Decidable (i64R a):=by unfold i64R;exact inferInstance
end Go.Proofs.YtmpbepjjbaeebaaGreatDoor
end
section
namespace Go.Proofs.YtmpbepjjbaeebaaGreatDoor
open Go Go.RowKit
open Go.Lib (hid)
theorem z4C (k:Int) (s:ByteArray) (t:VT) (ns:List ByteArray) (its:List ET) (far:Nat):((if far= 0 then 0 else zP its (far - 1):Nat):Int)+1=(zO (.mk k s t ns its) far:Nat):=by
 cases far with
 |zero=>simp[zO]
 |succ n=>simp[zO]
theorem zag:∀ (x:ET) (far:Nat),zO x far≤far+1:=by
 intro x
 induction x using ET.ind with
 |h k s t ns its ih=>
  intro far
  cases far with
  |zero=>simp[zO]
  |succ n=>
   have h:zP its n≤n+1:=by
    clear k s t ns
    induction its with
    |nil=>simp[zP]
    |cons a l ihl=>
     rw[zP]
     have h1:=ih a (by simp) n
     have h2:=ihl fun x hx=>ih x (by simp[hx])
     omega
   rw[zO,if_neg (by omega),show n+1 - 1= n by omega]
   omega
theorem z9L (l:List ET) (far:Nat):zP l far≤far+1:=by
 induction l with
 |nil=>simp[zP]
 |cons a l ih=>
  rw[zP]
  have:=zag a far
  omega
theorem z81 (l:List ET) (y:ET) (far:Nat):zP (l ++ [y]) far= max (zP l far) (zO y far):=by
 induction l with
 |nil=>simp[zP]
 |cons a l ih=>rw[List.cons_append,zP,zP,ih,Nat.max_assoc]
theorem z7k {its:List ET} {j far:Nat} {y:ET} (hy:its[j]?= some y):zP (its.take (j+1)) far= max (zP (its.take j) far) (zO y far):=by
 rw[List.take_add_one,hy]
 exact z81 _ y far
theorem z3m:∀ (x:ET) (far:Nat) (cs:List Value) (w:World),far≤40→ExpAt w w.heap.size cs x→Calls Tryz.prog 24 #[.agg ⟨cs⟩,.int .i64 far] w fun e w'=>e= .returned (.int .i64 (zO x far:Nat))∧Below w.heap.size w w':=by
 intro x
 induction x using ET.ind with
 |h k s t ns its ih=>
  intro far cs w hfar hv
  obtain⟨v0,v1,v2,v3,v4,v5,vn,vi,rfl,_,_,_,_,hil,hi⟩:=hv.inv
  obtain⟨_,A,c,rfl,hA⟩:=hi
  have HA:=hid hA
  have IH:=hid ih
  unfold maxLen at hil
  clear hA hv ih
  go_enter Tryz.func24,Tryz.ntmps24
  go_upto_region 1 with (fail)
  have hb0:=zc w (.cells ⟨[.int .i64 k,.string s,v0,v1,v2,v3,v4,v5,vn,.slice A its.length c]⟩ 29)
  have hz0:=zC w (.cells ⟨[.int .i64 k,.string s,v0,v1,v2,v3,v4,v5,vn,.slice A its.length c]⟩ 29)
  have c5:=zr w ⟨[.int .i64 k,.string s,v0,v1,v2,v3,v4,v5,vn,.slice A its.length c]⟩ 29 9
  generalize w.alloc (.cells ⟨[.int .i64 k,.string s,v0,v1,v2,v3,v4,v5,vn,.slice A its.length c]⟩ 29)= W at*
  have HB:=hid hb0
  have C5:=hid c5
  have HSZ:=hid hz0
  clear hb0 c5 hz0
  go_wp2
  go_loopg [5,6] its.length (fun g m i wr=>∃ (j:Nat),j+g= its.length∧i= .int .i64 j∧m= .int .i64 (if far= 0 then 0 else zP (its.take j) (far - 1):Nat)∧Below W.heap.size W wr)
  case atStart=>exact⟨0,by omega,rfl,by by_cases h:far= 0<;>simp[h,zP],Below.refl _ _⟩
  case round=>
   obtain⟨j,hj,rfl,rfl,hb⟩:=hrel
   have HB1:=hid hb
   have d5:=(hb.cell (p:=⟨w.heap.size,9,none⟩) HSZ.out).trans C5.out
   clear hb
   simp only[List.getElem?_toArray,List.getElem?_cons_succ,List.getElem?_cons_zero] at d5
   cases gk with
   |zero=>
    have hge: ¬ ((j:Int) <(its.length:Int)):=by omega
    have HE:Hid (((if far= 0 then 0 else zP (its.take j) (far - 1):Nat):Int)+1=(zO (.mk k s t ns its) far:Nat)):=hid (by rw[show its.take j= its from List.take_of_length_le (by omega)];exact z4C k s t ns its far)
    have HW:Hid (((if far= 0 then 0 else zP (its.take j) (far - 1):Nat):Int)≤41):=hid (by by_cases h:far= 0<;>simp only[h,if_true,if_false]<;>first|omega|(have:=z9L (its.take j) (far - 1);omega))
    obtain⟨m,hm⟩:∃ m:Nat,(if far= 0 then 0 else zP (its.take j) (far - 1))= m:=⟨_,rfl⟩
    rw[hm] at HE HW
    rw[hm]
    have hmw:IntKind.i64.wrap ((m:Int)+1)=(m:Int)+1:=by have:=HW.out;rw[IntKind.wrap_i64];omega
    clear hm
    go_wp2
    go_ret
    exact⟨by rw[HE.out];rfl,HB.out.trans (HB1.out.mono HB.out.size)⟩
   |succ g=>
    have hlt:(j:Int) <(its.length:Int):=by omega
    by_cases h0:far= 0
    ·subst h0
     have HE:Hid ((1:Int)=(zO (.mk k s t ns its) 0:Nat)):=hid (by rw[← z4C k s t ns its 0];rfl)
     rw[if_pos rfl]
     go_wp2
     go_ret
     exact⟨by rw[← HE.out];rfl,HB.out.trans (HB1.out.mono HB.out.size)⟩
    ·have hpos:(0:Int) <(far:Int):=by omega
     have hz2:w.heap.size≤wr.heap.size:=Nat.le_trans HB.out.size HB1.out.size
     obtain⟨y,hy⟩:∃ y,its[j]?= some y:=⟨_,List.getElem?_eq_getElem (by omega)⟩
     obtain⟨b,o,rfl,hbb,hc⟩:=HA.out (by omega)
     obtain⟨cs,hcl,hr,hR⟩:=hc j y hy
     have hB2:=HB.out.trans (HB1.out.mono HB.out.size)
     have HR:=hid (zd hr hB2 hbb)
     have HC:=hid (IH.out y (List.mem_of_getElem? hy) (far - 1) cs wr (by omega) ((hR.under hB2).more hB2.size))
     have HCL:=hid hcl
     have hf1:((far - 1:Nat):Int)=(far:Int) - 1:=by omega
     have hyy:=hy
     clear hc hr hR hB2 hy hcl
     rw[hf1] at HC
     clear hf1
     have HT:Hid ((if far= 0 then 0 else zP (its.take (j+1)) (far - 1):Nat)= max (zP (its.take j) (far - 1)) (zO y (far - 1))):=hid (by rw[if_neg (by omega)];exact z7k hyy)
     rw[if_neg (show ¬ far= 0 by omega)]
     obtain⟨m,hm⟩:∃ m:Nat,zP (its.take j) (far - 1)= m:=⟨_,rfl⟩
     obtain⟨z,hz⟩:∃ m:Nat,zO y (far - 1)= m:=⟨_,rfl⟩
     rw[hm,hz] at HT
     rw[hz] at HC
     rw[hm]
     clear hm hz hyy
     go_wp2_with (first|(with_reducible refine z8 29 _ rfl ?hw b (o+j*10) cs _ rfl HR.out Tryz.underlying29 rfl ?hi ?_;(case hw=>exact wantA rfl);(case hi=>rw[HCL.out];kernel_rfl))|(go_at_call 24;refine HC.out.mono ?_;rintro e w' ⟨rfl,hb⟩;have HB2:=hid hb;clear hb))
     all_goals
      go_roundg g
      case measure=>omega
      case rel=>exact⟨j+1,by omega,by go_num,by rw[HT.out];first|rfl|(congr 1;omega)|go_num,HB1.out.trans (HB2.out.mono HB1.out.size)⟩
end Go.Proofs.YtmpbepjjbaeebaaGreatDoor
end
