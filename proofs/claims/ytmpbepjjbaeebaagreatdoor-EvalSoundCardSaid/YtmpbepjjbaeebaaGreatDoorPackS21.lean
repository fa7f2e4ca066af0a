/- Parts of a proof: EvalP2, EvNotP, TypeP, SoundP, EvMathP. -/
import Derived.Test.YtmpbepjjbaeebaaGreatDoorPackS7
import Derived.Test.YtmpbepjjbaeebaaGreatDoorPackS10
import Derived.Test.YtmpbepjjbaeebaaGreatDoorPackS11
import Derived.Test.YtmpbepjjbaeebaaGreatDoorPackS19
import Derived.Test.YtmpbepjjbaeebaaGreatDoorPackS20
set_option maxHeartbeats 8000000
set_option maxRecDepth 100000
set_option linter.unusedVariables false
set_option linter.unusedSimpArgs false
namespace Go.Proofs.YtmpbepjjbaeebaaGreatDoor
section
open Go Go.RowKit
mutual
def szV:VT->Nat
 | .mk _ _ _ _ _ its=>szVL its+1
def szVL:List VT->Nat
 |[]=>0
 |a::l=>szV a+szVL l
end
theorem zdy (t:VT):1<=szV t:=by cases t;rw[szV];omega
theorem z7d:∀ (l:List VT),(∀ x∈l,∀ n,n < 500->cntV x n= min 500 (n+szV x))->∀ n,n<=500->cntL l n= min 500 (n+szVL l)
 |[],_,n,hn=>by rw[cntL,szVL];omega
 |a::l,h,n,hn=>by
  rw[cntL,szVL]
  by_cases h5:500<=n
  ·rw[if_pos h5];omega
  ·rw[if_neg h5,h a (by simp) n (by omega),z7d l (fun x hx=>h x (by simp[hx])) _ (by omega)]
   omega
theorem zc1 (t:VT):∀ n,n < 500->cntV t n= min 500 (n+szV t):=by
 induction t using VT.ind with
 |h k m f s ns its ih=>
  intro n hn
  rw[cntV,szV,z7d its ih (n+1) (by omega)]
  omega
theorem z7H:∀ {l:List VT} {x:VT},x∈l->szV x<=szVL l
 |a::l,x,hx=>by
  rw[szVL]
  rcases List.mem_cons.1 hx with rfl|hx
  ·omega
  ·have:=z7H hx;omega
theorem z7M:∀ (l:List VT),l.length<=szVL l
 |[]=>by simp
 |a::l=>by
  have:=z7M l
  have:=zdy a
  rw[szVL,List.length_cons];omega
theorem z4C:∀ (l:List VT) (d:Nat),(∀ x∈l,∀ d,zm x (d+1)= true->zm x d= true)->zF l (d+1)= true->zF l d= true
 |[],_,_,_=>by rw[zF]
 |a::l,d,h,hr=>by
  rw[zF,Bool.and_eq_true] at hr
  rw[zF,h a (by simp) d hr.1,z4C l d (fun x hx=>h x (by simp[hx])) hr.2];rfl
theorem z4K (t:VT):∀ d,zm t (d+1)= true->zm t d= true:=by
 induction t using VT.ind with
 |h k n f s ns its ih=>
  intro d hr
  rw[zm] at hr ⊢
  by_cases h1:12 < d+1
  ·rw[if_pos h1] at hr;cases hr
  ·rw[if_neg h1] at hr
   rw[if_neg (by omega: ¬ 12 < d)]
   have hL:=z4C its (d+1) ih
   by_cases k1:k= 1
   ·simp only[if_pos k1] at hr ⊢;exact hr
   by_cases k2:k= 2
   ·simp only[if_neg k1,if_pos k2] at hr ⊢;exact hr
   by_cases k3:k= 3
   ·simp only[if_neg k1,if_neg k2,if_pos k3] at hr ⊢;exact hr
   by_cases k4:k= 4
   ·simp only[if_neg k1,if_neg k2,if_neg k3,if_pos k4] at hr ⊢;exact hr
   by_cases k6:k= 6
   ·simp only[if_neg k1,if_neg k2,if_neg k3,if_neg k4,if_pos k6,Bool.and_eq_true] at hr ⊢
    exact⟨hr.1,hr.2.1,hr.2.2.1,hL hr.2.2.2⟩
   by_cases k5:k= 5
   ·simp only[if_neg k1,if_neg k2,if_neg k3,if_neg k4,if_neg k6,if_pos k5,Bool.and_eq_true] at hr ⊢
    exact⟨hr.1,hr.2.1,hL hr.2.2⟩
   ·simp only[if_neg k1,if_neg k2,if_neg k3,if_neg k4,if_neg k6,if_neg k5] at hr;cases hr
theorem z13 {t:VT}:zp t= true↔szV t<=200/\zm t 1= true:=by
 unfold zp
 rw[Bool.and_eq_true,decide_eq_true_eq,zc1 t 0 (by omega)]
 constructor
 ·rintro⟨h,h2⟩;exact⟨by omega,h2⟩
 ·rintro⟨h,h2⟩;exact⟨by omega,h2⟩
theorem z6N {k n:Int} {f:Nat} {s:ByteArray} {ns:List ByteArray} {its:List VT} (h:zp (.mk k n f s ns its)= true) {x:VT} (hx:x∈its):zp x= true:=by
 obtain⟨h1,h2⟩:=z13.1 h
 rw[szV] at h1
 have h3:=z7H hx
 refine z13.2 ⟨by omega,?_⟩
 rcases z25 h2 with ⟨_,_,_,e⟩|⟨_,_,e⟩|⟨_,_,e⟩|⟨_,_,_,e⟩|⟨_,_,h4⟩|⟨_,_,_,h4⟩
 ·rw[e] at hx;cases hx
 ·rw[e] at hx;cases hx
 ·rw[e] at hx;cases hx
 ·rw[e] at hx;cases hx
 ·exact z4K x 1 (z2e h4 x hx)
 ·exact z4K x 1 (z2e h4 x hx)
theorem z5M {k n:Int} {f:Nat} {s:ByteArray} {ns:List ByteArray} {its:List VT} (h:zp (.mk k n f s ns its)= true) {i:Nat} (hi:i < its.length):zp (its.getD i v0)= true:=by
 have:its.getD i v0= its[i]:=by simp[List.getD,List.getElem?_eq_getElem hi]
 rw[this];exact z6N h (List.getElem_mem hi)
theorem z0m {k n:Int} {f:Nat} {s:ByteArray} {ns:List ByteArray} {its:List VT} (h:zp (.mk k n f s ns its)= true):its.length<=199/\ns.length<=its.length/\(k= 6->ns.length= its.length):=by
 obtain⟨h1,h2⟩:=z13.1 h
 rw[szV] at h1
 have h3:=z7M its
 refine⟨by omega,?_⟩
 rcases z25 h2 with ⟨e0,_,e,_⟩|⟨e0,e,_⟩|⟨e0,e,_⟩|⟨e0,_,e,_⟩|⟨e0,e,_⟩|⟨e0,e,_⟩
 all_goals first|(rw[e];exact⟨Nat.zero_le _,fun h6=>by omega⟩)|exact⟨by omega,fun _=>e⟩
theorem z6a (t:VT):zp t= true->Fit t:=by
 induction t using VT.ind with
 |h k n f s ns its ih=>
  intro h
  obtain⟨h1,h2,_⟩:=z0m h
  have hr:reachBytes= 140737488351232:=rfl
  exact .mk (by omega) (by omega) fun x hx=>ih x hx (z6N h hx)
theorem z4b (v:VT):zp (z00 v)= zp v:=by unfold zp;rw[z8j,z8b]
theorem z1w (b:Bool):zp (vB b)= true:=by cases b<;>decide +kernel
theorem z7j:(⟨#[]⟩:ByteArray).toList.isEmpty= true:=by decide +kernel
theorem za8:cmpF 0 0= 0:=by decide +kernel
theorem z3b (n:Int):zp (vI n)= true:=z13.2 ⟨by unfold vI;rw[szV,szVL];omega,by
 unfold vI;rw[zm,if_neg (by decide),if_neg (by decide),if_pos rfl];unfold bareB;rw[za8,z7j];simp⟩
theorem z55 (f:Nat):zp (vF f)= true:=z13.2 ⟨by unfold vF;rw[szV,szVL];omega,by
 unfold vF;rw[zm,if_neg (by decide),if_neg (by decide),if_neg (by decide),if_pos rfl];unfold bareB;rw[z7j];simp⟩
theorem zcP {s:ByteArray} (h:s.size<=200):zp (vS s)= true:=z13.2 ⟨by unfold vS;rw[szV,szVL];omega,by
 unfold vS;rw[zm,if_neg (by decide),if_neg (by decide),if_neg (by decide),if_neg (by decide),if_pos rfl,decide_eq_true h];unfold bareB;rw[za8];simp⟩
theorem z3I {v r:VT} (h:szd v= .ok r):r= v/\zp r= true:=by
 unfold szd at h
 split at h
 ·injection h with h;subst h;exact⟨rfl,by assumption⟩
 ·cases h
theorem z5g {k n:Int} {f:Nat} {s:ByteArray} {ns:List ByteArray} {its:List VT} (hn: -9223372036854775808<=n/\n<=9223372036854775807) (hk:k= 1\/k= 2\/k= 3):(textV (.mk k n f s ns its)).length<=200:=by
 rw[textV]
 rcases hk with rfl|rfl|rfl
 ·simp only[if_true]
  split<;>decide
 ·rw[if_neg (by decide),if_pos rfl]
  have:=z2z hn.1 hn.2;omega
 ·rw[if_neg (by decide),if_neg (by decide),if_pos rfl]
  have:=z6K f;omega
theorem zac {k:Int} {s:ByteArray} {a v:VT} (hs:saneV a) (ha:zp a= true) (h:unV k s a= .ok v):zp v= true:=by
 cases a with
 |mk kv n f sv ns its=>
  rw[saneV] at hs
  rw[unV] at h
  by_cases k18:k= 18
  ·rw[if_pos k18] at h
   by_cases k6:kv= 6
   ·rw[if_neg (by simpa using k6)] at h
    have hl:=(z0m ha).2.2 k6
    by_cases h1:Lib.idxOfS ns s= -1
    ·rw[if_pos h1] at h;cases h
    ·rw[if_neg h1] at h
     injection h with h
     rw[← h]
     rcases z3V ns s with h2|h2
     ·contradiction
     ·exact z5M ha (by omega)
   ·rw[if_pos k6] at h;cases h
  rw[if_neg k18] at h
  by_cases k4:k= 4
  ·rw[if_pos k4] at h
   split at h
   ·injection h with h;rw[← h];exact z1w _
   ·cases h
  rw[if_neg k4] at h
  by_cases k21:k= 21
  ·rw[if_pos k21] at h
   split at h
   ·injection h with h;rw[← h];exact z55 _
   ·cases h
  rw[if_neg k21] at h
  by_cases k22:k= 22
  ·rw[if_pos k22] at h
   split at h
   ·split at h
    ·injection h with h;rw[← h];exact z3b _
    ·cases h
   ·cases h
  rw[if_neg k22] at h
  by_cases k23:k= 23
  ·rw[if_pos k23] at h
   split at h
   ·injection h with h;rw[← h];exact ha
   ·split at h
    ·injection h with h
     rename_i hk
     rw[← h]
     refine zcP ?_
     show(textV _).toArray.size<=200
     rw[List.size_toArray]
     exact z5g hs.1 hk
    ·cases h
  rw[if_neg k23] at h
  by_cases k20:k= 20
  ·rw[if_pos k20] at h
   split at h
   ·injection h with h;rw[← h];exact z3b _
   ·cases h
  rw[if_neg k20] at h
  split at h
  ·injection h with h;rw[← h];exact z55 _
  ·split at h
   ·split at h
    ·cases h
    ·injection h with h;rw[← h];exact z3b _
   ·cases h
theorem z78 {α:Type} {x:Except Int α} {g:α->VT} {v:VT} (h:x.map g= .ok v):∃ y,x= .ok y/\v= g y:=by
 cases x with
 |error e=>cases h
 |ok y=>injection h with h;exact⟨y,rfl,h.symm⟩
theorem z9B {k:Int} {a b v:VT} (ha:zp a= true) (h:binV k a b= .ok v):zp v= true:=by
 cases a with
 |mk ka na fa sa nsa ia=>
 cases b with
 |mk kb nb fb sb nsb ib=>
  rw[binV] at h
  by_cases k19:k= 19
  ·rw[if_pos k19] at h
   split at h
   ·split at h
    ·rename_i hb
     injection h with h;rw[← h]
     exact z5M ha (by omega)
    ·cases h
   ·cases h
  rw[if_neg k19] at h
  split at h
  ·cases h
  split at h
  ·injection h with h;rw[← h];exact z1w _
  split at h
  ·obtain⟨y,_,rfl⟩:=z78 h;exact z1w _
  split at h
  ·obtain⟨y,_,rfl⟩:=z78 h;exact z3b _
  split at h
  ·obtain⟨y,_,rfl⟩:=z78 h;exact z55 _
  split at h
  ·exact(z3I h).2
  ·cases h
end
section
open Go Go.RowKit
mutual
def szE:ET->Nat
 | .mk _ _ _ _ its=>szEL its+1
def szEL:List ET->Nat
 |[]=>0
 |a::l=>szE a+szEL l
end
theorem zdB (t:ET):1<=szE t:=by cases t;rw[szE];omega
theorem z6J:∀ (l:List ET),(∀ x∈l,∀ n,n < 500->cntE x n= min 500 (n+szE x))->∀ n,n<=500->cntEL l n= min 500 (n+szEL l)
 |[],_,n,hn=>by rw[cntEL,szEL];omega
 |a::l,h,n,hn=>by
  rw[cntEL,szEL]
  by_cases h5:500<=n
  ·rw[if_pos h5];omega
  ·rw[if_neg h5,h a (by simp) n (by omega),z6J l (fun x hx=>h x (by simp[hx])) _ (by omega)]
   omega
theorem zcU (t:ET):∀ n,n < 500->cntE t n= min 500 (n+szE t):=by
 induction t using ET.ind with
 |h k s v ns its ih=>
  intro n hn
  rw[cntE,szE,z6J its ih (n+1) (by omega)]
  omega
theorem z1W {d:Nat}:∀ {l:List ET},z03 l d= true↔∀ x∈l,z01 x d= true
 |[]=>by rw[z03];simp
 |a::l=>by rw[z03,Bool.and_eq_true,z1W];simp
theorem z1Y {t:ET}:zS t= true↔szE t<=200/\z01 t 1= true:=by
 unfold zS
 rw[Bool.and_eq_true,decide_eq_true_eq,zcU t 0 (by omega)]
 constructor
 ·rintro⟨h,h2⟩;exact⟨by omega,h2⟩
 ·rintro⟨h,h2⟩;exact⟨by omega,h2⟩
section
variable {E:List VarT} {V:List VT}
theorem zcv {x:ET} {r:Res} (h1:V.all zp= true) (h2:zS x= true) (h:evalE E V x= r):evalT x E V= r:=by
 unfold evalT
 rw[h1,h2]
 exact h
end
theorem zcQ (E:List VarT) (s:ByteArray):findV E s= -1\/(0<=findV E s/\findV E s <(E.length:Int)):=by
 induction E with
 |nil=>exact .inl rfl
 |cons a l ih=>
  unfold findV
  split
  ·exact .inr ⟨by omega,by rw[List.length_cons];omega⟩
  ·split
   ·exact .inl rfl
   ·rcases ih with h|h
    ·contradiction
    ·exact .inr ⟨by omega,by rw[List.length_cons];omega⟩
end
section
open Go Go.RowKit
mutual
def joinT:TT->TT->Option TT
 | .mk ka na ia,.mk kb nb ib=>
  if ka= 7 then some (.mk kb nb ib) else if kb= 7 then some (.mk ka na ia)
  else if ka≠kb\/ia.length≠ib.length then none
  else if ka= 6/\na≠nb then none
  else match z0c ia ib with
   |none=>none
   |some l=>some (.mk ka (if ka= 6 then na else[]) l)
def z0c:List TT->List TT->Option (List TT)
 |[],_=>some []
 |a::l,b::r=>match joinT a b with
  |none=>none
  |some x=>match z0c l r with
   |none=>none
   |some y=>some (x::y)
 |_::_,[]=>none
end
mutual
def fitX:VT->TT->Bool
 | .mk k _ _ _ ns its,.mk k' ns' ts=>(k ==k') && (!(k ==7) && (if k= 5 then fitXA its ts else if k= 6 then decide (ns= ns') && fitXL its ts else true))
def fitXA:List VT->List TT->Bool
 |[],_=>true
 |a::l,t::r=>fitX a t && fitXA l (t::r)
 |_::_,[]=>false
def fitXL:List VT->List TT->Bool
 |[],[]=>true
 |a::l,t::r=>fitX a t && fitXL l r
 |[],_::_=>false
 |_::_,[]=>false
end
theorem z0u {t:TT} {r:List TT}:∀ {l:List VT},fitXA l (t::r)= true↔∀ x∈l,fitX x t= true
 |[]=>by rw[fitXA];simp
 |a::l=>by rw[fitXA,Bool.and_eq_true,z0u];simp
theorem z1e {l:List VT}:fitXA l []= true↔l=[]:=by
 cases l with
 |nil=>rw[fitXA];simp
 |cons a l=>rw[fitXA];simp
theorem z1c:∀ {l:List VT} {r:List TT},fitXL l r= true↔l.length= r.length/\∀ (i:Nat) x t,l[i]?= some x->r[i]?= some t->fitX x t= true
 |[],[]=>by rw[fitXL];simp
 |[],_::_=>by rw[fitXL];simp
 |_::_,[]=>by rw[fitXL];simp
 |a::l,t::r=>by
  rw[fitXL,Bool.and_eq_true,z1c]
  constructor
  ·rintro⟨h1,h2,h3⟩
   refine⟨by simp[h2],fun i x t' hx ht=> ?_⟩
   cases i with
   |zero=>simp at hx ht;subst hx ht;exact h1
   |succ i=>exact h3 i x t' (by simpa using hx) (by simpa using ht)
  ·rintro⟨h1,h2⟩
   exact⟨h2 0 a t rfl rfl,by simpa using h1,fun i x t' hx ht=>h2 (i+1) x t' (by simpa using hx) (by simpa using ht)⟩
theorem z2P:∀ {l r o:List TT},z0c l r= some o->o.length= l.length/\∀ (i:Nat) a b,l[i]?= some a->r[i]?= some b->∃ t,o[i]?= some t/\joinT a b= some t
 |[],r,o,h=>by rw[z0c] at h;injection h with h;subst h;exact⟨rfl,fun i a b ha=>by simp at ha⟩
 |_::_,[],o,h=>by rw[z0c] at h;cases h
 |a::l,b::r,o,h=>by
  rw[z0c] at h
  cases h1:joinT a b with
  |none=>rw[h1] at h;cases h
  |some x=>
   rw[h1] at h
   simp only at h
   cases h2:z0c l r with
   |none=>rw[h2] at h;cases h
   |some y=>
    rw[h2] at h
    injection h with h
    subst h
    obtain⟨h3,h4⟩:=z2P h2
    refine⟨by simp[h3],fun i a' b' ha hb=> ?_⟩
    cases i with
    |zero=>simp at ha hb;subst ha hb;exact⟨x,rfl,h1⟩
    |succ i=>obtain⟨t,h5,h6⟩:=h4 i a' b' (by simpa using ha) (by simpa using hb);exact⟨t,by simpa using h5,h6⟩
theorem z2h (v:VT):∀ a b t,joinT a b= some t->(fitX v a= true\/fitX v b= true)->fitX v t= true:=by
 induction v using VT.ind with
 |h k n f s ns its ih=>
  intro a b t hj hf
  cases a with
  |mk ka na ia=>
  cases b with
  |mk kb nb ib=>
  rw[joinT] at hj
  by_cases h7:ka= 7
  ·rw[if_pos h7] at hj
   injection hj with hj
   subst hj
   rcases hf with hf|hf
   ·rw[fitX] at hf
    simp only[Bool.and_eq_true,beq_iff_eq,Bool.not_eq_true',beq_eq_false_iff_ne] at hf
    exact absurd (hf.1.trans h7) hf.2.1
   ·exact hf
  rw[if_neg h7] at hj
  by_cases h8:kb= 7
  ·rw[if_pos h8] at hj
   injection hj with hj
   subst hj
   rcases hf with hf|hf
   ·exact hf
   ·rw[fitX] at hf
    simp only[Bool.and_eq_true,beq_iff_eq,Bool.not_eq_true',beq_eq_false_iff_ne] at hf
    exact absurd (hf.1.trans h8) hf.2.1
  rw[if_neg h8] at hj
  split at hj
  ·cases hj
  rename_i hkl
  have hk:ka= kb:=by by_cases h:ka= kb;exact h;exact absurd (Or.inl h) hkl
  have hl:ia.length= ib.length:=by by_cases h:ia.length= ib.length;exact h;exact absurd (Or.inr h) hkl
  subst hk
  split at hj
  ·cases hj
  rename_i hnn
  cases hjl:z0c ia ib with
  |none=>rw[hjl] at hj;cases hj
  |some l=>
   rw[hjl] at hj
   injection hj with hj
   subst hj
   obtain⟨j1,j2⟩:=z2P hjl
   rw[fitX]
   rw[fitX,fitX] at hf
   simp only[Bool.and_eq_true,beq_iff_eq,Bool.not_eq_true',beq_eq_false_iff_ne] at hf ⊢
   have hk:k= ka:=by rcases hf with h|h<;>exact h.1
   subst hk
   refine⟨rfl,h7,?_⟩
   by_cases k5:k= 5
   ·rw[if_pos k5]
    rw[if_pos k5,if_pos k5] at hf
    match ia,ib,l,hl,j1,j2,hf with
    |[],[],[],_,_,_,hf=>
     rcases hf with h|h<;>(rw[z1e] at h;rw[z1e];exact h.2.2)
    |x::ia,y::ib,z::l,_,_,j2,hf=>
     obtain⟨t,ht,htj⟩:=j2 0 x y rfl rfl
     simp at ht
     subst ht
     rw[z0u]
     intro u hu
     rw[z0u,z0u] at hf
     exact ih u hu x y z htj (hf.imp (fun h=>h.2.2 u hu) (fun h=>h.2.2 u hu))
   ·rw[if_neg k5]
    rw[if_neg k5,if_neg k5] at hf
    by_cases k6:k= 6
    ·rw[if_pos k6]
     rw[if_pos k6,if_pos k6] at hf
     have hne:na= nb:=by by_cases h:na= nb;exact h;exact absurd ⟨k6,h⟩ hnn
     subst hne
     rw[if_pos k6]
     simp only[Bool.and_eq_true,decide_eq_true_eq,z1c] at hf ⊢
     have hns:ns= na:=by rcases hf with h|h<;>exact h.2.2.1
     refine⟨hns,by rcases hf with h|h<;>have:=h.2.2.2.1<;>omega,fun i x t hx ht=> ?_⟩
     have hil:i < ia.length:=by have:=(List.getElem?_eq_some_iff.1 ht).1;omega
     obtain⟨u,hu,huj⟩:=j2 i ia[i] ib[i] (List.getElem?_eq_getElem hil) (List.getElem?_eq_getElem (by omega))
     rw[ht] at hu
     injection hu with hu
     subst hu
     exact ih x (List.mem_of_getElem? hx) _ _ t huj (hf.imp (fun h=>h.2.2.2.2 i x _ hx (List.getElem?_eq_getElem hil)) (fun h=>h.2.2.2.2 i x _ hx (List.getElem?_eq_getElem (by omega))))
    ·rw[if_neg k6]
theorem z9R (v:VT):∀ t,fitX (z00 v) t= fitX v t:=by
 induction v using VT.ind with
 |h k n f s ns its ih=>
  intro t
  cases t with
  |mk k' ns' ts=>
  rw[z00,fitX,fitX]
  have hA:fitXA (z0D its) ts= fitXA its ts:=by
   cases ts with
   |nil=>rw[Bool.eq_iff_iff,z1e,z1e,z1o,List.map_eq_nil_iff]
   |cons t r=>
    rw[Bool.eq_iff_iff,z0u,z0u,z1o]
    constructor
    ·intro h x hx;have:=h (z00 x) (List.mem_map.2 ⟨x,hx,rfl⟩);rwa [ih x hx] at this
    ·intro h y hy
     obtain⟨x,hx,rfl⟩:=List.mem_map.1 hy
     rw[ih x hx];exact h x hx
  have hL:fitXL (z0D its) ts= fitXL its ts:=by
   rw[Bool.eq_iff_iff,z1c,z1c,z1o,List.length_map]
   constructor
   ·rintro⟨h,h2⟩
    refine⟨h,fun i x t hx ht=> ?_⟩
    have:=h2 i (z00 x) t (by rw[List.getElem?_map,hx];rfl) ht
    rwa [ih x (List.mem_of_getElem? hx)] at this
   ·rintro⟨h,h2⟩
    refine⟨h,fun i y t hy ht=> ?_⟩
    rw[List.getElem?_map,Option.map_eq_some_iff] at hy
    obtain⟨x,hx,rfl⟩:=hy
    rw[ih x (List.mem_of_getElem? hx)]
    exact h2 i x t hx ht
  rw[hA,hL]
theorem z6I {t:TT}:∀ {l:List VT},fitsA l [t]= true->∀ x∈l,fitsV x t= true
 |[],_,x,hx=>by cases hx
 |a::l,h,x,hx=>by
  rw[fitsA,Bool.and_eq_true] at h
  rcases List.mem_cons.1 hx with rfl|hx
  ·exact h.1
  ·exact z6I h.2 x hx
theorem z79:∀ (its:List VT) (ts:List TT),(∀ x∈its,∀ t,fitX x t= true->fitsV x t= true)->fitXL its ts= true->fitsL its ts= true
 |[],_,_,_=>by rw[fitsL]
 |a::l,[],_,h=>by rw[fitXL] at h;cases h
 |a::l,t::r,ih,h=>by
  rw[fitXL,Bool.and_eq_true] at h
  rw[fitsL,Bool.and_eq_true]
  exact⟨ih a (by simp) t h.1,z79 l r (fun x hx=>ih x (by simp[hx])) h.2⟩
theorem zd7 (v:VT):∀ t d e,zm v d= true->zY t e= true->fitsV v t= true->fitX v t= true:=by
 induction v using VT.ind with
 |h k n f s ns its ih=>
  intro t d e hr ht hf
  cases t with
  |mk k' ns' ts=>
  rw[fitsV,Bool.and_eq_true,beq_iff_eq] at hf
  obtain⟨rfl,hf⟩:=hf
  rw[fitX]
  simp only[Bool.and_eq_true,beq_iff_eq,Bool.not_eq_true',beq_eq_false_iff_ne]
  refine⟨trivial,fun h7=> ?_,?_⟩
  ·subst h7;rw[z5w] at hr;cases hr
  by_cases k5:k= 5
  ·subst k5
   rw[if_pos rfl] at hf ⊢
   obtain⟨hl,hts⟩:=z1q ht
   have hrr:=z5R hr
   match ts,hl,hts,hf with
   |[t0],_,hts,hf=>
    rw[z0u]
    intro x hx
    exact ih x hx t0 _ _ (hrr x hx) (hts t0 (by simp)) (z6I hf x hx)
  ·rw[if_neg k5] at hf ⊢
   by_cases k6:k= 6
   ·subst k6
    rw[if_pos rfl] at hf ⊢
    rw[Bool.and_eq_true,decide_eq_true_eq] at hf
    obtain⟨rfl,hf⟩:=hf
    obtain⟨hl,hts⟩:=z2O ht
    obtain⟨hl2,hrr⟩:=z44 hr
    rw[Bool.and_eq_true,decide_eq_true_eq,z1c]
    refine⟨rfl,by omega,?_⟩
    have h1:∀ (its:List VT) (ts:List TT),fitsL its ts= true->its.length= ts.length->∀ (i:Nat) x t,its[i]?= some x->ts[i]?= some t->fitsV x t= true:=by
     intro its
     induction its with
     |nil=>intro ts _ _ i x t hx;simp at hx
     |cons a l ih2=>
      intro ts h hlen i x t hx ht
      cases ts with
      |nil=>simp at hlen
      |cons b r=>
       rw[fitsL,Bool.and_eq_true] at h
       cases i with
       |zero=>simp at hx ht;subst hx ht;exact h.1
       |succ i=>exact ih2 r h.2 (by simpa using hlen) i x t (by simpa using hx) (by simpa using ht)
    intro i x t hx ht2
    exact ih x (List.mem_of_getElem? hx) t _ _ (hrr x (List.mem_of_getElem? hx)) (hts t (List.mem_of_getElem? ht2)) (h1 its ts hf (by omega) i x t hx ht2)
   ·rw[if_neg k6]
theorem zal (v:VT):∀ t,fitX v t= true->fitsV v t= true:=by
 induction v using VT.ind with
 |h k n f s ns its ih=>
  intro t hf
  cases t with
  |mk k' ns' ts=>
  rw[fitX] at hf
  simp only[Bool.and_eq_true,beq_iff_eq] at hf
  obtain⟨rfl,_,hf⟩:=hf
  rw[fitsV,Bool.and_eq_true,beq_iff_eq]
  refine⟨rfl,?_⟩
  by_cases k5:k= 5
  ·rw[if_pos k5] at hf ⊢
   cases ts with
   |nil=>rw[z1e] at hf;subst hf;rw[fitsA]
   |cons t r=>
    rw[z0u] at hf
    clear k5
    induction its with
    |nil=>rw[fitsA]
    |cons a l ih2=>
     rw[fitsA,Bool.and_eq_true]
     exact⟨ih a (by simp) t (hf a (by simp)),ih2 (fun x hx=>ih x (by simp[hx])) (fun x hx=>hf x (by simp[hx]))⟩
  ·rw[if_neg k5] at hf ⊢
   by_cases k6:k= 6
   ·rw[if_pos k6] at hf ⊢
    rw[Bool.and_eq_true] at hf ⊢
    exact⟨hf.1,z79 its ts ih hf.2⟩
   ·rw[if_neg k6]
def kV:VT->Int
 | .mk k _ _ _ _ _=>k
def pT (k:Int):TT:= .mk k [] []
def kT:TT->Int
 | .mk k _ _=>k
def seqT:List (Except Int TT)->Except Int (List TT)
 |[]=> .ok []
 | .error e::_=> .error e
 | .ok v::r=>match seqT r with
  | .error e=> .error e
  | .ok l=> .ok (v::l)
def foldT:TT->List TT->Option TT
 |t,[]=>some t
 |t,a::l=>match joinT t a with
  |none=>none
  |some u=>foldT u l
def pairT (k:Int) (a b:TT):Except Int TT:=
 let num:=(kT a= 2/\kT b= 2)\/(kT a= 3/\kT b= 3)
 if k= 5 then match joinT a b with
  |some t=>if num\/(kT a= 4/\kT b= 4)\/(kT a= 5/\kT b= 5) then .ok t else .error 6
  |none=> .error 6
 else if k= 6\/k= 7\/k= 8 then(if num then .ok (pT (kT a)) else .error 6)
 else if k= 9 then(if kT a= 2/\kT b= 2 then .ok (pT 2) else .error 6)
 else if k= 10 then(if(joinT a b).isSome= true then .ok (pT 1) else .error 6)
 else if k= 11\/k= 12 then(if num\/(kT a= 4/\kT b= 4) then .ok (pT 1) else .error 6)
 else if k= 13\/k= 14 then(if kT a= 1/\kT b= 1 then .ok (pT 1) else .error 6)
 else .error 6
def z0j (s:ByteArray):TT->Except Int TT
 | .mk k ns ts=>if k≠6 then .error 6 else if Lib.idxOfS ns s= -1 then .error 10 else .ok (ts.getD (Lib.idxOfS ns s).toNat (pT 0))
def item0:TT->TT
 | .mk _ _ ts=>ts.getD 0 (pT 0)
def ownT (E:List VarT) (k:Int) (s:ByteArray) (v:VT) (ns:List ByteArray) (l:List TT):Except Int TT:=
 if k= 1 then .ok (pT (kV v))
 else if k= 2 then(if findV E s= -1 then .error 11 else match E[(findV E s).toNat]? with|some x=> .ok x.type|none=> .error 11)
 else if k= 3 then(if kT (l.getD 0 (pT 0))= 2\/kT (l.getD 0 (pT 0))= 3 then .ok (l.getD 0 (pT 0)) else .error 6)
 else if k= 4 then(if kT (l.getD 0 (pT 0))= 1 then .ok (l.getD 0 (pT 0)) else .error 6)
 else if k= 15 then(match joinT (l.getD 1 (pT 0)) (l.getD 2 (pT 0)) with|some t=>if kT (l.getD 0 (pT 0))= 1 then .ok t else .error 6|none=> .error 6)
 else if k= 16 then(match foldT (pT 7) l with|some t=> .ok (.mk 5 [] [t])|none=> .error 6)
 else if k= 17 then .ok (.mk 6 ns l)
 else if k= 18 then z0j s (l.getD 0 (pT 0))
 else if k= 19 then(if kT (l.getD 0 (pT 0))= 5/\kT (l.getD 1 (pT 0))= 2/\kT (item0 (l.getD 0 (pT 0)))≠7 then .ok (item0 (l.getD 0 (pT 0))) else .error 6)
 else if k= 20 then(if kT (l.getD 0 (pT 0))= 5\/kT (l.getD 0 (pT 0))= 4 then .ok (pT 2) else .error 6)
 else if k= 21 then(if kT (l.getD 0 (pT 0))= 2 then .ok (pT 3) else .error 6)
 else if k= 22 then(if kT (l.getD 0 (pT 0))= 3 then .ok (pT 2) else .error 6)
 else if k= 23 then(if kT (l.getD 0 (pT 0))= 1\/kT (l.getD 0 (pT 0))= 2\/kT (l.getD 0 (pT 0))= 3\/kT (l.getD 0 (pT 0))= 4 then .ok (pT 4) else .error 6)
 else pairT k (l.getD 0 (pT 0)) (l.getD 1 (pT 0))
mutual
def zZ (E:List VarT):ET->Except Int TT
 | .mk k s v ns its=>match seqT (zM E its) with
  | .error e=> .error e
  | .ok l=>match ownT E k s v ns l with
   | .error e=> .error e
   | .ok t=>if typeT t= true then .ok t else .error 15
def zM (E:List VarT):List ET->List (Except Int TT)
 |[]=>[]
 |a::l=>zZ E a::zM E l
end
end
section
open Go Go.RowKit
def errOk (e:Int):Prop:=e= 3\/e= 7\/e= 8\/e= 9
def zr (t:TT):Res->Prop
 | .ok v=>fitX v t= true
 | .error e=>errOk e
theorem z75 {k:Int} {n:Nat} (h:kidsB (z0l k) n= true):((k= 1\/k= 2)/\n= 0)\/((k= 3\/k= 4\/k= 18\/(20<=k/\k<=23))/\n= 1)\/(((5<=k/\k<=14)\/k= 19)/\n= 2)\/(k= 15/\n= 3)\/(k= 16\/k= 17):=by
 unfold kidsB at h
 simp only[Bool.and_eq_true,Bool.not_eq_true',beq_eq_false_iff_ne,Bool.or_eq_true,decide_eq_true_eq,beq_iff_eq] at h
 unfold z0l at h
 (repeat' split at h)<;>omega
theorem z4h {E:List VarT}:∀ {its:List ET} {l:List TT},seqT (zM E its)= .ok l->l.length= its.length/\∀ (i:Nat) x t,its[i]?= some x->l[i]?= some t->zZ E x= .ok t
 |[],l,h=>by rw[zM,seqT] at h;injection h with h;subst h;exact⟨rfl,fun i x t hx=>by simp at hx⟩
 |a::its,l,h=>by
  rw[zM] at h
  cases h1:zZ E a with
  |error e=>rw[h1,seqT] at h;cases h
  |ok t=>
   rw[h1,seqT] at h
   cases h2:seqT (zM E its) with
   |error e=>rw[h2] at h;cases h
   |ok r=>
    rw[h2] at h
    injection h with h
    subst h
    obtain⟨h3,h4⟩:=z4h h2
    refine⟨by simp[h3],fun i x u hx hu=> ?_⟩
    cases i with
    |zero=>simp at hx hu;subst hx hu;exact h1
    |succ i=>exact h4 i x u (by simpa using hx) (by simpa using hu)
theorem z5l {E:List VarT} {V:List VT}:∀ {its:List ET} {l:List TT},l.length= its.length->(∀ (i:Nat) x t,its[i]?= some x->l[i]?= some t->zr t (evalE E V x))->
  match seqR (zC E V its) with| .error e=>errOk e| .ok vs=>fitXL vs l= true
 |[],l,hl,h=>by
  obtain rfl:l=[]:=List.eq_nil_of_length_eq_zero hl
  rw[zC,seqR]
  show fitXL [] []= true
  rw[fitXL]
 |a::its,t::l,hl,h=>by
  have h0:=h 0 a t rfl rfl
  have ih:=z5l (E:=E) (V:=V) (its:=its) (l:=l) (by simpa using hl) fun i x t hx ht=>h (i+1) x t (by simpa using hx) (by simpa using ht)
  rw[zC]
  cases h1:evalE E V a with
  |error e=>rw[h1] at h0;rw[seqR];exact h0
  |ok v=>
   rw[h1] at h0
   rw[seqR]
   cases h2:seqR (zC E V its) with
   |error e=>rw[h2] at ih;exact ih
   |ok vs=>
    rw[h2] at ih
    show fitXL (v::vs) (t::l)= true
    rw[fitXL,Bool.and_eq_true]
    exact⟨h0,ih⟩
 |_::_,[],hl,h=>by simp at hl
theorem z0F {v:VT} {t:TT} (h:fitX v t= true):(match v with| .mk k _ _ _ _ _=>k)= kT t/\kT t≠7:=by
 cases v;cases t
 rw[fitX] at h
 simp only[Bool.and_eq_true,beq_iff_eq,Bool.not_eq_true',beq_eq_false_iff_ne] at h
 obtain⟨rfl,h,_⟩:=h
 exact⟨rfl,h⟩
theorem z1p {k n:Int} {f:Nat} {s:ByteArray} {ns:List ByteArray} {its:List VT} (h:k≠7/\k≠5/\k≠6):fitX (.mk k n f s ns its) (pT k)= true:=by
 unfold pT
 rw[fitX,if_neg h.2.1,if_neg h.2.2]
 simp[h.1]
theorem z6D {k n:Int} {f:Nat} {s:ByteArray} {ns:List ByteArray} {its:List VT} {t:TT} (hk:kT t= k) (h:k≠7/\k≠5/\k≠6):fitX (.mk k n f s ns its) t= true:=by
 cases t with
 |mk kt nt ts=>
  simp only[kT] at hk
  subst hk
  rw[fitX,if_neg h.2.1,if_neg h.2.2]
  simp[h.1]
theorem z9p {r:Res} {a b:TT} {k:Int} (h:zr a r) (ha:kT a= k) (hb:kT b= k) (hk:k≠7/\k≠5/\k≠6):zr b r:=by
 cases r with
 |error e=>exact h
 |ok v=>
  obtain⟨h1,_⟩:=z0F h
  cases v with
  |mk kv n f s ns its=>
   simp only at h1
   have e:kv= k:=h1.trans ha
   subst e
   exact z6D hb hk
theorem z3l {t:TT} {r:Res} (h:zr t r) (hk:kT t= 1):match boolR r with| .ok b=>r= r/\True| .error e=>errOk e:=by
 cases r with
 |error e=>exact h
 |ok v=>
  obtain⟨h1,_⟩:=z0F h
  cases v with
  |mk k n f s ns its=>
   simp only at h1
   rw[boolR,if_pos (h1.trans hk)]
   exact⟨rfl,trivial⟩
theorem z41 (b:Bool):fitX (vB b) (pT 1)= true:=by unfold vB;exact z1p (by decide)
theorem z5Q (n:Int):fitX (vI n) (pT 2)= true:=by unfold vI;exact z1p (by decide)
theorem z3R (f:Nat):fitX (vF f) (pT 3)= true:=by unfold vF;exact z1p (by decide)
theorem ze7 (s:ByteArray):fitX (vS s) (pT 4)= true:=by unfold vS;exact z1p (by decide)
theorem z2N {t:TT} {v:VT} (h:fitX v t= true):zr t (szd v):=by
 unfold szd
 split
 ·exact h
 ·exact .inl rfl
theorem z2Q (n:Int):zr (pT 2) ((okI n).map vI):=by
 unfold okI
 split
 ·exact z5Q n
 ·exact .inr (.inl rfl)
theorem z8m {k a b:Int}:zr (pT 2) ((z1r k a b).map vI):=by
 unfold z1r
 (repeat' split)
 ·exact z2Q _
 ·exact z2Q _
 ·exact z2Q _
 ·exact .inr (.inr (.inl rfl))
 ·exact z5Q _
 ·exact z2Q _
theorem z80 {k:Int} {a b:Nat} (h:k= 5\/k= 6\/k= 7\/k= 8):zr (pT 3) ((z18 k a b).map vF):=by
 unfold z18
 (repeat' split)
 ·exact z3R _
 ·exact z3R _
 ·exact z3R _
 ·exact z3R _
 ·omega
theorem z1x {k:Int} {s:ByteArray} {a:VT} {t u:TT} (hty:typeT t= true) (ha:fitX a t= true)
  (ho:(k= 3/\(kT t= 2\/kT t= 3)/\u= t)\/(k= 4/\kT t= 1/\u= t)\/(k= 18/\z0j s t= .ok u)\/(k= 20/\(kT t= 5\/kT t= 4)/\u= pT 2)\/(k= 21/\kT t= 2/\u= pT 3)\/(k= 22/\kT t= 3/\u= pT 2)\/(k= 23/\(kT t= 1\/kT t= 2\/kT t= 3\/kT t= 4)/\u= pT 4)):zr u (unV k s a):=by
 have hk:=z0F ha
 cases a with
 |mk kv n f sv ns its=>
 cases t with
 |mk kt nt ts=>
 simp only[kT] at hk ho
 obtain⟨rfl,hk7⟩:=hk
 rw[unV]
 rcases ho with ⟨rfl,hk,rfl⟩|⟨rfl,hk,rfl⟩|⟨rfl,hf⟩|⟨rfl,hk,rfl⟩|⟨rfl,hk,rfl⟩|⟨rfl,hk,rfl⟩|⟨rfl,hk,rfl⟩
 ·rw[if_neg (by decide),if_neg (by decide),if_neg (by decide),if_neg (by decide),if_neg (by decide),if_neg (by decide)]
  by_cases h3:kv= 3
  ·subst h3
   rw[if_pos rfl]
   show fitX (vF _) _= true
   unfold vF
   rw[fitX,if_neg (by decide),if_neg (by decide)];rfl
  ·rw[if_neg h3]
   obtain rfl:kv= 2:=by omega
   rw[if_pos rfl]
   split
   ·exact .inr (.inl rfl)
   ·show fitX (vI _) _= true
    unfold vI
    rw[fitX,if_neg (by decide),if_neg (by decide)];rfl
 ·subst hk
  rw[if_neg (by decide),if_pos rfl,if_pos rfl]
  show fitX (vB _) _= true
  unfold vB
  rw[fitX,if_neg (by decide),if_neg (by decide)];rfl
 ·rw[if_pos rfl]
  rw[z0j] at hf
  by_cases h6:kv= 6
  ·subst h6
   rw[if_neg (by decide)] at hf ⊢
   rw[fitX,if_neg (by decide),if_pos rfl] at ha
   simp only[Bool.and_eq_true,decide_eq_true_eq,z1c] at ha
   obtain⟨_,_,rfl,hl,hall⟩:=ha
   by_cases hi:Lib.idxOfS ns s= -1
   ·rw[if_pos hi] at hf;cases hf
   ·rw[if_neg hi] at hf ⊢
    injection hf with hf
    subst hf
    have hidx:=z3V ns s
    have hty2:zY (.mk 6 ns ts) 1= true:=by unfold typeT at hty;rw[Bool.and_eq_true] at hty;exact hty.2
    have hl6:=(z2O hty2).1
    have hlen:(Lib.idxOfS ns s).toNat < its.length:=by omega
    ·show fitX (its.getD _ v0) (ts.getD _ (pT 0))= true
     refine hall (Lib.idxOfS ns s).toNat _ _ ?_ ?_
     ·simp[List.getD,List.getElem?_eq_getElem hlen]
     ·simp[List.getD,List.getElem?_eq_getElem (show(Lib.idxOfS ns s).toNat < ts.length by omega)]
  ·rw[if_pos h6] at hf;cases hf
 ·rw[if_neg (by decide),if_neg (by decide),if_neg (by decide),if_neg (by decide),if_neg (by decide),if_pos rfl,if_pos hk]
  exact z5Q _
 ·rw[if_neg (by decide),if_neg (by decide),if_pos rfl,if_pos hk]
  exact z3R _
 ·rw[if_neg (by decide),if_neg (by decide),if_neg (by decide),if_pos rfl,if_pos hk]
  split
  ·exact z5Q _
  ·exact .inl rfl
 ·rw[if_neg (by decide),if_neg (by decide),if_neg (by decide),if_neg (by decide),if_pos rfl]
  by_cases h4:kv= 4
  ·rw[if_pos h4]
   subst h4
   exact z1p (by decide)
  ·rw[if_neg h4,if_pos (by omega)]
   exact ze7 _
theorem z9f {k:Int} {a b:VT} {ta tb u:TT} (ha:fitX a ta= true) (hb:fitX b tb= true) (h1: ¬ (k= 13\/k= 14)) (ho:pairT k ta tb= .ok u):zr u (binV k a b):=by
 have hka:=z0F ha
 have hkb:=z0F hb
 have hja:=z2h a ta tb
 have hjb:=z2h b ta tb
 cases a with
 |mk ka na fa sa nsa ia=>
 cases b with
 |mk kb nb fb sb nsb ib=>
 simp only at hka hkb
 obtain⟨rfl,hk7⟩:=hka
 obtain⟨rfl,hk7b⟩:=hkb
 unfold pairT at ho
 simp only at ho
 have hk19: ¬ k= 19:=by
  rintro rfl
  simp at ho
 rw[binV,if_neg hk19]
 have hnum:∀ {t:TT},(kT t= 2\/kT t= 3)->kT ta= kT t->kT tb= kT t->5<=k->k<=9->(kT t= 3->k<=8)->zr (pT (kT t)) (if kT ta≠kT tb then Except.error 6 else if k= 10 then .ok (vB (eqV (.mk (kT ta) na fa sa nsa ia) (.mk (kT tb) nb fb sb nsb ib))) else if k= 11\/k= 12 then(lessZ (k ==12) (.mk (kT ta) na fa sa nsa ia) (.mk (kT tb) nb fb sb nsb ib)).map vB else if kT ta= 2 then(z1r k na nb).map vI else if kT ta= 3 then(z18 k fa fb).map vF else if k= 5/\(kT ta= 4\/kT ta= 5) then szd (.mk (kT ta) 0 0 (sa ++ sb) [] (ia ++ ib)) else .error 6):=by
  intro t ht e1 e2 l1 l2 l3
  rw[if_neg (by rw[e1,e2];simp),if_neg (by omega),if_neg (by omega)]
  rcases ht with h2|h3
  ·rw[if_pos (e1.trans h2),h2]
   exact z8m
  ·rw[if_neg (by omega),if_pos (e1.trans h3),h3]
   have:=l3 h3
   exact z80 (by omega)
 by_cases k5:k= 5
 ·subst k5
  rw[if_pos rfl] at ho
  cases hj:joinT ta tb with
  |none=>rw[hj] at ho;cases ho
  |some t=>
   rw[hj] at ho
   simp only at ho
   split at ho
   ·rename_i hc
    injection ho with ho
    subst ho
    have hfa:=hja t hj (.inl ha)
    have hfb:=hjb t hj (.inr hb)
    have hkt:=z0F hfa
    simp only at hkt
    rcases hc with hc|hc|hc
    ·have:=hnum (t:=ta) (by omega) rfl (by omega) (by omega) (by omega) (by omega)
     exact z9p this rfl hkt.1.symm (by rcases hc with h|h<;>(rw[h.1];decide))
    ·rw[if_neg (by omega),if_neg (by decide),if_neg (by decide),if_neg (by omega),if_neg (by omega),if_pos (by omega)]
     refine z2N ?_
     exact z6D hkt.1.symm (by omega)
    ·rw[if_neg (by omega),if_neg (by decide),if_neg (by decide),if_neg (by omega),if_neg (by omega),if_pos (by omega)]
     refine z2N ?_
     have e1:=hc.1
     have e2:=hc.2
     rw[e1] at hfa ⊢
     rw[e2] at hfb
     cases t with
     |mk kt nt ts=>
      rw[fitX,if_pos rfl] at hfa hfb ⊢
      simp only[Bool.and_eq_true] at hfa hfb ⊢
      refine⟨hfa.1,hfa.2.1,?_⟩
      cases ts with
      |nil=>
       have h1:=hfa.2.2
       have h2:=hfb.2.2
       rw[z1e] at h1 h2 ⊢
       rw[h1,h2];rfl
      |cons t0 r=>
       have h1:=hfa.2.2
       have h2:=hfb.2.2
       rw[z0u] at h1 h2 ⊢
       intro x hx
       rcases List.mem_append.1 hx with hx|hx
       ·exact h1 x hx
       ·exact h2 x hx
   ·cases ho
 rw[if_neg k5] at ho
 by_cases k6:k= 6\/k= 7\/k= 8
 ·rw[if_pos k6] at ho
  split at ho
  ·rename_i hc
   injection ho with ho
   subst ho
   exact hnum (t:=ta) (by omega) rfl (by omega) (by omega) (by omega) (by omega)
  ·cases ho
 rw[if_neg k6] at ho
 by_cases k9:k= 9
 ·rw[if_pos k9] at ho
  split at ho
  ·rename_i hc
   injection ho with ho
   subst ho
   have:=hnum (t:=ta) (by omega) rfl (by omega) (by omega) (by omega) (by omega)
   rw[hc.1] at this ⊢
   exact this
  ·cases ho
 rw[if_neg k9] at ho
 by_cases k10:k= 10
 ·rw[if_pos k10] at ho
  split at ho
  ·rename_i hc
   injection ho with ho
   subst ho
   have hke:kT ta= kT tb:=by
    obtain⟨t,ht⟩:=Option.isSome_iff_exists.1 hc
    have h1:=(z0F (hja t ht (.inl ha))).1
    have h2:=(z0F (hjb t ht (.inr hb))).1
    simp only at h1 h2
    omega
   rw[if_neg (by simpa using hke),if_pos k10]
   exact z41 _
  ·cases ho
 rw[if_neg k10] at ho
 by_cases k11:k= 11\/k= 12
 ·rw[if_pos k11] at ho
  split at ho
  ·rename_i hc
   injection ho with ho
   subst ho
   rw[if_neg (by simp;omega),if_neg k10,if_pos k11]
   unfold lessZ
   simp only
   by_cases h3:kT ta= 3
   ·rw[if_pos h3];exact z41 _
   ·rw[if_neg h3,if_pos (by omega)];exact z41 _
  ·cases ho
 rw[if_neg k11,if_neg h1] at ho
 cases ho
theorem z6G:∀ (l:List TT) (t u:TT) (v:VT),foldT t l= some u->(fitX v t= true\/∃ a∈l,fitX v a= true)->fitX v u= true
 |[],t,u,v,h,hf=>by
  rw[foldT] at h;injection h with h;subst h
  rcases hf with h|⟨a,ha,_⟩
  ·exact h
  ·cases ha
 |a::l,t,u,v,h,hf=>by
  rw[foldT] at h
  cases hj:joinT t a with
  |none=>rw[hj] at h;cases h
  |some x=>
   rw[hj] at h
   refine z6G l x u v h ?_
   rcases hf with h1|⟨b,hb,h1⟩
   ·exact .inl (z2h v t a x hj (.inl h1))
   ·rcases List.mem_cons.1 hb with rfl|hb
    ·exact .inl (z2h v t b x hj (.inr h1))
    ·exact .inr ⟨b,hb,h1⟩
theorem z1X {E:List VarT} {k:Int} {s:ByteArray} {v:VT} {ns:List ByteArray} {its:List ET} {t:TT} (h:zZ E (.mk k s v ns its)= .ok t):∃ l,seqT (zM E its)= .ok l/\ownT E k s v ns l= .ok t/\typeT t= true:=by
 rw[zZ] at h
 cases h1:seqT (zM E its) with
 |error e=>rw[h1] at h;cases h
 |ok l=>
  rw[h1] at h
  simp only at h
  cases h2:ownT E k s v ns l with
  |error e=>rw[h2] at h;cases h
  |ok u=>
   rw[h2] at h
   simp only at h
   split at h
   ·injection h with h;subst h;exact⟨l,rfl,h2,by assumption⟩
   ·cases h
theorem z9z {v:VT} (h:zN v= true):kV v= 1\/kV v= 2\/kV v= 3\/kV v= 4:=by
 cases v with
 |mk k n f s ns its=>
  unfold zN at h
  simp only[Bool.and_eq_true,Bool.or_eq_true,beq_iff_eq] at h
  rcases h.1 with h|h|h|h
  ·exact .inl h
  ·exact .inr (.inr (.inr h))
  ·exact .inr (.inl h.1)
  ·exact .inr (.inr (.inl h.1))
section
variable {E:List VarT} {V:List VT} {s:ByteArray} {v:VT} {ns:List ByteArray} {t:TT}
theorem if_ok {c:Prop} [Decidable c] {α:Type} {a b:α} {e:Int} (h:(if c then Except.ok a else Except.error e)= .ok b):c/\a= b:=by
 by_cases hc:c
 ·rw[if_pos hc] at h;injection h with h;exact⟨hc,h⟩
 ·rw[if_neg hc] at h;cases h
theorem z1B {k:Int} {a:ET} {ta u:TT} (h: ¬ k= 1/\¬ k= 2/\¬ (k= 13\/k= 14\/k= 15)/\¬ k= 16/\¬ k= 17) (h0:zr ta (evalE E V a)) (hu:∀ va,fitX va ta= true->zr u (unV k s va)):zr u (evalE E V (.mk k s v ns [a])):=by
 rw[evalE,zC,zC,if_neg h.1,if_neg h.2.1,if_neg h.2.2.1]
 cases hea:evalE E V a with
 |error e=>rw[hea] at h0;exact h0
 |ok va=>
  rw[hea] at h0
  show zr u (combR k s ns [va])
  rw[combR,if_neg h.2.2.2.1,if_neg h.2.2.2.2]
  exact hu va h0
theorem zc3 {a:ET} {ta:TT} (h0:zr ta (evalE E V a)) (h1:typeT ta= true) (ho:ownT E 3 s v ns [ta]= .ok t):zr t (evalE E V (.mk 3 s v ns [a])):=by
 have ho2:(if(kT ta= 2\/kT ta= 3) then Except.ok (ta) else Except.error (6:Int))= Except.ok t:=ho
 obtain⟨hc,rfl⟩:=if_ok ho2
 exact z1B (by decide) h0 fun va hv=>z1x h1 hv (.inl ⟨rfl,hc,rfl⟩)
theorem zci {a:ET} {ta:TT} (h0:zr ta (evalE E V a)) (h1:typeT ta= true) (ho:ownT E 4 s v ns [ta]= .ok t):zr t (evalE E V (.mk 4 s v ns [a])):=by
 have ho2:(if(kT ta= 1) then Except.ok (ta) else Except.error (6:Int))= Except.ok t:=ho
 obtain⟨hc,rfl⟩:=if_ok ho2
 exact z1B (by decide) h0 fun va hv=>z1x h1 hv (.inr (.inl ⟨rfl,hc,rfl⟩))
theorem za4 {a:ET} {ta:TT} (h0:zr ta (evalE E V a)) (h1:typeT ta= true) (ho:ownT E 20 s v ns [ta]= .ok t):zr t (evalE E V (.mk 20 s v ns [a])):=by
 have ho2:(if(kT ta= 5\/kT ta= 4) then Except.ok (pT 2) else Except.error (6:Int))= Except.ok t:=ho
 obtain⟨hc,rfl⟩:=if_ok ho2
 exact z1B (by decide) h0 fun va hv=>z1x h1 hv (.inr (.inr (.inr (.inl ⟨rfl,hc,rfl⟩))))
theorem zbE {a:ET} {ta:TT} (h0:zr ta (evalE E V a)) (h1:typeT ta= true) (ho:ownT E 21 s v ns [ta]= .ok t):zr t (evalE E V (.mk 21 s v ns [a])):=by
 have ho2:(if(kT ta= 2) then Except.ok (pT 3) else Except.error (6:Int))= Except.ok t:=ho
 obtain⟨hc,rfl⟩:=if_ok ho2
 exact z1B (by decide) h0 fun va hv=>z1x h1 hv (.inr (.inr (.inr (.inr (.inl ⟨rfl,hc,rfl⟩)))))
theorem zb7 {a:ET} {ta:TT} (h0:zr ta (evalE E V a)) (h1:typeT ta= true) (ho:ownT E 22 s v ns [ta]= .ok t):zr t (evalE E V (.mk 22 s v ns [a])):=by
 have ho2:(if(kT ta= 3) then Except.ok (pT 2) else Except.error (6:Int))= Except.ok t:=ho
 obtain⟨hc,rfl⟩:=if_ok ho2
 exact z1B (by decide) h0 fun va hv=>z1x h1 hv (.inr (.inr (.inr (.inr (.inr (.inl ⟨rfl,hc,rfl⟩))))))
theorem zbI {a:ET} {ta:TT} (h0:zr ta (evalE E V a)) (h1:typeT ta= true) (ho:ownT E 23 s v ns [ta]= .ok t):zr t (evalE E V (.mk 23 s v ns [a])):=by
 have ho2:(if(kT ta= 1\/kT ta= 2\/kT ta= 3\/kT ta= 4) then Except.ok (pT 4) else Except.error (6:Int))= Except.ok t:=ho
 obtain⟨hc,rfl⟩:=if_ok ho2
 exact z1B (by decide) h0 fun va hv=>z1x h1 hv (.inr (.inr (.inr (.inr (.inr (.inr ⟨rfl,hc,rfl⟩))))))
theorem zaI {a:ET} {ta:TT} (h0:zr ta (evalE E V a)) (h1:typeT ta= true) (ho:ownT E 18 s v ns [ta]= .ok t):zr t (evalE E V (.mk 18 s v ns [a])):=by
 have ho2:z0j s ta= Except.ok t:=ho
 exact z1B (by decide) h0 fun va hv=>z1x h1 hv (.inr (.inr (.inl ⟨rfl,ho2⟩)))
theorem z8n {k:Int} (hk:k= 13\/k= 14) {a b:ET} {ta tb:TT} (h0:zr ta (evalE E V a)) (h1:zr tb (evalE E V b)) (ho:(if kT ta= 1/\kT tb= 1 then Except.ok (pT 1) else Except.error (6:Int))= Except.ok t):zr t (evalE E V (.mk k s v ns [a,b])):=by
 obtain⟨hb,rfl⟩:=if_ok ho
 have s0:=z3l h0 hb.1
 have s1:=z3l h1 hb.2
 rw[evalE,zC,zC,zC,if_neg (by omega),if_neg (by omega),if_pos (by omega)]
 unfold lazyR
 show zr (pT 1) (match boolR (evalE E V a) with| .error e=> .error e| .ok b0=>_)
 cases hba:boolR (evalE E V a) with
 |error e=>rw[hba] at s0;exact s0
 |ok ba=>
  simp only
  rw[if_neg (by omega)]
  split
  ·exact z41 _
  ·show zr (pT 1) ((boolR (evalE E V b)).map vB)
   cases hbb:boolR (evalE E V b) with
   |error e=>rw[hbb] at s1;exact s1
   |ok bb=>exact z41 _
theorem z6c {k:Int} {a b:ET} {ta tb u:TT} (h: ¬ k= 1/\¬ k= 2/\¬ (k= 13\/k= 14\/k= 15)/\¬ k= 16/\¬ k= 17) (h0:zr ta (evalE E V a)) (h1:zr tb (evalE E V b)) (hu:∀ va vb,fitX va ta= true->fitX vb tb= true->zr u (binV k va vb)):zr u (evalE E V (.mk k s v ns [a,b])):=by
 rw[evalE,zC,zC,zC,if_neg h.1,if_neg h.2.1,if_neg h.2.2.1]
 cases hea:evalE E V a with
 |error e=>rw[hea] at h0;exact h0
 |ok va=>
  rw[hea] at h0
  cases heb:evalE E V b with
  |error e=>rw[heb] at h1;exact h1
  |ok vb=>
   rw[heb] at h1
   show zr u (combR k s ns [va,vb])
   rw[combR,if_neg h.2.2.2.1,if_neg h.2.2.2.2]
   exact hu va vb h0 h1
theorem za0 {ta tb:TT} {va vb:VT} (hc:kT ta= 5/\kT tb= 2/\kT (item0 ta)≠7) (ha:fitX va ta= true) (hb:fitX vb tb= true):zr (item0 ta) (binV 19 va vb):=by
 have hka:=z0F ha
 have hkb:=z0F hb
 cases va with
 |mk ka na fa sa nsa ia=>
 cases vb with
 |mk kb nb fb sb nsb ib=>
 cases ta with
 |mk kt nt ts=>
 simp only[kT] at hka hc
 simp only at hkb
 obtain⟨rfl,_⟩:=hka
 obtain⟨hkb,_⟩:=hkb
 obtain⟨rfl,hc2,hc3⟩:=hc
 rw[binV,if_pos rfl,if_pos ⟨rfl,hkb.trans hc2⟩]
 by_cases hn:0<=nb/\nb <(ia.length:Int)
 ·rw[if_pos hn]
  have hlt:nb.toNat < ia.length:=by omega
  rw[fitX,if_pos rfl] at ha
  simp only[Bool.and_eq_true] at ha
  have h5:=ha.2.2
  cases ts with
  |nil=>rw[z1e] at h5;rw[h5] at hlt;simp at hlt
  |cons t0 r=>
   rw[z0u] at h5
   show fitX (ia.getD _ v0) t0= true
   have:ia.getD nb.toNat v0= ia[nb.toNat]:=by simp[List.getD,List.getElem?_eq_getElem hlt]
   rw[this]
   exact h5 _ (List.getElem_mem hlt)
 ·rw[if_neg hn]
  exact .inr (.inr (.inr rfl))
theorem zaR {a b:ET} {ta tb:TT} (h0:zr ta (evalE E V a)) (h1:zr tb (evalE E V b)) (ho:ownT E 19 s v ns [ta,tb]= .ok t):zr t (evalE E V (.mk 19 s v ns [a,b])):=by
 have ho2:(if kT ta= 5/\kT tb= 2/\kT (item0 ta)≠7 then Except.ok (item0 ta) else Except.error (6:Int))= Except.ok t:=ho
 obtain⟨hc,rfl⟩:=if_ok ho2
 exact z6c (by decide) h0 h1 fun va vb ha hb=>za0 hc ha hb
theorem zbn {k:Int} (hk:5<=k/\k<=14) {a b:ET} {ta tb:TT} (h0:zr ta (evalE E V a)) (h1:zr tb (evalE E V b)) (ho:ownT E k s v ns [ta,tb]= .ok t):zr t (evalE E V (.mk k s v ns [a,b])):=by
 have ho2:pairT k ta tb= .ok t:=by
  unfold ownT at ho
  rw[if_neg (by omega),if_neg (by omega),if_neg (by omega),if_neg (by omega),if_neg (by omega),if_neg (by omega),if_neg (by omega),if_neg (by omega),if_neg (by omega),if_neg (by omega),if_neg (by omega),if_neg (by omega),if_neg (by omega)] at ho
  exact ho
 by_cases h13:k= 13\/k= 14
 ·refine z8n h13 h0 h1 ?_
  unfold pairT at ho2
  simp only at ho2
  rw[if_neg (by omega),if_neg (by omega),if_neg (by omega),if_neg (by omega),if_neg (by omega),if_pos h13] at ho2
  exact ho2
 ·exact z6c (by omega) h0 h1 fun va vb ha hb=>z9f ha hb h13 ho2
theorem zat {a b c:ET} {ta tb tc:TT} (h0:zr ta (evalE E V a)) (h1:zr tb (evalE E V b)) (h2:zr tc (evalE E V c)) (ho:ownT E 15 s v ns [ta,tb,tc]= .ok t):zr t (evalE E V (.mk 15 s v ns [a,b,c])):=by
 have ho2:(match joinT tb tc with|some t=>if kT ta= 1 then Except.ok t else Except.error 6|none=>Except.error (6:Int))= Except.ok t:=ho
 cases hj:joinT tb tc with
 |none=>rw[hj] at ho2;cases ho2
 |some u=>
  rw[hj] at ho2
  obtain⟨hb,rfl⟩:=if_ok ho2
  have s0:=z3l h0 hb
  rw[evalE,zC,zC,zC,zC,if_neg (by decide),if_neg (by decide),if_pos (by decide)]
  unfold lazyR
  show zr u (match boolR (evalE E V a) with| .error e=> .error e| .ok b0=>_)
  have S2:∀ {r:Res} {w:TT},zr w r->(w= tb\/w= tc)->zr u r:=fun{r w} hr hw=>by
   cases r with
   |error e=>exact hr
   |ok v=>exact z2h v tb tc u hj (by rcases hw with rfl|rfl;exact .inl hr;exact .inr hr)
  cases hba:boolR (evalE E V a) with
  |error e=>rw[hba] at s0;exact s0
  |ok ba=>
   simp only
   rw[if_pos trivial]
   cases ba with
   |true=>exact S2 h1 (.inl rfl)
   |false=>exact S2 h2 (.inr rfl)
theorem zbm {k:Int} (hk:k= 16\/k= 17) {its:List ET} {l:List TT} (SEQ:match seqR (zC E V its) with| .error e=>errOk e| .ok vs=>fitXL vs l= true) (ho:ownT E k s v ns l= .ok t):zr t (evalE E V (.mk k s v ns its)):=by
 rw[evalE,if_neg (by omega),if_neg (by omega),if_neg (by omega)]
 cases hsr:seqR (zC E V its) with
 |error e=>rw[hsr] at SEQ;exact SEQ
 |ok vs=>
  rw[hsr] at SEQ
  show zr t (combR k s ns vs)
  unfold combR
  have hx:=z1c.1 SEQ
  rcases hk with rfl|rfl
  ·have ho2:(match foldT (pT 7) l with|some t=>Except.ok (TT.mk 5 [] [t])|none=>Except.error (6:Int))= Except.ok t:=ho
   rw[if_pos rfl]
   cases hj:foldT (pT 7) l with
   |none=>rw[hj] at ho2;cases ho2
   |some u=>
    rw[hj] at ho2
    injection ho2 with ho2
    subst ho2
    refine z2N ?_
    rw[fitX,if_pos rfl]
    simp only[Bool.and_eq_true]
    refine⟨rfl,rfl,?_⟩
    rw[z0u]
    intro y hy
    obtain⟨i,hi⟩:=List.mem_iff_getElem?.1 hy
    have hil:=(List.getElem?_eq_some_iff.1 hi).1
    have hil2:i < l.length:=by omega
    exact z6G l _ u y hj (.inr ⟨l[i],List.getElem_mem hil2,hx.2 i y _ hi (List.getElem?_eq_getElem hil2)⟩)
  ·have ho2:Except.ok (TT.mk 6 ns l)=(Except.ok t:Except Int TT):=ho
   injection ho2 with ho2
   subst ho2
   rw[if_neg (by decide),if_pos rfl]
   refine z2N ?_
   rw[fitX,if_neg (by decide),if_pos rfl]
   simp only[Bool.and_eq_true,decide_eq_true_eq]
   simp[SEQ]
end
theorem len1 {α:Type} {l:List α} (h:l.length= 1):∃ a,l=[a]:=by
 match l,h with
 |[a],_=>exact⟨a,rfl⟩
theorem len2 {α:Type} {l:List α} (h:l.length= 2):∃ a b,l=[a,b]:=by
 match l,h with
 |[a,b],_=>exact⟨a,b,rfl⟩
theorem len3 {α:Type} {l:List α} (h:l.length= 3):∃ a b c,l=[a,b,c]:=by
 match l,h with
 |[a,b,c],_=>exact⟨a,b,c,rfl⟩
theorem sound {E:List VarT} {V:List VT} (hV:∀ (i:Nat) x,E[i]?= some x->∃ v,V[i]?= some v/\fitX v x.type= true) (x:ET):∀ d t,z01 x d= true->zZ E x= .ok t->zr t (evalE E V x):=by
 induction x using ET.ind with
 |h k s v ns its ih=>
  intro d t hr hc
  rw[z01] at hr
  simp only[Bool.and_eq_true,decide_eq_true_eq] at hr
  obtain⟨_,hk,_,hval,hrl⟩:=hr
  rw[z1W] at hrl
  obtain⟨l,hs,ho,hty⟩:=z1X hc
  obtain⟨hl,hat⟩:=z4h hs
  have IH:∀ (i:Nat) x t,its[i]?= some x->l[i]?= some t->zr t (evalE E V x):=fun i x t hx ht=>ih x (List.mem_of_getElem? hx) (d+1) t (hrl x (List.mem_of_getElem? hx)) (hat i x t hx ht)
  have HTY:∀ (i:Nat) x t,its[i]?= some x->l[i]?= some t->typeT t= true:=fun i x t hx ht=>by
   have:=hat i x t hx ht
   cases x with
   |mk k' s' v' ns' its'=>obtain⟨_,_,_,h⟩:=z1X this;exact h
  have SEQ:=z5l hl IH
  clear ih hc hs hat hty hrl
  have hkl:=z75 hk
  clear hk
  rcases hkl with ⟨hk,_⟩|⟨hk,hn⟩|⟨hk,hn⟩|⟨rfl,hn⟩|hk
  ·clear IH HTY SEQ hl
   rw[evalE]
   rcases hk with rfl|rfl
   ·rw[if_pos rfl]
    have ho2:Except.ok (pT (kV v))=(Except.ok t:Except Int TT):=ho
    injection ho2 with ho2
    subst ho2
    unfold valB at hval
    rw[if_pos rfl] at hval
    have hck:=z9z hval
    cases v with
    |mk kv n f s' ns' its'=>
     show fitX (z00 _) (pT kv)= true
     rw[z9R]
     have hck2:kv= 1\/kv= 2\/kv= 3\/kv= 4:=hck
     exact z1p (by omega)
   ·rw[if_neg (by decide),if_pos rfl]
    have ho2:(if findV E s= -1 then Except.error (11:Int) else match E[(findV E s).toNat]? with|some x=>Except.ok x.type|none=>Except.error (11:Int))=(Except.ok t:Except Int TT):=ho
    unfold nameR
    by_cases hf:findV E s= -1
    ·rw[if_pos hf] at ho2;cases ho2
    ·rw[if_neg hf] at ho2 ⊢
     cases hx:E[(findV E s).toNat]? with
     |none=>rw[hx] at ho2;cases ho2
     |some y=>
      rw[hx] at ho2
      injection ho2 with ho2
      subst ho2
      obtain⟨u,hu,hfu⟩:=hV _ y hx
      rw[hu]
      show fitX (z00 u) _= true
      rw[z9R];exact hfu
  ·obtain⟨a,rfl⟩:=len1 hn
   obtain⟨ta,rfl⟩:=len1 (hl.trans hn)
   have h0:=IH 0 a ta rfl rfl
   have h1:=HTY 0 a ta rfl rfl
   clear IH HTY SEQ
   rcases hk with rfl|rfl|rfl|hk
   ·exact zc3 h0 h1 ho
   ·exact zci h0 h1 ho
   ·exact zaI h0 h1 ho
   ·have hk:k= 20\/k= 21\/k= 22\/k= 23:=by omega
    rcases hk with rfl|rfl|rfl|rfl
    ·exact za4 h0 h1 ho
    ·exact zbE h0 h1 ho
    ·exact zb7 h0 h1 ho
    ·exact zbI h0 h1 ho
  ·obtain⟨a,b,rfl⟩:=len2 hn
   obtain⟨ta,tb,rfl⟩:=len2 (hl.trans hn)
   have h0:=IH 0 a ta rfl rfl
   have h1:=IH 1 b tb rfl rfl
   clear IH HTY SEQ
   rcases hk with hk|rfl
   ·exact zbn hk h0 h1 ho
   ·exact zaR h0 h1 ho
  ·obtain⟨a,b,c,rfl⟩:=len3 hn
   obtain⟨ta,tb,tc,rfl⟩:=len3 (hl.trans hn)
   have h0:=IH 0 a ta rfl rfl
   have h1:=IH 1 b tb rfl rfl
   have h2:=IH 2 c tc rfl rfl
   exact zat h0 h1 h2 ho
  ·exact zbm hk SEQ ho
end
section
open Go Go.RowKit
def i64R (a:Int):Prop:= -9223372036854775808<=a/\a<=9223372036854775807
section
variable {E:List VarT} {V:List VT}
end
instance (a:Int):Decidable (i64R a):=by unfold i64R;exact inferInstance
end
end Go.Proofs.YtmpbepjjbaeebaaGreatDoor
