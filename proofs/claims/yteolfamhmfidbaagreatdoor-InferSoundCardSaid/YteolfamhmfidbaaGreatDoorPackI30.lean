/- Parts of a proof: EvalP2, EvNotP. -/
import Derived.Test.YteolfamhmfidbaaGreatDoorPackI13
import Derived.Test.YteolfamhmfidbaaGreatDoorPackI17
import Derived.Test.YteolfamhmfidbaaGreatDoorPackI19
import Derived.Test.YteolfamhmfidbaaGreatDoorPackI29
set_option maxHeartbeats 8000000
set_option maxRecDepth 100000
set_option linter.unusedVariables false
set_option linter.unusedSimpArgs false
namespace Go.Proofs.YteolfamhmfidbaaGreatDoor
section
open Go Go.RowKit
mutual
def szV:VT->Nat
 | .mk _ _ _ _ _ its=>szVL its+1
def szVL:List VT->Nat
 |[]=>0
 |a::l=>szV a+szVL l
end
theorem zfj (t:VT):1<=szV t:=by cases t;rw[szV];omega
theorem z8Q:∀ (l:List VT),(∀ x∈l,∀ n,n < 500->cntV x n= min 500 (n+szV x))->∀ n,n<=500->cntL l n= min 500 (n+szVL l)
 |[],_,n,hn=>by rw[cntL,szVL];omega
 |a::l,h,n,hn=>by
  rw[cntL,szVL]
  by_cases h5:500<=n
  ·rw[if_pos h5];omega
  ·rw[if_neg h5,h a (by simp) n (by omega),z8Q l (fun x hx=>h x (by simp[hx])) _ (by omega)]
   omega
theorem zf9 (t:VT):∀ n,n < 500->cntV t n= min 500 (n+szV t):=by
 induction t using VT.ind with
 |h k m f s ns its ih=>
  intro n hn
  rw[cntV,szV,z8Q its ih (n+1) (by omega)]
  omega
theorem z85:∀ {l:List VT} {x:VT},x∈l->szV x<=szVL l
 |a::l,x,hx=>by
  rw[szVL]
  rcases List.mem_cons.1 hx with rfl|hx
  ·omega
  ·have:=z85 hx;omega
theorem z9b:∀ (l:List VT),l.length<=szVL l
 |[]=>by simp
 |a::l=>by
  have:=z9b l
  have:=zfj a
  rw[szVL,List.length_cons];omega
theorem z52:∀ (l:List VT) (d:Nat),(∀ x∈l,∀ d,zp x (d+1)= true->zp x d= true)->zy l (d+1)= true->zy l d= true
 |[],_,_,_=>by rw[zy]
 |a::l,d,h,hr=>by
  rw[zy,Bool.and_eq_true] at hr
  rw[zy,h a (by simp) d hr.1,z52 l d (fun x hx=>h x (by simp[hx])) hr.2];rfl
theorem z4U (t:VT):∀ d,zp t (d+1)= true->zp t d= true:=by
 induction t using VT.ind with
 |h k n f s ns its ih=>
  intro d hr
  rw[zp] at hr ⊢
  by_cases h1:12 < d+1
  ·rw[if_pos h1] at hr;cases hr
  ·rw[if_neg h1] at hr
   rw[if_neg (by omega: ¬ 12 < d)]
   have hL:=z52 its (d+1) ih
   by_cases k1:k= 1
   ·simp only[if_pos k1] at hr ⊢;exact hr
   by_cases k2:k= 2
   ·simp only[if_neg k1,if_pos k2] at hr ⊢;exact hr
   by_cases k3:k= 3
   ·simp only[if_neg k1,if_neg k2,if_pos k3] at hr ⊢;exact hr
   by_cases k4:k= 4
   ·simp only[if_neg k1,if_neg k2,if_neg k3,if_pos k4] at hr ⊢;exact hr
   by_cases k6:k= 6
   ·simp only[if_neg k1,if_neg k2,if_neg k3,if_neg k4,if_pos k6,Bool.and_eq_true] at hr ⊢
    exact⟨hr.1,hr.2.1,hr.2.2.1,hL hr.2.2.2⟩
   by_cases k5:k= 5
   ·simp only[if_neg k1,if_neg k2,if_neg k3,if_neg k4,if_neg k6,if_pos k5,Bool.and_eq_true] at hr ⊢
    exact⟨hr.1,hr.2.1,hL hr.2.2⟩
   ·simp only[if_neg k1,if_neg k2,if_neg k3,if_neg k4,if_neg k6,if_neg k5] at hr;cases hr
theorem z0J {t:VT}:zh t= true↔szV t<=200/\zp t 1= true:=by
 unfold zh
 rw[Bool.and_eq_true,decide_eq_true_eq,zf9 t 0 (by omega)]
 constructor
 ·rintro⟨h,h2⟩;exact⟨by omega,h2⟩
 ·rintro⟨h,h2⟩;exact⟨by omega,h2⟩
theorem z7n {k n:Int} {f:Nat} {s:ByteArray} {ns:List ByteArray} {its:List VT} (h:zh (.mk k n f s ns its)= true) {x:VT} (hx:x∈its):zh x= true:=by
 obtain⟨h1,h2⟩:=z0J.1 h
 rw[szV] at h1
 have h3:=z85 hx
 refine z0J.2 ⟨by omega,?_⟩
 rcases z1Z h2 with ⟨_,_,_,e⟩|⟨_,_,e⟩|⟨_,_,e⟩|⟨_,_,_,e⟩|⟨_,_,h4⟩|⟨_,_,_,h4⟩
 ·rw[e] at hx;cases hx
 ·rw[e] at hx;cases hx
 ·rw[e] at hx;cases hx
 ·rw[e] at hx;cases hx
 ·exact z4U x 1 (z1X h4 x hx)
 ·exact z4U x 1 (z1X h4 x hx)
theorem z5B {k n:Int} {f:Nat} {s:ByteArray} {ns:List ByteArray} {its:List VT} (h:zh (.mk k n f s ns its)= true) {i:Nat} (hi:i < its.length):zh (its.getD i v0)= true:=by
 have:its.getD i v0= its[i]:=by simp[List.getD,List.getElem?_eq_getElem hi]
 rw[this];exact z7n h (List.getElem_mem hi)
theorem z09 {k n:Int} {f:Nat} {s:ByteArray} {ns:List ByteArray} {its:List VT} (h:zh (.mk k n f s ns its)= true):its.length<=199/\ns.length<=its.length/\(k= 6->ns.length= its.length):=by
 obtain⟨h1,h2⟩:=z0J.1 h
 rw[szV] at h1
 have h3:=z9b its
 refine⟨by omega,?_⟩
 rcases z1Z h2 with ⟨e0,_,e,_⟩|⟨e0,e,_⟩|⟨e0,e,_⟩|⟨e0,_,e,_⟩|⟨e0,e,_⟩|⟨e0,e,_⟩
 all_goals first|(rw[e];exact⟨Nat.zero_le _,fun h6=>by omega⟩)|exact⟨by omega,fun _=>e⟩
theorem z6Q (t:VT):zh t= true->Fit t:=by
 induction t using VT.ind with
 |h k n f s ns its ih=>
  intro h
  obtain⟨h1,h2,_⟩:=z09 h
  have hr:reachBytes= 140737488351232:=rfl
  exact .mk (by omega) (by omega) fun x hx=>ih x hx (z7n h hx)
theorem z4s (v:VT):zh (z06 v)= zh v:=by unfold zh;rw[z9v,z9y]
theorem z1k (b:Bool):zh (vB b)= true:=by cases b<;>decide +kernel
theorem z8j:(⟨#[]⟩:ByteArray).toList.isEmpty= true:=by decide +kernel
theorem zd0:cmpF 0 0= 0:=by decide +kernel
theorem z3O (n:Int):zh (vI n)= true:=z0J.2 ⟨by unfold vI;rw[szV,szVL];omega,by
 unfold vI;rw[zp,if_neg (by decide),if_neg (by decide),if_pos rfl];unfold bareB;rw[zd0,z8j];simp⟩
theorem z5h (f:Nat):zh (vF f)= true:=z0J.2 ⟨by unfold vF;rw[szV,szVL];omega,by
 unfold vF;rw[zp,if_neg (by decide),if_neg (by decide),if_neg (by decide),if_pos rfl];unfold bareB;rw[z8j];simp⟩
theorem zeI {s:ByteArray} (h:s.size<=200):zh (vS s)= true:=z0J.2 ⟨by unfold vS;rw[szV,szVL];omega,by
 unfold vS;rw[zp,if_neg (by decide),if_neg (by decide),if_neg (by decide),if_neg (by decide),if_pos rfl,decide_eq_true h];unfold bareB;rw[zd0];simp⟩
theorem z3Y {v r:VT} (h:szd v= .ok r):r= v/\zh r= true:=by
 unfold szd at h
 split at h
 ·injection h with h;subst h;exact⟨rfl,by assumption⟩
 ·cases h
theorem z5E {k n:Int} {f:Nat} {s:ByteArray} {ns:List ByteArray} {its:List VT} (hn: -9223372036854775808<=n/\n<=9223372036854775807) (hk:k= 1\/k= 2\/k= 3):(textV (.mk k n f s ns its)).length<=200:=by
 rw[textV]
 rcases hk with rfl|rfl|rfl
 ·simp only[if_true]
  split<;>decide
 ·rw[if_neg (by decide),if_pos rfl]
  have:=z2u hn.1 hn.2;omega
 ·rw[if_neg (by decide),if_neg (by decide),if_pos rfl]
  have:=z75 f;omega
theorem zcd {k:Int} {s:ByteArray} {a v:VT} (hs:saneV a) (ha:zh a= true) (h:unV k s a= .ok v):zh v= true:=by
 cases a with
 |mk kv n f sv ns its=>
  rw[saneV] at hs
  rw[unV] at h
  by_cases k18:k= 18
  ·rw[if_pos k18] at h
   by_cases k6:kv= 6
   ·rw[if_neg (by simpa using k6)] at h
    have hl:=(z09 ha).2.2 k6
    by_cases h1:Lib.idxOfS ns s= -1
    ·rw[if_pos h1] at h;cases h
    ·rw[if_neg h1] at h
     injection h with h
     rw[← h]
     rcases z7y ns s with h2|h2
     ·contradiction
     ·exact z5B ha (by omega)
   ·rw[if_pos k6] at h;cases h
  rw[if_neg k18] at h
  by_cases k4:k= 4
  ·rw[if_pos k4] at h
   split at h
   ·injection h with h;rw[← h];exact z1k _
   ·cases h
  rw[if_neg k4] at h
  by_cases k21:k= 21
  ·rw[if_pos k21] at h
   split at h
   ·injection h with h;rw[← h];exact z5h _
   ·cases h
  rw[if_neg k21] at h
  by_cases k22:k= 22
  ·rw[if_pos k22] at h
   split at h
   ·split at h
    ·injection h with h;rw[← h];exact z3O _
    ·cases h
   ·cases h
  rw[if_neg k22] at h
  by_cases k23:k= 23
  ·rw[if_pos k23] at h
   split at h
   ·injection h with h;rw[← h];exact ha
   ·split at h
    ·injection h with h
     rename_i hk
     rw[← h]
     refine zeI ?_
     show(textV _).toArray.size<=200
     rw[List.size_toArray]
     exact z5E hs.1 hk
    ·cases h
  rw[if_neg k23] at h
  by_cases k20:k= 20
  ·rw[if_pos k20] at h
   split at h
   ·injection h with h;rw[← h];exact z3O _
   ·cases h
  rw[if_neg k20] at h
  split at h
  ·injection h with h;rw[← h];exact z5h _
  ·split at h
   ·split at h
    ·cases h
    ·injection h with h;rw[← h];exact z3O _
   ·cases h
theorem z8T {α:Type} {x:Except Int α} {g:α->VT} {v:VT} (h:x.map g= .ok v):∃ y,x= .ok y/\v= g y:=by
 cases x with
 |error e=>cases h
 |ok y=>injection h with h;exact⟨y,rfl,h.symm⟩
theorem zbn {k:Int} {a b v:VT} (ha:zh a= true) (h:binV k a b= .ok v):zh v= true:=by
 cases a with
 |mk ka na fa sa nsa ia=>
 cases b with
 |mk kb nb fb sb nsb ib=>
  rw[binV] at h
  by_cases k19:k= 19
  ·rw[if_pos k19] at h
   split at h
   ·split at h
    ·rename_i hb
     injection h with h;rw[← h]
     exact z5B ha (by omega)
    ·cases h
   ·cases h
  rw[if_neg k19] at h
  split at h
  ·cases h
  split at h
  ·injection h with h;rw[← h];exact z1k _
  split at h
  ·obtain⟨y,_,rfl⟩:=z8T h;exact z1k _
  split at h
  ·obtain⟨y,_,rfl⟩:=z8T h;exact z3O _
  split at h
  ·obtain⟨y,_,rfl⟩:=z8T h;exact z5h _
  split at h
  ·exact(z3Y h).2
  ·cases h
end
section
open Go Go.RowKit
mutual
def szE:ET->Nat
 | .mk _ _ _ _ its=>szEL its+1
def szEL:List ET->Nat
 |[]=>0
 |a::l=>szE a+szEL l
end
theorem zfn (t:ET):1<=szE t:=by cases t;rw[szE];omega
theorem z7M:∀ (l:List ET),(∀ x∈l,∀ n,n < 500->cntE x n= min 500 (n+szE x))->∀ n,n<=500->cntEL l n= min 500 (n+szEL l)
 |[],_,n,hn=>by rw[cntEL,szEL];omega
 |a::l,h,n,hn=>by
  rw[cntEL,szEL]
  by_cases h5:500<=n
  ·rw[if_pos h5];omega
  ·rw[if_neg h5,h a (by simp) n (by omega),z7M l (fun x hx=>h x (by simp[hx])) _ (by omega)]
   omega
theorem zdT (t:ET):∀ n,n < 500->cntE t n= min 500 (n+szE t):=by
 induction t using ET.ind with
 |h k s v ns its ih=>
  intro n hn
  rw[cntE,szE,z7M its ih (n+1) (by omega)]
  omega
theorem z4Q {d:Nat}:∀ {l:List ET},zU l d= true↔∀ x∈l,z02 x d= true
 |[]=>by rw[zU];simp
 |a::l=>by rw[zU,Bool.and_eq_true,z4Q];simp
theorem z9t {t:ET}:zJ t= true↔szE t<=200/\z02 t 1= true:=by
 unfold zJ
 rw[Bool.and_eq_true,decide_eq_true_eq,zdT t 0 (by omega)]
 constructor
 ·rintro⟨h,h2⟩;exact⟨by omega,h2⟩
 ·rintro⟨h,h2⟩;exact⟨by omega,h2⟩
section
variable {E:List VarT} {V:List VT}
end
mutual
def z1b (nm:ByteArray):ET->Bool
 | .mk k s _ _ its=>(decide (k= 2) && (s.toList ==nm.toList)) || z1G nm its
def z1G (nm:ByteArray):List ET->Bool
 |[]=>false
 |a::l=>z1b nm a || z1G nm l
end
theorem z3Q (E:List VarT) (V:List VT):∀ l:List ET,zK E V l= l.map (evalE E V)
 |[]=>by rw[zK];rfl
 |a::l=>by rw[zK,z3Q E V l];rfl
theorem z8O (E:List VarT) (s:ByteArray):findV E s= -1\/(0<=findV E s/\findV E s <(E.length:Int)):=by
 induction E with
 |nil=>exact .inl rfl
 |cons a l ih=>
  unfold findV
  split
  ·exact .inr ⟨by omega,by rw[List.length_cons];omega⟩
  ·split
   ·exact .inl rfl
   ·rcases ih with h|h
    ·contradiction
    ·exact .inr ⟨by omega,by rw[List.length_cons];omega⟩
theorem zdV {E:List VarT} {s:ByteArray} {i:Nat} (h:findV E s=(i:Int)):∃ x,E[i]?= some x/\(x.name.toList ==s.toList)= true:=by
 induction E generalizing i with
 |nil=>unfold findV at h;omega
 |cons a l ih=>
  unfold findV at h
  split at h
  ·rename_i hn
   obtain rfl:i= 0:=by omega
   exact⟨a,rfl,hn⟩
  ·split at h
   ·omega
   ·match i,h with
    |0,h=>rcases z8O l s with h2|h2<;>omega
    |i+1,h=>
     obtain⟨x,h1,h2⟩:=ih (i:=i) (by omega)
     exact⟨x,by simpa using h1,h2⟩
end
end Go.Proofs.YteolfamhmfidbaaGreatDoor
