/- Parts of a proof: EvalP2, EvNotP, InfRepP. -/
import Derived.Test.YteolfamhmfidbaaGreatDoorPackJ7
import Derived.Test.YteolfamhmfidbaaGreatDoorPackJ10
import Derived.Test.YteolfamhmfidbaaGreatDoorPackJ11
import Derived.Test.YteolfamhmfidbaaGreatDoorPackJ12
import Derived.Test.YteolfamhmfidbaaGreatDoorPackJ21
set_option maxHeartbeats 8000000
set_option maxRecDepth 100000
set_option linter.unusedVariables false
set_option linter.unusedSimpArgs false
namespace Go.Proofs.YteolfamhmfidbaaGreatDoor
section
open Go Go.RowKit
mutual
def szV:VT->Nat
 | .mk _ _ _ _ _ its=>szVL its+1
def szVL:List VT->Nat
 |[]=>0
 |a::l=>szV a+szVL l
end
theorem zfL (t:VT):1<=szV t:=by cases t;rw[szV];omega
theorem z8P:∀ (l:List VT),(∀ x∈l,∀ n,n < 500->cntV x n= min 500 (n+szV x))->∀ n,n<=500->cntL l n= min 500 (n+szVL l)
 |[],_,n,hn=>by rw[cntL,szVL];omega
 |a::l,h,n,hn=>by
  rw[cntL,szVL]
  by_cases h5:500<=n
  ·rw[if_pos h5];omega
  ·rw[if_neg h5,h a (by simp) n (by omega),z8P l (fun x hx=>h x (by simp[hx])) _ (by omega)]
   omega
theorem zdf (t:VT):∀ n,n < 500->cntV t n= min 500 (n+szV t):=by
 induction t using VT.ind with
 |h k m f s ns its ih=>
  intro n hn
  rw[cntV,szV,z8P its ih (n+1) (by omega)]
  omega
theorem z8N:∀ {l:List VT} {x:VT},x∈l->szV x<=szVL l
 |a::l,x,hx=>by
  rw[szVL]
  rcases List.mem_cons.1 hx with rfl|hx
  ·omega
  ·have:=z8N hx;omega
theorem z8I:∀ (l:List VT),l.length<=szVL l
 |[]=>by simp
 |a::l=>by
  have:=z8I l
  have:=zfL a
  rw[szVL,List.length_cons];omega
theorem z4P:∀ (l:List VT) (d:Nat),(∀ x∈l,∀ d,zo x (d+1)= true->zo x d= true)->zA l (d+1)= true->zA l d= true
 |[],_,_,_=>by rw[zA]
 |a::l,d,h,hr=>by
  rw[zA,Bool.and_eq_true] at hr
  rw[zA,h a (by simp) d hr.1,z4P l d (fun x hx=>h x (by simp[hx])) hr.2];rfl
theorem z4J (t:VT):∀ d,zo t (d+1)= true->zo t d= true:=by
 induction t using VT.ind with
 |h k n f s ns its ih=>
  intro d hr
  rw[zo] at hr ⊢
  by_cases h1:12 < d+1
  ·rw[if_pos h1] at hr;cases hr
  ·rw[if_neg h1] at hr
   rw[if_neg (by omega: ¬ 12 < d)]
   have hL:=z4P its (d+1) ih
   by_cases k1:k= 1
   ·simp only[if_pos k1] at hr ⊢;exact hr
   by_cases k2:k= 2
   ·simp only[if_neg k1,if_pos k2] at hr ⊢;exact hr
   by_cases k3:k= 3
   ·simp only[if_neg k1,if_neg k2,if_pos k3] at hr ⊢;exact hr
   by_cases k4:k= 4
   ·simp only[if_neg k1,if_neg k2,if_neg k3,if_pos k4] at hr ⊢;exact hr
   by_cases k6:k= 6
   ·simp only[if_neg k1,if_neg k2,if_neg k3,if_neg k4,if_pos k6,Bool.and_eq_true] at hr ⊢
    exact⟨hr.1,hr.2.1,hr.2.2.1,hL hr.2.2.2⟩
   by_cases k5:k= 5
   ·simp only[if_neg k1,if_neg k2,if_neg k3,if_neg k4,if_neg k6,if_pos k5,Bool.and_eq_true] at hr ⊢
    exact⟨hr.1,hr.2.1,hL hr.2.2⟩
   ·simp only[if_neg k1,if_neg k2,if_neg k3,if_neg k4,if_neg k6,if_neg k5] at hr;cases hr
theorem z0D {t:VT}:zl t= true↔szV t<=200/\zo t 1= true:=by
 unfold zl
 rw[Bool.and_eq_true,decide_eq_true_eq,zdf t 0 (by omega)]
 constructor
 ·rintro⟨h,h2⟩;exact⟨by omega,h2⟩
 ·rintro⟨h,h2⟩;exact⟨by omega,h2⟩
theorem z7n {k n:Int} {f:Nat} {s:ByteArray} {ns:List ByteArray} {its:List VT} (h:zl (.mk k n f s ns its)= true) {x:VT} (hx:x∈its):zl x= true:=by
 obtain⟨h1,h2⟩:=z0D.1 h
 rw[szV] at h1
 have h3:=z8N hx
 refine z0D.2 ⟨by omega,?_⟩
 rcases z1M h2 with ⟨_,_,_,e⟩|⟨_,_,e⟩|⟨_,_,e⟩|⟨_,_,_,e⟩|⟨_,_,h4⟩|⟨_,_,_,h4⟩
 ·rw[e] at hx;cases hx
 ·rw[e] at hx;cases hx
 ·rw[e] at hx;cases hx
 ·rw[e] at hx;cases hx
 ·exact z4J x 1 (z1P h4 x hx)
 ·exact z4J x 1 (z1P h4 x hx)
theorem z5v {k n:Int} {f:Nat} {s:ByteArray} {ns:List ByteArray} {its:List VT} (h:zl (.mk k n f s ns its)= true) {i:Nat} (hi:i < its.length):zl (its.getD i v0)= true:=by
 have:its.getD i v0= its[i]:=by simp[List.getD,List.getElem?_eq_getElem hi]
 rw[this];exact z7n h (List.getElem_mem hi)
theorem z06 {k n:Int} {f:Nat} {s:ByteArray} {ns:List ByteArray} {its:List VT} (h:zl (.mk k n f s ns its)= true):its.length<=199/\ns.length<=its.length/\(k= 6->ns.length= its.length):=by
 obtain⟨h1,h2⟩:=z0D.1 h
 rw[szV] at h1
 have h3:=z8I its
 refine⟨by omega,?_⟩
 rcases z1M h2 with ⟨e0,_,e,_⟩|⟨e0,e,_⟩|⟨e0,e,_⟩|⟨e0,_,e,_⟩|⟨e0,e,_⟩|⟨e0,e,_⟩
 all_goals first|(rw[e];exact⟨Nat.zero_le _,fun h6=>by omega⟩)|exact⟨by omega,fun _=>e⟩
theorem z6B (t:VT):zl t= true->Fit t:=by
 induction t using VT.ind with
 |h k n f s ns its ih=>
  intro h
  obtain⟨h1,h2,_⟩:=z06 h
  have hr:reachBytes= 140737488351232:=rfl
  exact .mk (by omega) (by omega) fun x hx=>ih x hx (z7n h hx)
theorem z3Q (v:VT):zl (z01 v)= zl v:=by unfold zl;rw[z9s,z9v]
theorem z17 (b:Bool):zl (vB b)= true:=by cases b<;>decide +kernel
theorem z8w:(⟨#[]⟩:ByteArray).toList.isEmpty= true:=by decide +kernel
theorem zc5:cmpF 0 0= 0:=by decide +kernel
theorem z3t (n:Int):zl (vI n)= true:=z0D.2 ⟨by unfold vI;rw[szV,szVL];omega,by
 unfold vI;rw[zo,if_neg (by decide),if_neg (by decide),if_pos rfl];unfold bareB;rw[zc5,z8w];simp⟩
theorem z5i (f:Nat):zl (vF f)= true:=z0D.2 ⟨by unfold vF;rw[szV,szVL];omega,by
 unfold vF;rw[zo,if_neg (by decide),if_neg (by decide),if_neg (by decide),if_pos rfl];unfold bareB;rw[z8w];simp⟩
theorem zdh {s:ByteArray} (h:s.size<=200):zl (vS s)= true:=z0D.2 ⟨by unfold vS;rw[szV,szVL];omega,by
 unfold vS;rw[zo,if_neg (by decide),if_neg (by decide),if_neg (by decide),if_neg (by decide),if_pos rfl,decide_eq_true h];unfold bareB;rw[zc5];simp⟩
theorem z48 {v r:VT} (h:szd v= .ok r):r= v/\zl r= true:=by
 unfold szd at h
 split at h
 ·injection h with h;subst h;exact⟨rfl,by assumption⟩
 ·cases h
theorem z5L {k n:Int} {f:Nat} {s:ByteArray} {ns:List ByteArray} {its:List VT} (hn: -9223372036854775808<=n/\n<=9223372036854775807) (hk:k= 1\/k= 2\/k= 3):(textV (.mk k n f s ns its)).length<=200:=by
 rw[textV]
 rcases hk with rfl|rfl|rfl
 ·simp only[if_true]
  split<;>decide
 ·rw[if_neg (by decide),if_pos rfl]
  have:=z2g hn.1 hn.2;omega
 ·rw[if_neg (by decide),if_neg (by decide),if_pos rfl]
  have:=z6K f;omega
theorem zbm {k:Int} {s:ByteArray} {a v:VT} (hs:saneV a) (ha:zl a= true) (h:unV k s a= .ok v):zl v= true:=by
 cases a with
 |mk kv n f sv ns its=>
  rw[saneV] at hs
  rw[unV] at h
  by_cases k18:k= 18
  ·rw[if_pos k18] at h
   by_cases k6:kv= 6
   ·rw[if_neg (by simpa using k6)] at h
    have hl:=(z06 ha).2.2 k6
    by_cases h1:Lib.idxOfS ns s= -1
    ·rw[if_pos h1] at h;cases h
    ·rw[if_neg h1] at h
     injection h with h
     rw[← h]
     rcases z6M ns s with h2|h2
     ·contradiction
     ·exact z5v ha (by omega)
   ·rw[if_pos k6] at h;cases h
  rw[if_neg k18] at h
  by_cases k4:k= 4
  ·rw[if_pos k4] at h
   split at h
   ·injection h with h;rw[← h];exact z17 _
   ·cases h
  rw[if_neg k4] at h
  by_cases k21:k= 21
  ·rw[if_pos k21] at h
   split at h
   ·injection h with h;rw[← h];exact z5i _
   ·cases h
  rw[if_neg k21] at h
  by_cases k22:k= 22
  ·rw[if_pos k22] at h
   split at h
   ·split at h
    ·injection h with h;rw[← h];exact z3t _
    ·cases h
   ·cases h
  rw[if_neg k22] at h
  by_cases k23:k= 23
  ·rw[if_pos k23] at h
   split at h
   ·injection h with h;rw[← h];exact ha
   ·split at h
    ·injection h with h
     rename_i hk
     rw[← h]
     refine zdh ?_
     show(textV _).toArray.size<=200
     rw[List.size_toArray]
     exact z5L hs.1 hk
    ·cases h
  rw[if_neg k23] at h
  by_cases k20:k= 20
  ·rw[if_pos k20] at h
   split at h
   ·injection h with h;rw[← h];exact z3t _
   ·cases h
  rw[if_neg k20] at h
  split at h
  ·injection h with h;rw[← h];exact z5i _
  ·split at h
   ·split at h
    ·cases h
    ·injection h with h;rw[← h];exact z3t _
   ·cases h
theorem z8h {α:Type} {x:Except Int α} {g:α->VT} {v:VT} (h:x.map g= .ok v):∃ y,x= .ok y/\v= g y:=by
 cases x with
 |error e=>cases h
 |ok y=>injection h with h;exact⟨y,rfl,h.symm⟩
theorem zb1 {k:Int} {a b v:VT} (ha:zl a= true) (h:binV k a b= .ok v):zl v= true:=by
 cases a with
 |mk ka na fa sa nsa ia=>
 cases b with
 |mk kb nb fb sb nsb ib=>
  rw[binV] at h
  by_cases k19:k= 19
  ·rw[if_pos k19] at h
   split at h
   ·split at h
    ·rename_i hb
     injection h with h;rw[← h]
     exact z5v ha (by omega)
    ·cases h
   ·cases h
  rw[if_neg k19] at h
  split at h
  ·cases h
  split at h
  ·injection h with h;rw[← h];exact z17 _
  split at h
  ·obtain⟨y,_,rfl⟩:=z8h h;exact z17 _
  split at h
  ·obtain⟨y,_,rfl⟩:=z8h h;exact z3t _
  split at h
  ·obtain⟨y,_,rfl⟩:=z8h h;exact z5i _
  split at h
  ·exact(z48 h).2
  ·cases h
end
section
open Go Go.RowKit
mutual
def szE:ET->Nat
 | .mk _ _ _ _ its=>szEL its+1
def szEL:List ET->Nat
 |[]=>0
 |a::l=>szE a+szEL l
end
theorem zfP (t:ET):1<=szE t:=by cases t;rw[szE];omega
theorem z75:∀ (l:List ET),(∀ x∈l,∀ n,n < 500->cntE x n= min 500 (n+szE x))->∀ n,n<=500->cntEL l n= min 500 (n+szEL l)
 |[],_,n,hn=>by rw[cntEL,szEL];omega
 |a::l,h,n,hn=>by
  rw[cntEL,szEL]
  by_cases h5:500<=n
  ·rw[if_pos h5];omega
  ·rw[if_neg h5,h a (by simp) n (by omega),z75 l (fun x hx=>h x (by simp[hx])) _ (by omega)]
   omega
theorem zeK (t:ET):∀ n,n < 500->cntE t n= min 500 (n+szE t):=by
 induction t using ET.ind with
 |h k s v ns its ih=>
  intro n hn
  rw[cntE,szE,z75 its ih (n+1) (by omega)]
  omega
theorem z1F {d:Nat}:∀ {l:List ET},zP l d= true↔∀ x∈l,zK x d= true
 |[]=>by rw[zP];simp
 |a::l=>by rw[zP,Bool.and_eq_true,z1F];simp
theorem z1C {t:ET}:zB t= true↔szE t<=200/\zK t 1= true:=by
 unfold zB
 rw[Bool.and_eq_true,decide_eq_true_eq,zeK t 0 (by omega)]
 constructor
 ·rintro⟨h,h2⟩;exact⟨by omega,h2⟩
 ·rintro⟨h,h2⟩;exact⟨by omega,h2⟩
section
variable {E:List VarT} {V:List VT}
theorem zb5 {x y:ET} (hr:zB y= zB x) (he:evalE E V y= evalE E V x):evalT y E V= evalT x E V:=by
 unfold evalT
 rw[hr,he]
end
theorem z3F (E:List VarT) (V:List VT):∀ l:List ET,zM E V l= l.map (evalE E V)
 |[]=>by rw[zM];rfl
 |a::l=>by rw[zM,z3F E V l];rfl
theorem zew (E:List VarT) (s:ByteArray):findV E s= -1\/(0<=findV E s/\findV E s <(E.length:Int)):=by
 induction E with
 |nil=>exact .inl rfl
 |cons a l ih=>
  unfold findV
  split
  ·exact .inr ⟨by omega,by rw[List.length_cons];omega⟩
  ·split
   ·exact .inl rfl
   ·rcases ih with h|h
    ·contradiction
    ·exact .inr ⟨by omega,by rw[List.length_cons];omega⟩
theorem zdg {E:List VarT} {s:ByteArray} {i:Nat} (h:findV E s=(i:Int)):∃ x,E[i]?= some x/\(x.name.toList ==s.toList)= true:=by
 induction E generalizing i with
 |nil=>unfold findV at h;omega
 |cons a l ih=>
  unfold findV at h
  split at h
  ·rename_i hn
   obtain rfl:i= 0:=by omega
   exact⟨a,rfl,hn⟩
  ·split at h
   ·omega
   ·match i,h with
    |0,h=>rcases zew l s with h2|h2<;>omega
    |i+1,h=>
     obtain⟨x,h1,h2⟩:=ih (i:=i) (by omega)
     exact⟨x,by simpa using h1,h2⟩
end
section
open Go Go.RowKit
def conT (v:VT):ET:= .mk 1 ⟨#[]⟩ v [] []
theorem zav {v:VT} {d:Nat} (h:zK (conT v) 1= true) (hd:d<=12):zK (conT v) d= true:=by
 unfold conT at h ⊢
 rw[zK] at h ⊢
 simp only[Bool.and_eq_true,decide_eq_true_eq] at h ⊢
 exact⟨hd,h.2.1,h.2.2.1,h.2.2.2.1,by rw[zP]⟩
theorem zaw {nm:ByteArray} {v:VT} (hc:zK (conT v) 1= true) (t:ET):∀ d,zK t d= true->zK (replE nm (conT v) t) d= true:=by
 induction t using ET.ind with
 |h k s u ns its ih=>
  intro d h
  rw[zK] at h
  simp only[Bool.and_eq_true,decide_eq_true_eq] at h
  rw[replE]
  split
  ·exact zav hc h.1
  ·rw[zK]
   simp only[Bool.and_eq_true,decide_eq_true_eq]
   rw[z1p]
   refine⟨h.1,h.2.1,h.2.2.1,h.2.2.2.1,?_⟩
   have hl:=h.2.2.2.2
   rw[z1F] at hl ⊢
   intro x hx
   rw[z1m] at hx
   obtain⟨y,hy,rfl⟩:=List.mem_map.1 hx
   exact ih y hy _ (hl y hy)
theorem zd9 {nm:ByteArray} {v:VT} (t:ET):(∀ d,zK t d= true->szE (replE nm (conT v) t)= szE t):=by
 induction t using ET.ind with
 |h k s u ns its ih=>
  intro d h
  rw[zK] at h
  simp only[Bool.and_eq_true,decide_eq_true_eq] at h
  rw[replE]
  split
  ·rename_i h2
   have hk:=h.2.1
   rw[h2.1] at hk
   have:its.length= 0:=by
    unfold kidsB z0e at hk
    simp at hk
    simp[hk]
   rw[List.eq_nil_of_length_eq_zero this]
   unfold conT
   rw[szE,szE]
  ·rw[szE,szE]
   have hl:=h.2.2.2.2
   rw[z1F] at hl
   have key:∀ (l:List ET),(∀ x∈l,szE (replE nm (conT v) x)= szE x)->szEL (z02 nm (conT v) l)= szEL l:=by
    intro l
    induction l with
    |nil=>intro _;rw[z02]
    |cons a l ihl=>
     intro hx
     rw[z02,szEL,szEL,hx a (by simp),ihl fun x hxx=>hx x (List.mem_cons_of_mem _ hxx)]
   rw[key its fun x hx=>ih x hx _ (hl x hx)]
theorem zcI {nm:ByteArray} {v:VT} {E:List VarT} {P:List VT} {k:Nat} (hf:findV E nm=(k:Int)) (hP:P[k]?= some v) (t:ET):evalE E P (replE nm (conT v) t)= evalE E P t:=by
 induction t using ET.ind with
 |h q s u ns its ih=>
  rw[replE]
  split
  ·rename_i h2
   obtain⟨rfl,hs⟩:=h2
   have he:s= nm:=by
    rw[beq_iff_eq,toList_eq,toList_eq] at hs
    cases s
    cases nm
    simp only at hs
    rw[Array.toList_inj.1 hs]
   subst he
   unfold conT
   rw[evalE,if_pos rfl,evalE,if_neg (by decide),if_pos rfl]
   unfold nameR
   rw[if_neg (by omega),hf]
   simp only[Int.toNat_natCast]
   rw[hP]
  ·have hL:zM E P (z02 nm (conT v) its)= zM E P its:=by
    rw[z3F,z3F,z1m,List.map_map]
    exact List.map_congr_left fun x hx=>ih x hx
   rw[evalE,evalE,hL]
theorem za2 {nm:ByteArray} {v:VT} {E:List VarT} {P:List VT} {k:Nat} (hf:findV E nm=(k:Int)) (hP:P[k]?= some v) {t:ET} (ht:zB t= true) (hc:zB (conT v)= true):evalT (replE nm (conT v) t) E P= evalT t E P:=by
 obtain⟨h1,h2⟩:=z1C.1 ht
 obtain⟨_,h4⟩:=z1C.1 hc
 have hr:zB (replE nm (conT v) t)= true:=z1C.2 ⟨by rw[zd9 t 1 h2];exact h1,zaw h4 t 1 h2⟩
 exact zb5 (hr.trans ht.symm) (zcI hf hP t)
end
end Go.Proofs.YteolfamhmfidbaaGreatDoor
