/- Parts of a proof: EvalP2, EvNotP, EvMathP, Rds10. -/
import Derived.Test.YtmpbepjjbaeebaaGreatDoorPackR8
import Derived.Test.YtmpbepjjbaeebaaGreatDoorPackR9
import Derived.Test.YtmpbepjjbaeebaaGreatDoorPackR13
import Derived.Test.YtmpbepjjbaeebaaGreatDoorPackR24
import Derived.Test.YtmpbepjjbaeebaaGreatDoorPackR25
import Derived.Test.YtmpbepjjbaeebaaGreatDoorPackR27
set_option maxHeartbeats 8000000
set_option maxRecDepth 100000
set_option linter.unusedVariables false
set_option linter.unusedSimpArgs false
section
namespace Go.Proofs.YtmpbepjjbaeebaaGreatDoor
open Go Go.RowKit
open Go.Lib (hid)
mutual
def szV:VT→Nat
 | .mk _ _ _ _ _ its=>szVL its+1
def szVL:List VT→Nat
 |[]=>0
 |a::l=>szV a+szVL l
end
theorem zcV (t:VT):1≤szV t:=by cases t;rw[szV];omega
theorem z6X:∀ (l:List VT),(∀ x∈l,∀ n,n < 500→cntV x n= min 500 (n+szV x))→∀ n,n≤500→cntL l n= min 500 (n+szVL l)
 |[],_,n,hn=>by rw[cntL,szVL];omega
 |a::l,h,n,hn=>by
  rw[cntL,szVL]
  by_cases h5:500≤n
  ·rw[if_pos h5];omega
  ·rw[if_neg h5,h a (by simp) n (by omega),z6X l (fun x hx=>h x (by simp[hx])) _ (by omega)]
   omega
theorem zaV (t:VT):∀ n,n < 500→cntV t n= min 500 (n+szV t):=by
 induction t using VT.ind with
 |h k m f s ns its ih=>
  intro n hn
  rw[cntV,szV,z6X its ih (n+1) (by omega)]
  omega
theorem z71:∀ {l:List VT} {x:VT},x∈l→szV x≤szVL l
 |a::l,x,hx=>by
  rw[szVL]
  rcases List.mem_cons.1 hx with rfl|hx
  ·omega
  ·have:=z71 hx;omega
theorem z6K:∀ (l:List VT),l.length≤szVL l
 |[]=>by simp
 |a::l=>by
  have:=z6K l
  have:=zcV a
  rw[szVL,List.length_cons];omega
theorem z4e:∀ (l:List VT) (d:Nat),(∀ x∈l,∀ d,zo x (d+1)= true→zo x d= true)→zA l (d+1)= true→zA l d= true
 |[],_,_,_=>by rw[zA]
 |a::l,d,h,hr=>by
  rw[zA,Bool.and_eq_true] at hr
  rw[zA,h a (by simp) d hr.1,z4e l d (fun x hx=>h x (by simp[hx])) hr.2];rfl
theorem z4a (t:VT):∀ d,zo t (d+1)= true→zo t d= true:=by
 induction t using VT.ind with
 |h k n f s ns its ih=>
  intro d hr
  rw[zo] at hr ⊢
  by_cases h1:12 < d+1
  ·rw[if_pos h1] at hr;cases hr
  ·rw[if_neg h1] at hr
   rw[if_neg (by omega: ¬ 12 < d)]
   have hL:=z4e its (d+1) ih
   by_cases k1:k= 1
   ·simp only[if_pos k1] at hr ⊢;exact hr
   by_cases k2:k= 2
   ·simp only[if_neg k1,if_pos k2] at hr ⊢;exact hr
   by_cases k3:k= 3
   ·simp only[if_neg k1,if_neg k2,if_pos k3] at hr ⊢;exact hr
   by_cases k4:k= 4
   ·simp only[if_neg k1,if_neg k2,if_neg k3,if_pos k4] at hr ⊢;exact hr
   by_cases k6:k= 6
   ·simp only[if_neg k1,if_neg k2,if_neg k3,if_neg k4,if_pos k6,Bool.and_eq_true] at hr ⊢
    exact⟨hr.1,hr.2.1,hr.2.2.1,hL hr.2.2.2⟩
   by_cases k5:k= 5
   ·simp only[if_neg k1,if_neg k2,if_neg k3,if_neg k4,if_neg k6,if_pos k5,Bool.and_eq_true] at hr ⊢
    exact⟨hr.1,hr.2.1,hL hr.2.2⟩
   ·simp only[if_neg k1,if_neg k2,if_neg k3,if_neg k4,if_neg k6,if_neg k5] at hr;cases hr
theorem z0J {t:VT}:ze t= true↔szV t≤200∧zo t 1= true:=by
 unfold ze
 rw[Bool.and_eq_true,decide_eq_true_eq,zaV t 0 (by omega)]
 constructor
 ·rintro⟨h,h2⟩;exact⟨by omega,h2⟩
 ·rintro⟨h,h2⟩;exact⟨by omega,h2⟩
theorem z6k {k n:Int} {f:Nat} {s:ByteArray} {ns:List ByteArray} {its:List VT} (h:ze (.mk k n f s ns its)= true) {x:VT} (hx:x∈its):ze x= true:=by
 obtain⟨h1,h2⟩:=z0J.1 h
 rw[szV] at h1
 have h3:=z71 hx
 refine z0J.2 ⟨by omega,?_⟩
 rcases z1E h2 with ⟨_,_,_,e⟩|⟨_,_,e⟩|⟨_,_,e⟩|⟨_,_,_,e⟩|⟨_,_,h4⟩|⟨_,_,_,h4⟩
 ·rw[e] at hx;cases hx
 ·rw[e] at hx;cases hx
 ·rw[e] at hx;cases hx
 ·rw[e] at hx;cases hx
 ·exact z4a x 1 (z1B h4 x hx)
 ·exact z4a x 1 (z1B h4 x hx)
theorem z5l {k n:Int} {f:Nat} {s:ByteArray} {ns:List ByteArray} {its:List VT} (h:ze (.mk k n f s ns its)= true) {i:Nat} (hi:i < its.length):ze (its.getD i v0)= true:=by
 have:its.getD i v0= its[i]:=by simp[List.getD,List.getElem?_eq_getElem hi]
 rw[this];exact z6k h (List.getElem_mem hi)
theorem z0a {k n:Int} {f:Nat} {s:ByteArray} {ns:List ByteArray} {its:List VT} (h:ze (.mk k n f s ns its)= true):its.length≤199∧ns.length≤its.length∧(k= 6→ns.length= its.length):=by
 obtain⟨h1,h2⟩:=z0J.1 h
 rw[szV] at h1
 have h3:=z6K its
 refine⟨by omega,?_⟩
 rcases z1E h2 with ⟨e0,_,e,_⟩|⟨e0,e,_⟩|⟨e0,e,_⟩|⟨e0,_,e,_⟩|⟨e0,e,_⟩|⟨e0,e,_⟩
 all_goals first|(rw[e];exact⟨Nat.zero_le _,fun h6=>by omega⟩)|exact⟨by omega,fun _=>e⟩
theorem z5W (t:VT):ze t= true→Fit t:=by
 induction t using VT.ind with
 |h k n f s ns its ih=>
  intro h
  obtain⟨h1,h2,_⟩:=z0a h
  have hr:reachBytes= 140737488351232:=rfl
  exact .mk (by omega) (by omega) fun x hx=>ih x hx (z6k h hx)
theorem z3n (v:VT):ze (z04 v)= ze v:=by unfold ze;rw[z7L,z7Z]
theorem z1a (b:Bool):ze (vB b)= true:=by cases b<;>decide +kernel
theorem z6Y:(⟨#[]⟩:ByteArray).toList.isEmpty= true:=by decide +kernel
theorem zad:cmpF 0 0= 0:=by decide +kernel
theorem z2V (n:Int):ze (vI n)= true:=z0J.2 ⟨by unfold vI;rw[szV,szVL];omega,by
 unfold vI;rw[zo,if_neg (by decide),if_neg (by decide),if_pos rfl];unfold bareB;rw[zad,z6Y];simp⟩
theorem z4I (f:Nat):ze (vF f)= true:=z0J.2 ⟨by unfold vF;rw[szV,szVL];omega,by
 unfold vF;rw[zo,if_neg (by decide),if_neg (by decide),if_neg (by decide),if_pos rfl];unfold bareB;rw[z6Y];simp⟩
theorem zbA {s:ByteArray} (h:s.size≤200):ze (vS s)= true:=z0J.2 ⟨by unfold vS;rw[szV,szVL];omega,by
 unfold vS;rw[zo,if_neg (by decide),if_neg (by decide),if_neg (by decide),if_neg (by decide),if_pos rfl,decide_eq_true h];unfold bareB;rw[zad];simp⟩
theorem z3e {v r:VT} (h:szd v= .ok r):r= v∧ze r= true:=by
 unfold szd at h
 split at h
 ·injection h with h;subst h;exact⟨rfl,by assumption⟩
 ·cases h
theorem z5k {k n:Int} {f:Nat} {s:ByteArray} {ns:List ByteArray} {its:List VT} (hn: -9223372036854775808≤n∧n≤9223372036854775807) (hk:k= 1∨k= 2∨k= 3):(textV (.mk k n f s ns its)).length≤200:=by
 rw[textV]
 rcases hk with rfl|rfl|rfl
 ·simp only[if_true]
  split<;>decide
 ·rw[if_neg (by decide),if_pos rfl]
  have:=z1X hn.1 hn.2;omega
 ·rw[if_neg (by decide),if_neg (by decide),if_pos rfl]
  have:=z5Y f;omega
theorem z9F {k:Int} {s:ByteArray} {a v:VT} (hs:saneV a) (ha:ze a= true) (h:unV k s a= .ok v):ze v= true:=by
 cases a with
 |mk kv n f sv ns its=>
  rw[saneV] at hs
  rw[unV] at h
  by_cases k18:k= 18
  ·rw[if_pos k18] at h
   by_cases k6:kv= 6
   ·rw[if_neg (by simpa using k6)] at h
    have hl:=(z0a ha).2.2 k6
    by_cases h1:Lib.idxOfS ns s= -1
    ·rw[if_pos h1] at h;cases h
    ·rw[if_neg h1] at h
     injection h with h
     rw[← h]
     rcases z5O ns s with h2|h2
     ·contradiction
     ·exact z5l ha (by omega)
   ·rw[if_pos k6] at h;cases h
  rw[if_neg k18] at h
  by_cases k4:k= 4
  ·rw[if_pos k4] at h
   split at h
   ·injection h with h;rw[← h];exact z1a _
   ·cases h
  rw[if_neg k4] at h
  by_cases k21:k= 21
  ·rw[if_pos k21] at h
   split at h
   ·injection h with h;rw[← h];exact z4I _
   ·cases h
  rw[if_neg k21] at h
  by_cases k22:k= 22
  ·rw[if_pos k22] at h
   split at h
   ·split at h
    ·injection h with h;rw[← h];exact z2V _
    ·cases h
   ·cases h
  rw[if_neg k22] at h
  by_cases k23:k= 23
  ·rw[if_pos k23] at h
   split at h
   ·injection h with h;rw[← h];exact ha
   ·split at h
    ·injection h with h
     rename_i hk
     rw[← h]
     refine zbA ?_
     show(textV _).toArray.size≤200
     rw[List.size_toArray]
     exact z5k hs.1 hk
    ·cases h
  rw[if_neg k23] at h
  by_cases k20:k= 20
  ·rw[if_pos k20] at h
   split at h
   ·injection h with h;rw[← h];exact z2V _
   ·cases h
  rw[if_neg k20] at h
  split at h
  ·injection h with h;rw[← h];exact z4I _
  ·split at h
   ·split at h
    ·cases h
    ·injection h with h;rw[← h];exact z2V _
   ·cases h
theorem z7w {α:Type} {x:Except Int α} {g:α→VT} {v:VT} (h:x.map g= .ok v):∃ y,x= .ok y∧v= g y:=by
 cases x with
 |error e=>cases h
 |ok y=>injection h with h;exact⟨y,rfl,h.symm⟩
theorem z8C {k:Int} {a b v:VT} (ha:ze a= true) (h:binV k a b= .ok v):ze v= true:=by
 cases a with
 |mk ka na fa sa nsa ia=>
 cases b with
 |mk kb nb fb sb nsb ib=>
  rw[binV] at h
  by_cases k19:k= 19
  ·rw[if_pos k19] at h
   split at h
   ·split at h
    ·rename_i hb
     injection h with h;rw[← h]
     exact z5l ha (by omega)
    ·cases h
   ·cases h
  rw[if_neg k19] at h
  split at h
  ·cases h
  split at h
  ·injection h with h;rw[← h];exact z1a _
  split at h
  ·obtain⟨y,_,rfl⟩:=z7w h;exact z1a _
  split at h
  ·obtain⟨y,_,rfl⟩:=z7w h;exact z2V _
  split at h
  ·obtain⟨y,_,rfl⟩:=z7w h;exact z4I _
  split at h
  ·exact(z3e h).2
  ·cases h
end Go.Proofs.YtmpbepjjbaeebaaGreatDoor
end
section
namespace Go.Proofs.YtmpbepjjbaeebaaGreatDoor
open Go Go.RowKit
open Go.Lib (hid)
mutual
def szE:ET→Nat
 | .mk _ _ _ _ its=>szEL its+1
def szEL:List ET→Nat
 |[]=>0
 |a::l=>szE a+szEL l
end
theorem zcQ (t:ET):1≤szE t:=by cases t;rw[szE];omega
theorem z5P:∀ (l:List ET),(∀ x∈l,∀ n,n < 500→cntE x n= min 500 (n+szE x))→∀ n,n≤500→cntEL l n= min 500 (n+szEL l)
 |[],_,n,hn=>by rw[cntEL,szEL];omega
 |a::l,h,n,hn=>by
  rw[cntEL,szEL]
  by_cases h5:500≤n
  ·rw[if_pos h5];omega
  ·rw[if_neg h5,h a (by simp) n (by omega),z5P l (fun x hx=>h x (by simp[hx])) _ (by omega)]
   omega
theorem zbn (t:ET):∀ n,n < 500→cntE t n= min 500 (n+szE t):=by
 induction t using ET.ind with
 |h k s v ns its ih=>
  intro n hn
  rw[cntE,szE,z5P its ih (n+1) (by omega)]
  omega
theorem z44 {d:Nat}:∀ {l:List ET},zQ l d= true↔∀ x∈l,z02 x d= true
 |[]=>by rw[zQ];simp
 |a::l=>by rw[zQ,Bool.and_eq_true,z44];simp
theorem z7M {t:ET}:zU t= true↔szE t≤200∧z02 t 1= true:=by
 unfold zU
 rw[Bool.and_eq_true,decide_eq_true_eq,zbn t 0 (by omega)]
 constructor
 ·rintro⟨h,h2⟩;exact⟨by omega,h2⟩
 ·rintro⟨h,h2⟩;exact⟨by omega,h2⟩
section
variable {E:List VarT} {V:List VT}
end
mutual
def z0q (nm:ByteArray):ET→Bool
 | .mk k s _ _ its=>(decide (k= 2) && (s.toList ==nm.toList)) || z0v nm its
def z0v (nm:ByteArray):List ET→Bool
 |[]=>false
 |a::l=>z0q nm a || z0v nm l
end
theorem z4d {nm:ByteArray}:∀ {l:List ET},z0v nm l= false→∀ x∈l,z0q nm x= false
 |[],_,x,hx=>by cases hx
 |a::l,h,x,hx=>by
  rw[z0v,Bool.or_eq_false_iff] at h
  rcases List.mem_cons.1 hx with rfl|hx
  ·exact h.1
  ·exact z4d h.2 x hx
theorem z2O (E:List VarT) (V:List VT):∀ l:List ET,zL E V l= l.map (evalE E V)
 |[]=>by rw[zL];rfl
 |a::l=>by rw[zL,z2O E V l];rfl
theorem z6Z (E:List VarT) (s:ByteArray):findV E s= -1∨(0≤findV E s∧findV E s <(E.length:Int)):=by
 induction E with
 |nil=>exact .inl rfl
 |cons a l ih=>
  unfold findV
  split
  ·exact .inr ⟨by omega,by rw[List.length_cons];omega⟩
  ·split
   ·exact .inl rfl
   ·rcases ih with h|h
    ·contradiction
    ·exact .inr ⟨by omega,by rw[List.length_cons];omega⟩
theorem z7I {E:List VarT} {V V':List VT} {i:Nat} {nm:ByteArray} (hne:∀ j,j≠i→V[j]?= V'[j]?) (hnm:∀ s,findV E s=(i:Int)→(s.toList ==nm.toList)= true) (x:ET):z0q nm x= false→evalE E V x= evalE E V' x:=by
 induction x using ET.ind with
 |h k s v ns its ih=>
  intro h
  rw[z0q,Bool.or_eq_false_iff] at h
  have hL:zL E V its= zL E V' its:=by
   rw[z2O,z2O]
   exact List.map_congr_left fun x hx=>ih x hx (z4d h.2 x hx)
  rw[evalE,evalE,hL]
  by_cases h2:k= 2
  ·have hN:nameR E V s= nameR E V' s:=by
    unfold nameR
    split
    ·rfl
    ·rename_i hf
     have hnot:(findV E s).toNat≠i:=fun e=>by
      have h0:0≤findV E s:=by
       rcases z6Z E s with h|h
       ·exact absurd h hf
       ·exact h.1
      have:=hnm s (by omega)
      have h3:=h.1
      rw[decide_eq_true h2,this] at h3
      cases h3
     rw[hne _ hnot]
   rw[hN]
  ·rw[if_neg h2,if_neg h2]
theorem zbC {E:List VarT} {s:ByteArray} {i:Nat} (h:findV E s=(i:Int)):∃ x,E[i]?= some x∧(x.name.toList ==s.toList)= true:=by
 induction E generalizing i with
 |nil=>unfold findV at h;omega
 |cons a l ih=>
  unfold findV at h
  split at h
  ·rename_i hn
   obtain rfl:i= 0:=by omega
   exact⟨a,rfl,hn⟩
  ·split at h
   ·omega
   ·match i,h with
    |0,h=>rcases z6Z l s with h2|h2<;>omega
    |i+1,h=>
     obtain⟨x,h1,h2⟩:=ih (i:=i) (by omega)
     exact⟨x,by simpa using h1,h2⟩
end Go.Proofs.YtmpbepjjbaeebaaGreatDoor
end
section
namespace Go.Proofs.YtmpbepjjbaeebaaGreatDoor
open Go Go.RowKit
open Go.Lib (hid)
def i64R (a:Int):Prop:= -9223372036854775808≤a∧a≤9223372036854775807
section
variable {E:List VarT} {V:List VT}
end
instance (a:Int):Decidable (i64R a):=by unfold i64R;exact inferInstance
end Go.Proofs.YtmpbepjjbaeebaaGreatDoor
end
section
namespace Go.Proofs.YtmpbepjjbaeebaaGreatDoor
open Go Go.RowKit
open Go.Lib (hid)
theorem zc2 {α:Type} {f:α→Bool} {fL:List α→Bool} (h:∀ l,fL l= l.any f) {its:List α} {j:Nat} {y:α} (hy:its[j]?= some y):fL (its.take (j+1))=(fL (its.take j) || f y):=by
 rw[h,h,List.take_add_one,hy,List.any_append]
 simp
theorem zc7 {α:Type} {f:α→Bool} {fL:List α→Bool} (h:∀ l,fL l= l.any f) {its:List α} {y:α} (hy:y∈its) (hf:f y= true):fL its= true:=by
 rw[h,List.any_eq_true]
 exact⟨y,hy,hf⟩
theorem z2u {nm:ByteArray}:∀ l:List ET,z0v nm l= l.any (z0q nm)
 |[]=>by rw[z0v];rfl
 |a::l=>by rw[z0v,z2u l];rfl
theorem zbt:∀ (x:ET) (nm:ByteArray) (cs:List Value) (w:World),ExpAt w w.heap.size cs x→Calls Tryz.prog 22 #[.agg ⟨cs⟩,.string nm] w fun e w'=>e= .returned (.bool (z0q nm x))∧Below w.heap.size w w':=by
 intro x
 induction x using ET.ind with
 |h k s t ns its ih=>
  intro nm cs w hv
  obtain⟨v0,v1,v2,v3,v4,v5,vn,vi,rfl,_,_,_,_,hil,hi⟩:=hv.inv
  obtain⟨_,A,c,rfl,hA⟩:=hi
  have HA:=hid hA
  have IH:=hid ih
  unfold maxLen at hil
  clear hA hv ih
  go_enter Tryz.func22,Tryz.ntmps22
  go_upto_region 1 with (fail)
  have hb0:=zc w (.cells ⟨[.int .i64 k,.string s,v0,v1,v2,v3,v4,v5,vn,.slice A its.length c]⟩ 29)
  have hz0:=zw w (.cells ⟨[.int .i64 k,.string s,v0,v1,v2,v3,v4,v5,vn,.slice A its.length c]⟩ 29)
  have c0:=zp w ⟨[.int .i64 k,.string s,v0,v1,v2,v3,v4,v5,vn,.slice A its.length c]⟩ 29 0
  have c1:=zp w ⟨[.int .i64 k,.string s,v0,v1,v2,v3,v4,v5,vn,.slice A its.length c]⟩ 29 1
  have c5:=zp w ⟨[.int .i64 k,.string s,v0,v1,v2,v3,v4,v5,vn,.slice A its.length c]⟩ 29 9
  generalize w.alloc (.cells ⟨[.int .i64 k,.string s,v0,v1,v2,v3,v4,v5,vn,.slice A its.length c]⟩ 29)= W at*
  have HB:=hid hb0
  have C5:=hid c5
  have HSZ:=hid hz0
  clear hb0 c5 hz0
  simp only[List.getElem?_toArray,List.getElem?_cons_succ,List.getElem?_cons_zero] at c0 c1
  have hcase:((k ==2)= true∧(s.toList ==nm.toList)= true)∨((k ==2)= false∧z0q nm (.mk k s t ns its)= z0v nm its)∨((k ==2)= true∧(s.toList ==nm.toList)= false∧z0q nm (.mk k s t ns its)= z0v nm its):=by
   rw[z0q]
   cases h1:(s.toList ==nm.toList)
   ·by_cases h2:k= 2
    ·exact .inr (.inr ⟨by simpa using h2,rfl,by simp⟩)
    ·exact .inr (.inl ⟨by simpa using h2,by simp⟩)
   ·by_cases h2:k= 2
    ·exact .inl ⟨by simpa using h2,rfl⟩
    ·exact .inr (.inl ⟨by simpa using h2,by simp[h2]⟩)
  rcases hcase with ⟨hk,hs⟩|⟨hk,hans⟩|⟨hk,hs,hans⟩
  ·have HE:Hid (z0q nm (.mk k s t ns its)= true):=hid (by rw[z0q,hs,decide_eq_true (by simpa using hk)];rfl)
   go_wp2
   go_ret
   exact⟨by rw[HE.out]<;>rfl,HB.out⟩
  all_goals
   have H0:=hid hans
   clear hans
   go_upto_region 3 with (fail)
   clear c0 c1
   go_wp2
   go_loopg [5] its.length (fun g i wr=>∃ (j:Nat),j+g= its.length∧i= .int .i64 j∧z0v nm (its.take j)= false∧Below W.heap.size W wr)
   case atStart=>exact⟨0,by omega,rfl,rfl,Below.refl _ _⟩
   case round=>
    obtain⟨j,hj,rfl,hno,hb⟩:=hrel
    have HB1:=hid hb
    have HNO:=hid hno
    have d5:=(hb.cell (p:=⟨w.heap.size,9,none⟩) HSZ.out).trans C5.out
    clear hb hno
    simp only[List.getElem?_toArray,List.getElem?_cons_succ,List.getElem?_cons_zero] at d5
    cases gk with
    |zero=>
     have hge: ¬ ((j:Int) <(its.length:Int)):=by omega
     have HE:Hid (z0v nm its= false):=hid (by have h:=HNO.out;rw[List.take_of_length_le (by omega)] at h;exact h)
     go_wp2
     go_ret
     exact⟨by rw[H0.out,HE.out]<;>rfl,HB.out.trans (HB1.out.mono HB.out.size)⟩
    |succ g=>
     have hlt:(j:Int) <(its.length:Int):=by omega
     obtain⟨y,hy⟩:∃ y,its[j]?= some y:=⟨_,List.getElem?_eq_getElem (by omega)⟩
     obtain⟨b,o,rfl,hbb,hc⟩:=HA.out (by omega)
     obtain⟨cs,hcl,hr,hR⟩:=hc j y hy
     have hB2:=HB.out.trans (HB1.out.mono HB.out.size)
     have HR:=hid (zd hr hB2 hbb)
     have HC:=hid (IH.out y (List.mem_of_getElem? hy) nm cs wr ((hR.under hB2).more hB2.size))
     have HCL:=hid hcl
     have HT:=hid (zc2 (f:=z0q nm) z2u hy)
     have HM:=hid (zc7 (f:=z0q nm) z2u (List.mem_of_getElem? hy))
     clear hc hr hR hB2 hy hcl
     cases hyr:z0q nm y with
     |true=>
      rw[hyr] at HC
      have HE:=hid (HM.out hyr)
      clear hyr
      go_wp2_with (first|(with_reducible refine z8 29 _ rfl ?hw b (o+j*10) cs _ rfl HR.out Tryz.underlying29 rfl ?hi ?_;(case hw=>(exact wantA rfl));(case hi=>rw[HCL.out];kernel_rfl))|(go_at_call 22;refine HC.out.mono ?_;rintro e w' ⟨rfl,hb⟩;have HB2:=hid hb;clear hb))
      go_ret
      exact⟨by rw[H0.out,HE.out]<;>rfl,HB.out.trans ((HB1.out.trans (HB2.out.mono HB1.out.size)).mono HB.out.size)⟩
     |false=>
      rw[hyr] at HC
      have HE:Hid (z0v nm (its.take (j+1))= false):=hid (by rw[HT.out,HNO.out,hyr];rfl)
      clear hyr
      go_wp2_with (first|(with_reducible refine z8 29 _ rfl ?hw b (o+j*10) cs _ rfl HR.out Tryz.underlying29 rfl ?hi ?_;(case hw=>(exact wantA rfl));(case hi=>rw[HCL.out];kernel_rfl))|(go_at_call 22;refine HC.out.mono ?_;rintro e w' ⟨rfl,hb⟩;have HB2:=hid hb;clear hb))
      go_roundg g
      case measure=>omega
      case rel=>exact⟨j+1,by omega,by go_num,HE.out,HB1.out.trans (HB2.out.mono HB1.out.size)⟩
end Go.Proofs.YtmpbepjjbaeebaaGreatDoor
end
