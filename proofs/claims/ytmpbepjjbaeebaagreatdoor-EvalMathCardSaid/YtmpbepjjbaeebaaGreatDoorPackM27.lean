/- Parts of a proof: EvalP2, EvNotP, EvMathP. -/
import Derived.Test.YtmpbepjjbaeebaaGreatDoorPackM12
import Derived.Test.YtmpbepjjbaeebaaGreatDoorPackM23
import Derived.Test.YtmpbepjjbaeebaaGreatDoorPackM24
import Derived.Test.YtmpbepjjbaeebaaGreatDoorPackM26
set_option maxHeartbeats 8000000
set_option maxRecDepth 100000
set_option linter.unusedVariables false
set_option linter.unusedSimpArgs false
section
namespace Go.Proofs.YtmpbepjjbaeebaaGreatDoor
open Go Go.RowKit
mutual
def szV:VT→Nat
 | .mk _ _ _ _ _ its=>szVL its+1
def szVL:List VT→Nat
 |[]=>0
 |a::l=>szV a+szVL l
end
theorem szV_pos (t:VT):1≤szV t:=by cases t;rw[szV];omega
theorem cntL_min:∀ (l:List VT),(∀ x∈l,∀ n,n < 500→cntV x n= min 500 (n+szV x))→∀ n,n≤500→cntL l n= min 500 (n+szVL l)
 |[],_,n,hn=>by rw[cntL,szVL];omega
 |a::l,h,n,hn=>by
  rw[cntL,szVL]
  by_cases h5:500≤n
  ·rw[if_pos h5];omega
  ·rw[if_neg h5,h a (by simp) n (by omega),cntL_min l (fun x hx=>h x (by simp[hx])) _ (by omega)]
   omega
theorem cntV_min (t:VT):∀ n,n < 500→cntV t n= min 500 (n+szV t):=by
 induction t using VT.ind with
 |h k m f s ns its ih=>
  intro n hn
  rw[cntV,szV,cntL_min its ih (n+1) (by omega)]
  omega
theorem szVL_mem:∀ {l:List VT} {x:VT},x∈l→szV x≤szVL l
 |a::l,x,hx=>by
  rw[szVL]
  rcases List.mem_cons.1 hx with rfl|hx
  ·omega
  ·have:=szVL_mem hx;omega
theorem szVL_len:∀ (l:List VT),l.length≤szVL l
 |[]=>by simp
 |a::l=>by
  have:=szVL_len l
  have:=szV_pos a
  rw[szVL,List.length_cons];omega
theorem rightL_down:∀ (l:List VT) (d:Nat),(∀ x∈l,∀ d,rightV x (d+1)= true→rightV x d= true)→rightL l (d+1)= true→rightL l d= true
 |[],_,_,_=>by rw[rightL]
 |a::l,d,h,hr=>by
  rw[rightL,Bool.and_eq_true] at hr
  rw[rightL,h a (by simp) d hr.1,rightL_down l d (fun x hx=>h x (by simp[hx])) hr.2];rfl
theorem rightV_down (t:VT):∀ d,rightV t (d+1)= true→rightV t d= true:=by
 induction t using VT.ind with
 |h k n f s ns its ih=>
  intro d hr
  rw[rightV] at hr ⊢
  by_cases h1:12 < d+1
  ·rw[if_pos h1] at hr;cases hr
  ·rw[if_neg h1] at hr
   rw[if_neg (by omega: ¬ 12 < d)]
   have hL:=rightL_down its (d+1) ih
   by_cases k1:k= 1
   ·simp only[if_pos k1] at hr ⊢;exact hr
   by_cases k2:k= 2
   ·simp only[if_neg k1,if_pos k2] at hr ⊢;exact hr
   by_cases k3:k= 3
   ·simp only[if_neg k1,if_neg k2,if_pos k3] at hr ⊢;exact hr
   by_cases k4:k= 4
   ·simp only[if_neg k1,if_neg k2,if_neg k3,if_pos k4] at hr ⊢;exact hr
   by_cases k6:k= 6
   ·simp only[if_neg k1,if_neg k2,if_neg k3,if_neg k4,if_pos k6,Bool.and_eq_true] at hr ⊢
    exact⟨hr.1,hr.2.1,hr.2.2.1,hL hr.2.2.2⟩
   by_cases k5:k= 5
   ·simp only[if_neg k1,if_neg k2,if_neg k3,if_neg k4,if_neg k6,if_pos k5,Bool.and_eq_true] at hr ⊢
    exact⟨hr.1,hr.2.1,hL hr.2.2⟩
   ·simp only[if_neg k1,if_neg k2,if_neg k3,if_neg k4,if_neg k6,if_neg k5] at hr;cases hr
theorem rightW_iff {t:VT}:rightW t= true↔szV t≤200∧rightV t 1= true:=by
 unfold rightW
 rw[Bool.and_eq_true,decide_eq_true_eq,cntV_min t 0 (by omega)]
 constructor
 ·rintro⟨h,h2⟩;exact⟨by omega,h2⟩
 ·rintro⟨h,h2⟩;exact⟨by omega,h2⟩
theorem right_its {k n:Int} {f:Nat} {s:ByteArray} {ns:List ByteArray} {its:List VT} (h:rightW (.mk k n f s ns its)= true) {x:VT} (hx:x∈its):rightW x= true:=by
 obtain⟨h1,h2⟩:=rightW_iff.1 h
 rw[szV] at h1
 have h3:=szVL_mem hx
 refine rightW_iff.2 ⟨by omega,?_⟩
 rcases right_inv h2 with ⟨_,_,_,e⟩|⟨_,_,e⟩|⟨_,_,e⟩|⟨_,_,_,e⟩|⟨_,_,h4⟩|⟨_,_,_,h4⟩
 ·rw[e] at hx;cases hx
 ·rw[e] at hx;cases hx
 ·rw[e] at hx;cases hx
 ·rw[e] at hx;cases hx
 ·exact rightV_down x 1 (right_mem h4 x hx)
 ·exact rightV_down x 1 (right_mem h4 x hx)
theorem right_getD {k n:Int} {f:Nat} {s:ByteArray} {ns:List ByteArray} {its:List VT} (h:rightW (.mk k n f s ns its)= true) {i:Nat} (hi:i < its.length):rightW (its.getD i v0)= true:=by
 have:its.getD i v0= its[i]:=by simp[List.getD,List.getElem?_eq_getElem hi]
 rw[this];exact right_its h (List.getElem_mem hi)
theorem right_len {k n:Int} {f:Nat} {s:ByteArray} {ns:List ByteArray} {its:List VT} (h:rightW (.mk k n f s ns its)= true):its.length≤199∧ns.length≤its.length∧(k= 6→ns.length= its.length):=by
 obtain⟨h1,h2⟩:=rightW_iff.1 h
 rw[szV] at h1
 have h3:=szVL_len its
 refine⟨by omega,?_⟩
 rcases right_inv h2 with ⟨e0,_,e,_⟩|⟨e0,e,_⟩|⟨e0,e,_⟩|⟨e0,_,e,_⟩|⟨e0,e,_⟩|⟨e0,e,_⟩
 all_goals first|(rw[e];exact⟨Nat.zero_le _,fun h6=>by omega⟩)|exact⟨by omega,fun _=>e⟩
theorem fit_right (t:VT):rightW t= true→Fit t:=by
 induction t using VT.ind with
 |h k n f s ns its ih=>
  intro h
  obtain⟨h1,h2,_⟩:=right_len h
  have hr:reachBytes= 140737488351232:=rfl
  exact .mk (by omega) (by omega) fun x hx=>ih x hx (right_its h hx)
theorem canon_rightW (v:VT):rightW (canonV v)= rightW v:=by unfold rightW;rw[canon_right,canon_parts]
theorem vB_right (b:Bool):rightW (vB b)= true:=by cases b<;>decide +kernel
theorem emp_list:(⟨#[]⟩:ByteArray).toList.isEmpty= true:=by decide +kernel
theorem cmp_00:cmpF 0 0= 0:=by decide +kernel
theorem vI_right (n:Int):rightW (vI n)= true:=rightW_iff.2 ⟨by unfold vI;rw[szV,szVL];omega,by
 unfold vI;rw[rightV,if_neg (by decide),if_neg (by decide),if_pos rfl];unfold bareB;rw[cmp_00,emp_list];simp⟩
theorem vF_right (f:Nat):rightW (vF f)= true:=rightW_iff.2 ⟨by unfold vF;rw[szV,szVL];omega,by
 unfold vF;rw[rightV,if_neg (by decide),if_neg (by decide),if_neg (by decide),if_pos rfl];unfold bareB;rw[emp_list];simp⟩
theorem vS_right {s:ByteArray} (h:s.size≤200):rightW (vS s)= true:=rightW_iff.2 ⟨by unfold vS;rw[szV,szVL];omega,by
 unfold vS;rw[rightV,if_neg (by decide),if_neg (by decide),if_neg (by decide),if_neg (by decide),if_pos rfl,decide_eq_true h];unfold bareB;rw[cmp_00];simp⟩
theorem szd_right {v r:VT} (h:szd v= .ok r):r= v∧rightW r= true:=by
 unfold szd at h
 split at h
 ·injection h with h;subst h;exact⟨rfl,by assumption⟩
 ·cases h
theorem text_small {k n:Int} {f:Nat} {s:ByteArray} {ns:List ByteArray} {its:List VT} (hn: -9223372036854775808≤n∧n≤9223372036854775807) (hk:k= 1∨k= 2∨k= 3):(textV (.mk k n f s ns its)).length≤200:=by
 rw[textV]
 rcases hk with rfl|rfl|rfl
 ·simp only[if_true]
  split<;>decide
 ·rw[if_neg (by decide),if_pos rfl]
  have:=itoa_le hn.1 hn.2;omega
 ·rw[if_neg (by decide),if_neg (by decide),if_pos rfl]
  have:=textF_len f;omega
theorem unV_right {k:Int} {s:ByteArray} {a v:VT} (hs:saneV a) (ha:rightW a= true) (h:unV k s a= .ok v):rightW v= true:=by
 cases a with
 |mk kv n f sv ns its=>
  rw[saneV] at hs
  rw[unV] at h
  by_cases k18:k= 18
  ·rw[if_pos k18] at h
   by_cases k6:kv= 6
   ·rw[if_neg (by simpa using k6)] at h
    have hl:=(right_len ha).2.2 k6
    by_cases h1:Lib.idxOfS ns s= -1
    ·rw[if_pos h1] at h;cases h
    ·rw[if_neg h1] at h
     injection h with h
     rw[← h]
     rcases idx_cases ns s with h2|h2
     ·contradiction
     ·exact right_getD ha (by omega)
   ·rw[if_pos k6] at h;cases h
  rw[if_neg k18] at h
  by_cases k4:k= 4
  ·rw[if_pos k4] at h
   split at h
   ·injection h with h;rw[← h];exact vB_right _
   ·cases h
  rw[if_neg k4] at h
  by_cases k21:k= 21
  ·rw[if_pos k21] at h
   split at h
   ·injection h with h;rw[← h];exact vF_right _
   ·cases h
  rw[if_neg k21] at h
  by_cases k22:k= 22
  ·rw[if_pos k22] at h
   split at h
   ·split at h
    ·injection h with h;rw[← h];exact vI_right _
    ·cases h
   ·cases h
  rw[if_neg k22] at h
  by_cases k23:k= 23
  ·rw[if_pos k23] at h
   split at h
   ·injection h with h;rw[← h];exact ha
   ·split at h
    ·injection h with h
     rename_i hk
     rw[← h]
     refine vS_right ?_
     show(textV _).toArray.size≤200
     rw[List.size_toArray]
     exact text_small hs.1 hk
    ·cases h
  rw[if_neg k23] at h
  by_cases k20:k= 20
  ·rw[if_pos k20] at h
   split at h
   ·injection h with h;rw[← h];exact vI_right _
   ·cases h
  rw[if_neg k20] at h
  split at h
  ·injection h with h;rw[← h];exact vF_right _
  ·split at h
   ·split at h
    ·cases h
    ·injection h with h;rw[← h];exact vI_right _
   ·cases h
theorem map_ok {α:Type} {x:Except Int α} {g:α→VT} {v:VT} (h:x.map g= .ok v):∃ y,x= .ok y∧v= g y:=by
 cases x with
 |error e=>cases h
 |ok y=>injection h with h;exact⟨y,rfl,h.symm⟩
theorem binV_right {k:Int} {a b v:VT} (ha:rightW a= true) (h:binV k a b= .ok v):rightW v= true:=by
 cases a with
 |mk ka na fa sa nsa ia=>
 cases b with
 |mk kb nb fb sb nsb ib=>
  rw[binV] at h
  by_cases k19:k= 19
  ·rw[if_pos k19] at h
   split at h
   ·split at h
    ·rename_i hb
     injection h with h;rw[← h]
     exact right_getD ha (by omega)
    ·cases h
   ·cases h
  rw[if_neg k19] at h
  split at h
  ·cases h
  split at h
  ·injection h with h;rw[← h];exact vB_right _
  split at h
  ·obtain⟨y,_,rfl⟩:=map_ok h;exact vB_right _
  split at h
  ·obtain⟨y,_,rfl⟩:=map_ok h;exact vI_right _
  split at h
  ·obtain⟨y,_,rfl⟩:=map_ok h;exact vF_right _
  split at h
  ·exact(szd_right h).2
  ·cases h
end Go.Proofs.YtmpbepjjbaeebaaGreatDoor
end
section
namespace Go.Proofs.YtmpbepjjbaeebaaGreatDoor
open Go Go.RowKit
mutual
def szE:ET→Nat
 | .mk _ _ _ _ its=>szEL its+1
def szEL:List ET→Nat
 |[]=>0
 |a::l=>szE a+szEL l
end
theorem szE_pos (t:ET):1≤szE t:=by cases t;rw[szE];omega
theorem cntEL_min:∀ (l:List ET),(∀ x∈l,∀ n,n < 500→cntE x n= min 500 (n+szE x))→∀ n,n≤500→cntEL l n= min 500 (n+szEL l)
 |[],_,n,hn=>by rw[cntEL,szEL];omega
 |a::l,h,n,hn=>by
  rw[cntEL,szEL]
  by_cases h5:500≤n
  ·rw[if_pos h5];omega
  ·rw[if_neg h5,h a (by simp) n (by omega),cntEL_min l (fun x hx=>h x (by simp[hx])) _ (by omega)]
   omega
theorem cntE_min (t:ET):∀ n,n < 500→cntE t n= min 500 (n+szE t):=by
 induction t using ET.ind with
 |h k s v ns its ih=>
  intro n hn
  rw[cntE,szE,cntEL_min its ih (n+1) (by omega)]
  omega
theorem rightEL_iff {d:Nat}:∀ {l:List ET},rightEL l d= true↔∀ x∈l,rightE x d= true
 |[]=>by rw[rightEL];simp
 |a::l=>by rw[rightEL,Bool.and_eq_true,rightEL_iff];simp
theorem rightET_iff {t:ET}:rightET t= true↔szE t≤200∧rightE t 1= true:=by
 unfold rightET
 rw[Bool.and_eq_true,decide_eq_true_eq,cntE_min t 0 (by omega)]
 constructor
 ·rintro⟨h,h2⟩;exact⟨by omega,h2⟩
 ·rintro⟨h,h2⟩;exact⟨by omega,h2⟩
section
variable {E:List VarT} {V:List VT}
theorem evalT_of {x:ET} {r:Res} (h1:V.all rightW= true) (h2:rightET x= true) (h:evalE E V x= r):evalT x E V= r:=by
 unfold evalT
 rw[h1,h2]
 exact h
theorem canon_vI (n:Int):canonV (vI n)= vI n:=by
 unfold vI;rw[canonV,canonL]
 have:canonF 0= 0:=by decide +kernel
 rw[this]
end
end Go.Proofs.YtmpbepjjbaeebaaGreatDoor
end
section
namespace Go.Proofs.YtmpbepjjbaeebaaGreatDoor
open Go Go.RowKit
def i64R (a:Int):Prop:= -9223372036854775808≤a∧a≤9223372036854775807
theorem tdiv_range {a b:Int} (ha:i64R a) (hb:b≠0):i64R (a.tdiv b)↔¬ (b= -1∧a= -9223372036854775808):=by
 unfold i64R at*
 by_cases h1:b= 1
 ·subst h1;rw[Int.tdiv_one];omega
 by_cases h2:b= -1
 ·subst h2;rw[show(-1:Int)= -(1:Int) from rfl,Int.tdiv_neg,Int.tdiv_one];omega
 have h3:=Int.natAbs_tdiv a b
 have h4:a.natAbs / b.natAbs≤a.natAbs / 2:=Nat.div_le_div_left (by omega) (by omega)
 have h5:(a.tdiv b).natAbs≤a.natAbs / 2:=by rw[h3];exact h4
 omega
theorem tmod_bound {a b:Int}:(a.tmod b).natAbs≤a.natAbs∧(0≤a→0≤a.tmod b)∧(a≤0→a.tmod b≤0):=by
 refine⟨?_,fun h=>Int.tmod_nonneg b h,fun h=> ?_⟩
 ·rw[Int.natAbs_tmod];exact Nat.mod_le _ _
 ·have h2:=Int.neg_tmod (a:= -a) (b:=b)
  rw[Int.neg_neg] at h2
  have:=Int.tmod_nonneg b (a:= -a) (by omega)
  omega
theorem quo_back {a b:Int} (ha:i64R a):i64R (a.tdiv b*b)∧a.tdiv b*b+a.tmod b= a:=by
 have h1:a.tdiv b*b+a.tmod b= a:=by have:=Int.tdiv_mul_add_tmod a b;exact this
 obtain⟨h2,h3,h4⟩:=tmod_bound (a:=a) (b:=b)
 unfold i64R at*
 exact⟨by omega,h1⟩
def mA:ByteArray:=⟨#[97]⟩
def mB:ByteArray:=⟨#[98]⟩
def mnV:VarT:=⟨mA,0,.mk 0 [] [],v0⟩
def mnW:VarT:=⟨mB,0,.mk 0 [] [],v0⟩
def backE:ET:=twoE 5 (twoE 7 (twoE 8 (varE mA) (varE mB)) (varE mB)) (twoE 9 (varE mA) (varE mB))
def diffE:ET:=twoE 6 (twoE 5 (varE mA) (varE mB)) (varE mB)
theorem back_right:rightET backE= true:=by decide +kernel
theorem diff_right:rightET diffE= true:=by decide +kernel
section
variable {E:List VarT} {V:List VT}
theorem eval_two {k:Int} {x y:ET} (h: ¬ (k= 1)∧¬ (k= 2)∧¬ (k= 13∨k= 14∨k= 15)∧¬ k= 16∧¬ k= 17) {u v:VT} (hx:evalE E V x= .ok u) (hy:evalE E V y= .ok v):evalE E V (twoE k x y)= binV k u v:=by
 unfold twoE
 rw[evalE,evalEL,evalEL,evalEL,if_neg h.1,if_neg h.2.1,if_neg h.2.2.1,hx,hy]
 show combR k _ _ [u,v]= _
 rw[combR,if_neg h.2.2.2.1,if_neg h.2.2.2.2]
theorem eval_two_err {k:Int} {x y:ET} (h: ¬ (k= 1)∧¬ (k= 2)∧¬ (k= 13∨k= 14∨k= 15)∧¬ k= 16∧¬ k= 17) {e:Int} (hx:evalE E V x= .error e):evalE E V (twoE k x y)= .error e:=by
 unfold twoE
 rw[evalE,evalEL,if_neg h.1,if_neg h.2.1,if_neg h.2.2.1,hx]
 rfl
end
theorem bin_int {k a b:Int} (h:5≤k∧k≤9):binV k (vI a) (vI b)=(wholeZ k a b).map vI:=by
 unfold vI
 rw[binV,if_neg (by omega),if_neg (by simp),if_neg (by omega),if_neg (by omega),if_pos rfl]
 rfl
theorem nm_a {a b:Int}:evalE [mnV,mnW] [vI a,vI b] (varE mA)= .ok (vI a):=by
 unfold varE
 have h:findV [mnV,mnW] mA= 0:=by decide +kernel
 rw[evalE,if_neg (by decide),if_pos rfl]
 unfold nameR
 rw[h,if_neg (by decide)]
 show Except.ok (canonV (vI a))= _
 rw[canon_vI]
theorem nm_b {a b:Int}:evalE [mnV,mnW] [vI a,vI b] (varE mB)= .ok (vI b):=by
 unfold varE
 have h:findV [mnV,mnW] mB= 1:=by decide +kernel
 rw[evalE,if_neg (by decide),if_pos rfl]
 unfold nameR
 rw[h,if_neg (by decide)]
 show Except.ok (canonV (vI b))= _
 rw[canon_vI]
theorem okI_eq {n:Int} (h:i64R n):okI n= .ok n:=by unfold okI;exact if_pos h
theorem okI_ne {n:Int} (h: ¬ i64R n):okI n= .error 7:=by unfold okI;exact if_neg h
theorem whole_div {a b:Int} (hb: ¬ b= 0):wholeZ 8 a b= okI (a.tdiv b):=by
 unfold wholeZ;rw[if_neg (by decide),if_neg (by decide),if_neg (by decide),if_neg hb,if_neg (by decide)]
theorem whole_mod {a b:Int} (hb: ¬ b= 0):wholeZ 9 a b= .ok (a.tmod b):=by
 unfold wholeZ;rw[if_neg (by decide),if_neg (by decide),if_neg (by decide),if_neg hb,if_pos rfl]
theorem whole_zero {a:Int}:wholeZ 8 a 0= .error 8:=by
 unfold wholeZ;rw[if_neg (by decide),if_neg (by decide),if_neg (by decide),if_pos rfl]
theorem whole_mul {a b:Int}:wholeZ 7 a b= okI (a*b):=by
 unfold wholeZ;rw[if_neg (by decide),if_neg (by decide),if_pos rfl]
theorem whole_add {a b:Int}:wholeZ 5 a b= okI (a+b):=by unfold wholeZ;rw[if_pos rfl]
theorem whole_sub {a b:Int}:wholeZ 6 a b= okI (a - b):=by unfold wholeZ;rw[if_neg (by decide),if_pos rfl]
theorem all_int (a b:Int):[vI a,vI b].all rightW= true:=by simp[vI_right]
theorem math_back {a b:Int} (ha:i64R a) (hb:i64R b):evalT backE [mnV,mnW] [vI a,vI b]= if b= 0 then .error 8 else if b= -1∧a= -9223372036854775808 then .error 7 else .ok (vI a):=by
 refine evalT_of (all_int a b) back_right ?_
 have hd:=eval_two (E:=[mnV,mnW]) (V:=[vI a,vI b]) (k:=8) (by decide) nm_a nm_b
 rw[bin_int (by decide)] at hd
 have hm:=eval_two (E:=[mnV,mnW]) (V:=[vI a,vI b]) (k:=9) (by decide) nm_a nm_b
 rw[bin_int (by decide)] at hm
 unfold backE
 by_cases h0:b= 0
 ·rw[if_pos h0]
  subst h0
  rw[whole_zero] at hd
  exact eval_two_err (by decide) (eval_two_err (by decide) hd)
 ·rw[if_neg h0]
  rw[whole_div h0] at hd
  rw[whole_mod h0] at hm
  by_cases h1:b= -1∧a= -9223372036854775808
  ·rw[if_pos h1]
   rw[okI_ne (mt (tdiv_range ha h0).1 (by simp[h1]))] at hd
   exact eval_two_err (by decide) (eval_two_err (by decide) hd)
  ·rw[if_neg h1]
   rw[okI_eq ((tdiv_range ha h0).2 h1)] at hd
   obtain⟨h2,h3⟩:=quo_back (b:=b) ha
   have hp:=eval_two (E:=[mnV,mnW]) (V:=[vI a,vI b]) (k:=7) (x:=twoE 8 (varE mA) (varE mB)) (by decide) hd nm_b
   rw[bin_int (by decide),whole_mul,okI_eq h2] at hp
   rw[eval_two (by decide) hp hm,bin_int (by decide),whole_add,h3,okI_eq ha]
   rfl
instance (a:Int):Decidable (i64R a):=by unfold i64R;exact inferInstance
theorem math_diff {a b:Int} (ha:i64R a) (hb:i64R b):evalT diffE [mnV,mnW] [vI a,vI b]= if i64R (a+b) then .ok (vI a) else .error 7:=by
 refine evalT_of (all_int a b) diff_right ?_
 have hd:=eval_two (E:=[mnV,mnW]) (V:=[vI a,vI b]) (k:=5) (by decide) nm_a nm_b
 rw[bin_int (by decide),whole_add] at hd
 unfold diffE
 by_cases h:i64R (a+b)
 ·rw[if_pos h]
  rw[okI_eq h] at hd
  rw[eval_two (by decide) hd nm_b,bin_int (by decide),whole_sub,show a+b - b= a by omega,okI_eq ha]
  rfl
 ·rw[if_neg h]
  rw[okI_ne h] at hd
  exact eval_two_err (by decide) hd
end Go.Proofs.YtmpbepjjbaeebaaGreatDoor
end
