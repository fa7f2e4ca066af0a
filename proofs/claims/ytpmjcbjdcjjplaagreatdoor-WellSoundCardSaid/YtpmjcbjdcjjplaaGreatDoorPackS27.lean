/- Parts of a proof: EvalP2, EvNotP, Rds10, TypeP, TypK, JoinP, TypJ, TJoinP, SoundP, TOwnP. -/
import Derived.Test.YtpmjcbjdcjjplaaGreatDoorPackS12
import Derived.Test.YtpmjcbjdcjjplaaGreatDoorPackS25
import Derived.Test.YtpmjcbjdcjjplaaGreatDoorPackS26
set_option maxHeartbeats 8000000
set_option maxRecDepth 100000
set_option linter.unusedVariables false
set_option linter.unusedSimpArgs false
namespace Go.Proofs.YtpmjcbjdcjjplaaGreatDoor
section
open Go Go.RowKit
mutual
def szV:VT->Nat
 | .mk _ _ _ _ _ its=>szVL its+1
def szVL:List VT->Nat
 |[]=>0
 |a::l=>szV a+szVL l
end
theorem zgs (t:VT):1<=szV t:=by cases t;rw[szV];omega
theorem z8e:∀ (l:List VT),(∀ x∈l,∀ n,n < 500->cntV x n= min 500 (n+szV x))->∀ n,n<=500->cntL l n= min 500 (n+szVL l)
 |[],_,n,hn=>by rw[cntL,szVL];omega
 |a::l,h,n,hn=>by
  rw[cntL,szVL]
  by_cases h5:500<=n
  ·rw[if_pos h5];omega
  ·rw[if_neg h5,h a (by simp) n (by omega),z8e l (fun x hx=>h x (by simp[hx])) _ (by omega)]
   omega
theorem zem (t:VT):∀ n,n < 500->cntV t n= min 500 (n+szV t):=by
 induction t using VT.ind with
 |h k m f s ns its ih=>
  intro n hn;rw[cntV,szV,z8e its ih (n+1) (by omega)];omega
theorem z9b:∀ {l:List VT} {x:VT},x∈l->szV x<=szVL l
 |a::l,x,hx=>by
  rw[szVL]
  rcases List.mem_cons.1 hx with rfl|hx
  ·omega
  ·have:=z9b hx;omega
theorem z9a:∀ (l:List VT),l.length<=szVL l
 |[]=>by simp
 |a::l=>by
  have:=z9a l
  have:=zgs a
  rw[szVL,List.length_cons];omega
theorem z5i:∀ (l:List VT) (d:Nat),(∀ x∈l,∀ d,zr x (d+1)= true->zr x d= true)->zK l (d+1)= true->zK l d= true
 |[],_,_,_=>by rw[zK]
 |a::l,d,h,hr=>by
  rw[zK,Bool.and_eq_true] at hr
  rw[zK,h a (by simp) d hr.1,z5i l d (fun x hx=>h x (by simp[hx])) hr.2];rfl
theorem z5j (t:VT):∀ d,zr t (d+1)= true->zr t d= true:=by
 induction t using VT.ind with
 |h k n f s ns its ih=>
  intro d g;rw[zr] at g ⊢;by_cases h1:12 < d+1
  ·rw[if_pos h1] at g;cases g
  ·rw[if_neg h1] at g
   rw[if_neg (by omega: ¬ 12 < d)];have A:=z5i its (d+1) ih;by_cases k1:k= 1
   ·simp only[if_pos k1] at g ⊢;exact g
   by_cases k2:k= 2
   ·simp only[if_neg k1,if_pos k2] at g ⊢;exact g
   by_cases k3:k= 3
   ·simp only[if_neg k1,if_neg k2,if_pos k3] at g ⊢;exact g
   by_cases k4:k= 4
   ·simp only[if_neg k1,if_neg k2,if_neg k3,if_pos k4] at g ⊢;exact g
   by_cases k6:k= 6
   ·simp only[if_neg k1,if_neg k2,if_neg k3,if_neg k4,if_pos k6,Bool.and_eq_true] at g ⊢
    exact⟨g.1,g.2.1,g.2.2.1,A g.2.2.2⟩
   by_cases k5:k= 5
   ·simp only[if_neg k1,if_neg k2,if_neg k3,if_neg k4,if_neg k6,if_pos k5,Bool.and_eq_true] at g ⊢
    exact⟨g.1,g.2.1,A g.2.2⟩
   ·simp only[if_neg k1,if_neg k2,if_neg k3,if_neg k4,if_neg k6,if_neg k5] at g;cases g
theorem z18 {t:VT}:zB t= true↔szV t<=200/\zr t 1= true:=by
 unfold zB;rw[Bool.and_eq_true,decide_eq_true_eq,zem t 0 (by omega)];constructor
 ·rintro⟨h,h2⟩;exact⟨by omega,h2⟩
 ·rintro⟨h,h2⟩;exact⟨by omega,h2⟩
theorem z7F {k n:Int} {f:Nat} {s:ByteArray} {ns:List ByteArray} {its:List VT} (h:zB (.mk k n f s ns its)= true) {x:VT} (hx:x∈its):zB x= true:=by
 obtain⟨h1,h2⟩:=z18.1 h;rw[szV] at h1;have h3:=z9b hx;refine z18.2 ⟨by omega,?_⟩;rcases z2r h2 with ⟨_,_,_,e⟩|⟨_,_,e⟩|⟨_,_,e⟩|⟨_,_,_,e⟩|⟨_,_,h4⟩|⟨_,_,_,h4⟩
 ·rw[e] at hx;cases hx
 ·rw[e] at hx;cases hx
 ·rw[e] at hx;cases hx
 ·rw[e] at hx;cases hx
 ·exact z5j x 1 (z2s h4 x hx)
 ·exact z5j x 1 (z2s h4 x hx)
theorem z6h {k n:Int} {f:Nat} {s:ByteArray} {ns:List ByteArray} {its:List VT} (h:zB (.mk k n f s ns its)= true) {i:Nat} (hi:i < its.length):zB (its.getD i v0)= true:=by
 have:its.getD i v0= its[i]:=by simp[List.getD,List.getElem?_eq_getElem hi]
 rw[this];exact z7F h (List.getElem_mem hi)
theorem z0i {k n:Int} {f:Nat} {s:ByteArray} {ns:List ByteArray} {its:List VT} (h:zB (.mk k n f s ns its)= true):its.length<=199/\ns.length<=its.length/\(k= 6->ns.length= its.length):=by
 obtain⟨h1,h2⟩:=z18.1 h;rw[szV] at h1;have h3:=z9a its;refine⟨by omega,?_⟩;rcases z2r h2 with ⟨e0,_,e,_⟩|⟨e0,e,_⟩|⟨e0,e,_⟩|⟨e0,_,e,_⟩|⟨e0,e,_⟩|⟨e0,e,_⟩;all_goals first|(rw[e];exact⟨Nat.zero_le _,fun h6=>by omega⟩)|exact⟨by omega,fun _=>e⟩
theorem z7m (t:VT):zB t= true->Fit t:=by
 induction t using VT.ind with
 |h k n f s ns its ih=>
  intro h;obtain⟨h1,h2,_⟩:=z0i h;have hr:reachBytes= 140737488351232:=rfl;exact .mk (by omega) (by omega) fun x hx=>ih x hx (z7F h hx)
theorem z4f (v:VT):zB (z01 v)= zB v:=by unfold zB;rw[z9v,z9u]
theorem z1L (b:Bool):zB (vB b)= true:=by cases b<;>decide +kernel
theorem z8n:(⟨#[]⟩:ByteArray).toList.isEmpty= true:=by decide +kernel
theorem zc1:cmpF 0 0= 0:=by decide +kernel
theorem z47 (n:Int):zB (vI n)= true:=z18.2 ⟨by unfold vI;rw[szV,szVL];omega,by
 unfold vI;rw[zr,if_neg (by decide),if_neg (by decide),if_pos rfl];unfold bareB;rw[zc1,z8n];simp⟩
theorem z5H (f:Nat):zB (vF f)= true:=z18.2 ⟨by unfold vF;rw[szV,szVL];omega,by
 unfold vF;rw[zr,if_neg (by decide),if_neg (by decide),if_neg (by decide),if_pos rfl];unfold bareB;rw[z8n];simp⟩
theorem zfv {s:ByteArray} (h:s.size<=200):zB (vS s)= true:=z18.2 ⟨by unfold vS;rw[szV,szVL];omega,by
 unfold vS;rw[zr,if_neg (by decide),if_neg (by decide),if_neg (by decide),if_neg (by decide),if_pos rfl,decide_eq_true h];unfold bareB;rw[zc1];simp⟩
theorem z4I {v r:VT} (h:szd v= .ok r):r= v/\zB r= true:=by
 unfold szd at h;split at h
 ·injection h with h;subst h;exact⟨rfl,by assumption⟩
 ·cases h
theorem z6v {k n:Int} {f:Nat} {s:ByteArray} {ns:List ByteArray} {its:List VT} (hn: -9223372036854775808<=n/\n<=9223372036854775807) (hk:k= 1\/k= 2\/k= 3):(textV (.mk k n f s ns its)).length<=200:=by
 rw[textV];rcases hk with rfl|rfl|rfl
 ·simp only[if_true]
  split<;>decide
 ·rw[if_neg (by decide),if_pos rfl]
  have:=z2M hn.1 hn.2;omega
 ·rw[if_neg (by decide),if_neg (by decide),if_pos rfl]
  have:=z7O f;omega
theorem zdY {k:Int} {s:ByteArray} {a v:VT} (hs:saneV a) (ha:zB a= true) (h:unV k s a= .ok v):zB v= true:=by
 cases a with
 |mk kv n f sv ns its=>
  rw[saneV] at hs;rw[unV] at h;by_cases k18:k= 18
  ·rw[if_pos k18] at h
   by_cases k6:kv= 6
   ·rw[if_neg (by simpa using k6)] at h
    have g:=(z0i ha).2.2 k6;by_cases h1:Lib.idxOfS ns s= -1
    ·rw[if_pos h1] at h;cases h
    ·rw[if_neg h1] at h
     injection h with h;rw[← h];rcases z38 ns s with h2|h2
     ·contradiction
     ·exact z6h ha (by omega)
   ·rw[if_pos k6] at h;cases h
  rw[if_neg k18] at h;by_cases k4:k= 4
  ·rw[if_pos k4] at h
   split at h
   ·injection h with h;rw[← h];exact z1L _
   ·cases h
  rw[if_neg k4] at h;by_cases k21:k= 21
  ·rw[if_pos k21] at h
   split at h
   ·injection h with h;rw[← h];exact z5H _
   ·cases h
  rw[if_neg k21] at h;by_cases k22:k= 22
  ·rw[if_pos k22] at h
   split at h
   ·split at h
    ·injection h with h;rw[← h];exact z47 _
    ·cases h
   ·cases h
  rw[if_neg k22] at h;by_cases k23:k= 23
  ·rw[if_pos k23] at h
   split at h
   ·injection h with h;rw[← h];exact ha
   ·split at h
    ·injection h with h
     rename_i hk
     rw[← h];refine zfv ?_;show(textV _).toArray.size<=200;rw[List.size_toArray];exact z6v hs.1 hk
    ·cases h
  rw[if_neg k23] at h;by_cases k20:k= 20
  ·rw[if_pos k20] at h
   split at h
   ·injection h with h;rw[← h];exact z47 _
   ·cases h
  rw[if_neg k20] at h;split at h
  ·injection h with h;rw[← h];exact z5H _
  ·split at h
   ·split at h
    ·cases h
    ·injection h with h;rw[← h];exact z47 _
   ·cases h
theorem z8K {α:Type} {x:Except Int α} {g:α->VT} {v:VT} (h:x.map g= .ok v):∃ y,x= .ok y/\v= g y:=by
 cases x with
 |error e=>cases h
 |ok y=>injection h with h;exact⟨y,rfl,h.symm⟩
theorem zaB {k:Int} {a b v:VT} (ha:zB a= true) (h:binV k a b= .ok v):zB v= true:=by
 cases a with
 |mk ka na fa sa nsa ia=>
 cases b with
 |mk kb nb fb sb nsb ib=>
  rw[binV] at h;by_cases k19:k= 19
  ·rw[if_pos k19] at h
   split at h
   ·split at h
    ·rename_i hb
     injection h with h;rw[← h];exact z6h ha (by omega)
    ·cases h
   ·cases h
  rw[if_neg k19] at h;split at h
  ·cases h
  split at h
  ·injection h with h;rw[← h];exact z1L _
  split at h
  ·obtain⟨y,_,rfl⟩:=z8K h;exact z1L _
  split at h
  ·obtain⟨y,_,rfl⟩:=z8K h;exact z47 _
  split at h
  ·obtain⟨y,_,rfl⟩:=z8K h;exact z5H _
  split at h
  ·exact(z4I h).2
  ·cases h
end
section
open Go Go.RowKit
mutual
def szE:ET->Nat
 | .mk _ _ _ _ its=>szEL its+1
def szEL:List ET->Nat
 |[]=>0
 |a::l=>szE a+szEL l
end
theorem zgr (t:ET):1<=szE t:=by cases t;rw[szE];omega
theorem z7a:∀ (l:List ET),(∀ x∈l,∀ n,n < 500->cntE x n= min 500 (n+szE x))->∀ n,n<=500->cntEL l n= min 500 (n+szEL l)
 |[],_,n,hn=>by rw[cntEL,szEL];omega
 |a::l,h,n,hn=>by
  rw[cntEL,szEL]
  by_cases h5:500<=n
  ·rw[if_pos h5];omega
  ·rw[if_neg h5,h a (by simp) n (by omega),z7a l (fun x hx=>h x (by simp[hx])) _ (by omega)]
   omega
theorem zel (t:ET):∀ n,n < 500->cntE t n= min 500 (n+szE t):=by
 induction t using ET.ind with
 |h k s v ns its ih=>
  intro n hn;rw[cntE,szE,z7a its ih (n+1) (by omega)];omega
theorem z2g {d:Nat}:∀ {l:List ET},z09 l d= true↔∀ x∈l,z0h x d= true
 |[]=>by rw[z09];simp
 |a::l=>by rw[z09,Bool.and_eq_true,z2g];simp
theorem z3l {t:ET}:zZ t= true↔szE t<=200/\z0h t 1= true:=by
 unfold zZ;rw[Bool.and_eq_true,decide_eq_true_eq,zel t 0 (by omega)];constructor
 ·rintro⟨h,h2⟩;exact⟨by omega,h2⟩
 ·rintro⟨h,h2⟩;exact⟨by omega,h2⟩
section
variable {E:List VarT} {V:List VT}
theorem z5t {x:ET} {r:Res} (h1:V.all zB= true) (h2:zZ x= true) (h:evalE E V x= r):evalT x E V= r:=by
 unfold evalT;rw[h1,h2];exact h
end
mutual
def anyE:ET->Bool
 | .mk k _ _ _ its=>decide (k= 2) || anyEL its
def anyEL:List ET->Bool
 |[]=>false
 |a::l=>anyE a || anyEL l
end
theorem z73:∀ {l:List ET},anyEL l= false->∀ x∈l,anyE x= false
 |[],_,x,hx=>by cases hx
 |a::l,h,x,hx=>by
  rw[anyEL,Bool.or_eq_false_iff] at h
  rcases List.mem_cons.1 hx with rfl|hx
  ·exact h.1
  ·exact z73 h.2 x hx
theorem z3F (E:List VarT) (V:List VT):∀ l:List ET,zC E V l= l.map (evalE E V)
 |[]=>by rw[zC];rfl
 |a::l=>by rw[zC,z3F E V l];rfl
theorem z7h {E E':List VarT} {V V':List VT} (x:ET):anyE x= false->evalE E V x= evalE E' V' x:=by
 induction x using ET.ind with
 |h k s v ns its ih=>
  intro h;rw[anyE,Bool.or_eq_false_iff] at h;have h2: ¬ k= 2:=by simpa using h.1
  have g:zC E V its= zC E' V' its:=by
   rw[z3F,z3F];exact List.map_congr_left fun x hx=>ih x hx (z73 h.2 x hx)
  rw[evalE,evalE,g,if_neg h2,if_neg h2]
end
section
open Go Go.RowKit
theorem zfa {α:Type} {f:α->Bool} {fL:List α->Bool} (h:∀ l,fL l= l.any f) {its:List α} {j:Nat} {y:α} (hy:its[j]?= some y):fL (its.take (j+1))=(fL (its.take j) || f y):=by
 rw[h,h,List.take_add_one,hy,List.any_append];simp
theorem zgh {α:Type} {f:α->Bool} {fL:List α->Bool} (h:∀ l,fL l= l.any f) {its:List α} {y:α} (hy:y∈its) (hf:f y= true):fL its= true:=by
 rw[h,List.any_eq_true];exact⟨y,hy,hf⟩
theorem z4d:∀ l:List ET,anyEL l= l.any anyE
 |[]=>by rw[anyEL];rfl
 |a::l=>by rw[anyEL,z4d l];rfl
theorem z9i:∀ (x:ET) (cs:List Value) (p o:Nat) (w:World),w.rangeAt p o cs->p < w.heap.size->ExpAt w w.heap.size cs x->Calls Tryz.prog 141 #[.pointer (some ⟨p,o,none⟩)] w fun e w'=>e= .returned (.bool (anyE x))/\Below w.heap.size w w':=by
 intro x
 induction x using ET.ind with
 |h k s t ns its ih=>
  intro cs p o w X hp hv;obtain⟨v0,v1,v2,v3,v4,v5,vn,vi,rfl,_,_,_,_,a7,hi⟩:=hv.inv;obtain⟨_,A,c,rfl,hA⟩:=hi;have HA:=I hA;have IH:=I ih;have d0:w.cell? ⟨p,o,none⟩= some (.int .i64 k):=X 0 _ rfl;have d9:w.cell? ⟨p,o+9,none⟩= some (.slice A its.length c):=X 9 _ rfl;have D9:=I d9;have a4:=I hp;unfold maxLen at a7;clear hA hv ih X;have O:(k ==2)= true\/((k ==2)= false/\anyE (.mk k s t ns its)= anyEL its):=by
   rw[anyE];by_cases h2:k= 2
   ·exact .inl (by simpa using h2)
   ·exact .inr ⟨by simpa using h2,by simp[h2]⟩
  rcases O with hk|⟨hk,G⟩
  ·have N:Hid (anyE (.mk k s t ns its)= true):=I (by rw[anyE,decide_eq_true (by simpa using hk)];rfl)
   go_enter Tryz.func141,Tryz.ntmps141;go_wp2;go_ret;exact⟨by rw[N.o]<;>rfl,Below.refl _ _⟩
  ·have H0:=I G
   clear G;go_enter Tryz.func141,Tryz.ntmps141;go_wp2;go_loopg [14] its.length (fun g i wr=>∃ (j:Nat),j+g= its.length/\i= .int .i64 j/\anyEL (its.take j)= false/\Below w.heap.size w wr);case atStart=>exact⟨0,by omega,rfl,rfl,Below.refl _ _⟩
   case round=>
    obtain⟨j,hj,rfl,a1,hb⟩:=hrel;have C:=I hb;have Y:=I a1;have d9:=(hb.cell (p:=⟨p,o+9,none⟩) a4.o).trans D9.o;clear hb a1;cases gk with
    |zero=>
     have b9: ¬ ((j:Int) <(its.length:Int)):=by omega
     have N:Hid (anyEL its= false):=I (by have h:=Y.o;rw[List.take_of_length_le (by omega)] at h;exact h);go_wp2;go_ret;exact⟨by rw[H0.o,N.o]<;>rfl,C.o⟩
    |succ g=>
     have c5:(j:Int) <(its.length:Int):=by omega
     obtain⟨y,hy⟩:∃ y,its[j]?= some y:=⟨_,List.getElem?_eq_getElem (by omega)⟩;obtain⟨b,ob,rfl,a0,hc⟩:=HA.o (by omega);obtain⟨cs,a6,X,hR⟩:=hc j y hy;have HC:=I (IH.o y (List.mem_of_getElem? hy) cs b (ob+j*10) wr (zb X C.o a0) (Nat.lt_of_lt_of_le a0 C.o.size) ((hR.under C.o).more C.o.size));have HT:=I (zfa (f:=anyE) z4d hy);have HM:=I (zgh (f:=anyE) z4d (List.mem_of_getElem? hy));clear hc X hR hy a6;cases hyr:anyE y with
     |true=>
      rw[hyr] at HC;have N:=I (HM.o hyr);clear hyr;go_wp2_with (go_at_call 141;refine zg HC.o ?_;intro w4 K);go_ret;exact⟨by rw[H0.o,N.o]<;>rfl,(beT C.o K.o)⟩
     |false=>
      rw[hyr] at HC;have N:Hid (anyEL (its.take (j+1))= false):=I (by rw[HT.o,Y.o,hyr];rfl);clear hyr;go_wp2_with (go_at_call 141;refine zg HC.o ?_;intro w4 K);go_roundg g;case measure=>omega
      case rel=>exact⟨j+1,by omega,by go_num,N.o,(beT C.o K.o)⟩
end
section
open Go Go.RowKit
mutual
def joinT:TT->TT->Option TT
 | .mk ka na ia,.mk kb nb ib=>
  if ka= 7 then some (.mk kb nb ib) else if kb= 7 then some (.mk ka na ia)
  else if ka≠kb\/ia.length≠ib.length then none
  else if ka= 6/\na≠nb then none
  else match z04 ia ib with
   |none=>none
   |some l=>some (.mk ka (if ka= 6 then na else[]) l)
def z04:List TT->List TT->Option (List TT)
 |[],_=>some []
 |a::l,b::r=>match joinT a b with
  |none=>none
  |some x=>match z04 l r with
   |none=>none
   |some y=>some (x::y)
 |_::_,[]=>none
end
mutual
def fitX:VT->TT->Bool
 | .mk k _ _ _ ns its,.mk k' ns' ts=>(k ==k') && (!(k ==7) && (if k= 5 then fitXA its ts else if k= 6 then decide (ns= ns') && fitXL its ts else true))
def fitXA:List VT->List TT->Bool
 |[],_=>true
 |a::l,t::r=>fitX a t && fitXA l (t::r)
 |_::_,[]=>false
def fitXL:List VT->List TT->Bool
 |[],[]=>true
 |a::l,t::r=>fitX a t && fitXL l r
 |[],_::_=>false
 |_::_,[]=>false
end
theorem z0G {t:TT} {r:List TT}:∀ {l:List VT},fitXA l (t::r)= true↔∀ x∈l,fitX x t= true
 |[]=>by rw[fitXA];simp
 |a::l=>by rw[fitXA,Bool.and_eq_true,z0G];simp
theorem z1O {l:List VT}:fitXA l []= true↔l=[]:=by
 cases l with
 |nil=>rw[fitXA];simp
 |cons a l=>rw[fitXA];simp
theorem z1j:∀ {l:List VT} {r:List TT},fitXL l r= true↔l.length= r.length/\∀ (i:Nat) x t,l[i]?= some x->r[i]?= some t->fitX x t= true
 |[],[]=>by rw[fitXL];simp
 |[],_::_=>by rw[fitXL];simp
 |_::_,[]=>by rw[fitXL];simp
 |a::l,t::r=>by
  rw[fitXL,Bool.and_eq_true,z1j]
  constructor
  ·rintro⟨h1,h2,h3⟩
   refine⟨by simp[h2],fun i x t' hx ht=> ?_⟩
   cases i with
   |zero=>simp at hx ht;subst hx ht;exact h1
   |succ i=>exact h3 i x t' (by simpa using hx) (by simpa using ht)
  ·rintro⟨h1,h2⟩
   exact⟨h2 0 a t rfl rfl,by simpa using h1,fun i x t' hx ht=>h2 (i+1) x t' (by simpa using hx) (by simpa using ht)⟩
theorem z2m:∀ {l r o:List TT},z04 l r= some o->o.length= l.length/\∀ (i:Nat) a b,l[i]?= some a->r[i]?= some b->∃ t,o[i]?= some t/\joinT a b= some t
 |[],r,o,h=>by rw[z04] at h;injection h with h;subst h;exact⟨rfl,fun i a b ha=>by simp at ha⟩
 |_::_,[],o,h=>by rw[z04] at h;cases h
 |a::l,b::r,o,h=>by
  rw[z04] at h
  cases h1:joinT a b with
  |none=>rw[h1] at h;cases h
  |some x=>
   rw[h1] at h
   simp only at h
   cases h2:z04 l r with
   |none=>rw[h2] at h;cases h
   |some y=>
    rw[h2] at h
    injection h with h
    subst h
    obtain⟨h3,h4⟩:=z2m h2
    refine⟨by simp[h3],fun i a' b' ha hb=> ?_⟩
    cases i with
    |zero=>simp at ha hb;subst ha hb;exact⟨x,rfl,h1⟩
    |succ i=>obtain⟨t,h5,h6⟩:=h4 i a' b' (by simpa using ha) (by simpa using hb);exact⟨t,by simpa using h5,h6⟩
theorem z2k (v:VT):∀ a b t,joinT a b= some t->(fitX v a= true\/fitX v b= true)->fitX v t= true:=by
 induction v using VT.ind with
 |h k n f s ns its ih=>
  intro a b t A g;cases a with
  |mk ka na ia=>
  cases b with
  |mk kb nb ib=>
  rw[joinT] at A;by_cases h7:ka= 7
  ·rw[if_pos h7] at A
   injection A with A;subst A;rcases g with g|g
   ·rw[fitX] at g
    simp only[Bool.and_eq_true,beq_iff_eq,Bool.not_eq_true',beq_eq_false_iff_ne] at g;exact absurd (g.1.trans h7) g.2.1
   ·exact g
  rw[if_neg h7] at A;by_cases h8:kb= 7
  ·rw[if_pos h8] at A
   injection A with A;subst A;rcases g with g|g
   ·exact g
   ·rw[fitX] at g
    simp only[Bool.and_eq_true,beq_iff_eq,Bool.not_eq_true',beq_eq_false_iff_ne] at g;exact absurd (g.1.trans h8) g.2.1
  rw[if_neg h8] at A;split at A
  ·cases A
  rename_i hkl
  have N:ka= kb:=by by_cases h:ka= kb;exact h;exact absurd (Or.inl h) hkl
  have hl:ia.length= ib.length:=by by_cases h:ia.length= ib.length;exact h;exact absurd (Or.inr h) hkl
  subst N;split at A
  ·cases A
  rename_i hnn
  cases hjl:z04 ia ib with
  |none=>rw[hjl] at A;cases A
  |some l=>
   rw[hjl] at A;injection A with A;subst A;obtain⟨j1,j2⟩:=z2m hjl;rw[fitX];rw[fitX,fitX] at g;simp only[Bool.and_eq_true,beq_iff_eq,Bool.not_eq_true',beq_eq_false_iff_ne] at g ⊢;have N:k= ka:=by rcases g with h|h<;>exact h.1
   subst N;refine⟨rfl,h7,?_⟩;by_cases k5:k= 5
   ·rw[if_pos k5]
    rw[if_pos k5,if_pos k5] at g
    match ia,ib,l,hl,j1,j2,g with
    |[],[],[],_,_,_,g=>
     rcases g with h|h<;>(rw[z1O] at h;rw[z1O];exact h.2.2)
    |x::ia,y::ib,z::l,_,_,j2,g=>
     obtain⟨t,K,Y⟩:=j2 0 x y rfl rfl;simp at K;subst K;rw[z0G];intro u C;rw[z0G,z0G] at g;exact ih u C x y z Y (g.imp (fun h=>h.2.2 u C) (fun h=>h.2.2 u C))
   ·rw[if_neg k5]
    rw[if_neg k5,if_neg k5] at g;by_cases k6:k= 6
    ·rw[if_pos k6]
     rw[if_pos k6,if_pos k6] at g;have O:na= nb:=by by_cases h:na= nb;exact h;exact absurd ⟨k6,h⟩ hnn
     subst O;rw[if_pos k6];simp only[Bool.and_eq_true,decide_eq_true_eq,z1j] at g ⊢;have X:ns= na:=by rcases g with h|h<;>exact h.2.2.1
     refine⟨X,by rcases g with h|h<;>have:=h.2.2.2.1<;>omega,fun i x t hx K=> ?_⟩;have G:i < ia.length:=by have:=(List.getElem?_eq_some_iff.1 K).1;omega
     obtain⟨u,C,a0⟩:=j2 i ia[i] ib[i] (List.getElem?_eq_getElem G) (List.getElem?_eq_getElem (by omega));rw[K] at C;injection C with C;subst C;exact ih x (List.mem_of_getElem? hx) _ _ t a0 (g.imp (fun h=>h.2.2.2.2 i x _ hx (List.getElem?_eq_getElem G)) (fun h=>h.2.2.2.2 i x _ hx (List.getElem?_eq_getElem (by omega))))
    ·rw[if_neg k6]
theorem zbW (v:VT):∀ t,fitX (z01 v) t= fitX v t:=by
 induction v using VT.ind with
 |h k n f s ns its ih=>
  intro t;cases t with
  |mk k' ns' ts=>
  rw[z01,fitX,fitX];have C:fitXA (z0F its) ts= fitXA its ts:=by
   cases ts with
   |nil=>rw[Bool.eq_iff_iff,z1O,z1O,z1o,List.map_eq_nil_iff]
   |cons t r=>
    rw[Bool.eq_iff_iff,z0G,z0G,z1o];constructor
    ·intro h x g;have:=h (z01 x) (List.mem_map.2 ⟨x,g,rfl⟩);rwa [ih x g] at this
    ·intro h y A
     obtain⟨x,g,rfl⟩:=List.mem_map.1 A;rw[ih x g];exact h x g
  have G:fitXL (z0F its) ts= fitXL its ts:=by
   rw[Bool.eq_iff_iff,z1j,z1j,z1o,List.length_map];constructor
   ·rintro⟨h,h2⟩
    refine⟨h,fun i x t g ht=> ?_⟩;have:=h2 i (z01 x) t (by rw[List.getElem?_map,g];rfl) ht;rwa [ih x (List.mem_of_getElem? g)] at this
   ·rintro⟨h,h2⟩
    refine⟨h,fun i y t A ht=> ?_⟩;rw[List.getElem?_map,Option.map_eq_some_iff] at A;obtain⟨x,g,rfl⟩:=A;rw[ih x (List.mem_of_getElem? g)];exact h2 i x t g ht
  rw[C,G]
theorem z7n {t:TT}:∀ {l:List VT},fitsA l [t]= true->∀ x∈l,fitsV x t= true
 |[],_,x,hx=>by cases hx
 |a::l,h,x,hx=>by
  rw[fitsA,Bool.and_eq_true] at h
  rcases List.mem_cons.1 hx with rfl|hx
  ·exact h.1
  ·exact z7n h.2 x hx
theorem zg0 (v:VT):∀ t d e,zr v d= true->zG t e= true->fitsV v t= true->fitX v t= true:=by
 induction v using VT.ind with
 |h k n f s ns g ih=>
  intro t d e Y O A;cases t with
  |mk k' ns' ts=>
  rw[fitsV,Bool.and_eq_true,beq_iff_eq] at A;obtain⟨rfl,A⟩:=A;rw[fitX];simp only[Bool.and_eq_true,beq_iff_eq,Bool.not_eq_true',beq_eq_false_iff_ne];refine⟨trivial,fun h7=> ?_,?_⟩
  ·subst h7;rw[z6i] at Y;cases Y
  by_cases k5:k= 5
  ·subst k5
   rw[if_pos rfl] at A ⊢;obtain⟨hl,G⟩:=z0w O;have N:=z3U Y
   match ts,hl,G,A with
   |[t0],_,G,A=>
    rw[z0G];intro x C;exact ih x C t0 _ _ (N x C) (G t0 (by simp)) (z7n A x C)
  ·rw[if_neg k5] at A ⊢
   by_cases k6:k= 6
   ·subst k6
    rw[if_pos rfl] at A ⊢;rw[Bool.and_eq_true,decide_eq_true_eq] at A;obtain⟨rfl,A⟩:=A;obtain⟨hl,G⟩:=z1U O;obtain⟨a1,N⟩:=z2t Y;rw[Bool.and_eq_true,decide_eq_true_eq,z1j];refine⟨rfl,by omega,?_⟩;have h1:∀ (g:List VT) (ts:List TT),fitsL g ts= true->g.length= ts.length->∀ (i:Nat) x t,g[i]?= some x->ts[i]?= some t->fitsV x t= true:=by
     intro g
     induction g with
     |nil=>intro ts _ _ i x t C;simp at C
     |cons a l ih2=>
      intro ts h K i x t C O;cases ts with
      |nil=>simp at K
      |cons b r=>
       rw[fitsL,Bool.and_eq_true] at h;cases i with
       |zero=>simp at C O;subst C O;exact h.1
       |succ i=>exact ih2 r h.2 (by simpa using K) i x t (by simpa using C) (by simpa using O)
    intro i x t C X;exact ih x (List.mem_of_getElem? C) t _ _ (N x (List.mem_of_getElem? C)) (G t (List.mem_of_getElem? X)) (h1 g ts A (by omega) i x t C X)
   ·rw[if_neg k6]
def kV:VT->Int
 | .mk k _ _ _ _ _=>k
def pT (k:Int):TT:= .mk k [] []
def kT:TT->Int
 | .mk k _ _=>k
def seqT:List (Except Int TT)->Except Int (List TT)
 |[]=> .ok []
 | .error e::_=> .error e
 | .ok v::r=>match seqT r with
  | .error e=> .error e
  | .ok l=> .ok (v::l)
def foldT:TT->List TT->Option TT
 |t,[]=>some t
 |t,a::l=>match joinT t a with
  |none=>none
  |some u=>foldT u l
def pairT (k:Int) (a b:TT):Except Int TT:=
 let num:=(kT a= 2/\kT b= 2)\/(kT a= 3/\kT b= 3)
 if k= 5 then match joinT a b with
  |some t=>if num\/(kT a= 4/\kT b= 4)\/(kT a= 5/\kT b= 5) then .ok t else .error 6
  |none=> .error 6
 else if k= 6\/k= 7\/k= 8 then(if num then .ok (pT (kT a)) else .error 6)
 else if k= 9 then(if kT a= 2/\kT b= 2 then .ok (pT 2) else .error 6)
 else if k= 10 then(if(joinT a b).isSome= true then .ok (pT 1) else .error 6)
 else if k= 11\/k= 12 then(if num\/(kT a= 4/\kT b= 4) then .ok (pT 1) else .error 6)
 else if k= 13\/k= 14 then(if kT a= 1/\kT b= 1 then .ok (pT 1) else .error 6)
 else .error 6
def z3o (s:ByteArray):TT->Except Int TT
 | .mk k ns ts=>if k≠6 then .error 6 else if Lib.idxOfS ns s= -1 then .error 10 else .ok (ts.getD (Lib.idxOfS ns s).toNat (pT 0))
def item0:TT->TT
 | .mk _ _ ts=>ts.getD 0 (pT 0)
def ownT (E:List VarT) (k:Int) (s:ByteArray) (v:VT) (ns:List ByteArray) (l:List TT):Except Int TT:=
 if k= 1 then .ok (pT (kV v))
 else if k= 2 then(if findV E s= -1 then .error 11 else match E[(findV E s).toNat]? with|some x=> .ok x.type|none=> .error 11)
 else if k= 3 then(if kT (l.getD 0 (pT 0))= 2\/kT (l.getD 0 (pT 0))= 3 then .ok (l.getD 0 (pT 0)) else .error 6)
 else if k= 4 then(if kT (l.getD 0 (pT 0))= 1 then .ok (l.getD 0 (pT 0)) else .error 6)
 else if k= 15 then(match joinT (l.getD 1 (pT 0)) (l.getD 2 (pT 0)) with|some t=>if kT (l.getD 0 (pT 0))= 1 then .ok t else .error 6|none=> .error 6)
 else if k= 16 then(match foldT (pT 7) l with|some t=> .ok (.mk 5 [] [t])|none=> .error 6)
 else if k= 17 then .ok (.mk 6 ns l)
 else if k= 18 then z3o s (l.getD 0 (pT 0))
 else if k= 19 then(if kT (l.getD 0 (pT 0))= 5/\kT (l.getD 1 (pT 0))= 2/\kT (item0 (l.getD 0 (pT 0)))≠7 then .ok (item0 (l.getD 0 (pT 0))) else .error 6)
 else if k= 20 then(if kT (l.getD 0 (pT 0))= 5\/kT (l.getD 0 (pT 0))= 4 then .ok (pT 2) else .error 6)
 else if k= 21 then(if kT (l.getD 0 (pT 0))= 2 then .ok (pT 3) else .error 6)
 else if k= 22 then(if kT (l.getD 0 (pT 0))= 3 then .ok (pT 2) else .error 6)
 else if k= 23 then(if kT (l.getD 0 (pT 0))= 1\/kT (l.getD 0 (pT 0))= 2\/kT (l.getD 0 (pT 0))= 3\/kT (l.getD 0 (pT 0))= 4 then .ok (pT 4) else .error 6)
 else pairT k (l.getD 0 (pT 0)) (l.getD 1 (pT 0))
mutual
def z0a (E:List VarT):ET->Except Int TT
 | .mk k s v ns its=>match seqT (zY E its) with
  | .error e=> .error e
  | .ok l=>match ownT E k s v ns l with
   | .error e=> .error e
   | .ok t=>if typeT t= true then .ok t else .error 15
def zY (E:List VarT):List ET->List (Except Int TT)
 |[]=>[]
 |a::l=>z0a E a::zY E l
end
end
section
open Go Go.RowKit
def KeptT (p:Nat->Prop) (w:World) (cs:List Value) (t:TT):Prop:=TypAt (only w p) w.heap.size cs t
theorem TypAt.cells {w w':World} {B:Nat} {cs:List Value} {t:TT} (h:TypAt w B cs t) (hb:∀ a v,w.cell? a= some v->w'.cell? a= some v):TypAt w' B cs t:=by
 induction h with
 |mk b o css hk hns hl hA hc hi ih=>
  refine .mk b o css hk ?_ hl hA (fun i h=>⟨(hc i h).1,fun j v hv=>hb _ _ ((hc i h).2 j v hv)⟩) ih;obtain⟨h0,A,c,rfl,h1⟩:=hns;refine⟨h0,A,c,rfl,fun hp=> ?_⟩;obtain⟨b,o,rfl,g,h2⟩:=h1 hp;refine⟨b,o,rfl,g,fun i x hx=> ?_⟩;obtain⟨cs,h3,h4,h5⟩:=h2 i x hx;exact⟨cs,h3,fun j v hv=>hb _ _ (h4 j v hv),h5⟩
theorem KeptT.typ {p:Nat->Prop} {w:World} {cs:List Value} {t:TT} (h:KeptT p w cs t):TypAt w w.heap.size cs t:=TypAt.cells h fun a v hv=>(zx.1 hv).2
theorem z3O {p q:Nat->Prop} {w w':World} (hb:∀ b,p b->b < w.heap.size->q b/\w'.heap[b]?= w.heap[b]?):∀ a v,(only w p).cell? a= some v->(only w' q).cell? a= some v:=fun a v hv=>by
 obtain⟨h1,h2⟩:=zx.1 hv
 have hlt:a.block < w.heap.size:=by
  rcases Nat.lt_or_ge a.block w.heap.size with h|h
  ·exact h
  ·unfold World.cell? at h2;rw[Array.getElem?_eq_none h] at h2;cases h2
 obtain⟨h3,h4⟩:=hb a.block h1 hlt;exact zx.2 ⟨h3,(World.cell?_of_block h4).trans h2⟩
theorem KeptT.to {p q:Nat->Prop} {w w':World} {cs:List Value} {t:TT} (h:KeptT p w cs t) (hb:∀ b,p b->b < w.heap.size->q b/\w'.heap[b]?= w.heap[b]?) (hs:w.heap.size<=w'.heap.size):KeptT q w' cs t:=
 (TypAt.cells h (z3O hb)).more hs
theorem KeptT.all {w:World} {cs:List Value} {t:TT} (h:TypAt w w.heap.size cs t):KeptT (fun _=>True) w cs t:=TypAt.cells h fun a v hv=>zx.2 ⟨trivial,hv⟩
abbrev z0Y:= { cs:List Value // cs.length= 3 }
def enc3 (k:z0Y):List Value:=k.1
theorem z2Q (k:z0Y):(enc3 k).length= 3:=k.2
structure RowT (p:Nat->Prop) (B:Nat) (u:World) (v:Value) (vs:List TT) (KL:List z0Y):Prop where
 own:OwnSl 36 3 enc3 u B v KL
 len:KL.length= vs.length
 sz:B<=u.heap.size
 els:∀ (j:Nat) k x,KL[j]?= some k->vs[j]?= some x->KeptT (fun b=>(p b\/B<=b)/\some b≠v.ownBlock) u k.1 x
theorem RowT.start (p:Nat->Prop) {B:Nat} {u:World} (h:B<=u.heap.size):RowT p B u (.slice none 0 0) [] []:=⟨OwnSl.nil _ _,rfl,h,fun j k x hk _=>by cases hk⟩
theorem RowT.next {p:Nat->Prop} {B:Nat} {u u6 u7 u8:World} {v v':Value} {vs:List TT} {KL:List z0Y} (h:RowT p B u v vs KL) (hpB:∀ b,p b->b < B) (h6:Below u.heap.size u u6) (h7:Below u6.heap.size u6 u7) {k:z0Y} {x:TT}
  (hk:KeptT (fun b=>p b\/u.heap.size<=b) u6 k.1 x) (hown:OwnSl 36 3 enc3 u8 B v' (KL ++ [k])) (hg:u7.grownBy u8 v.ownBlock) (hb:v'.ownBlock= v.ownBlock\/v'.ownBlock= some u7.heap.size):
  RowT p B u8 v' (vs ++ [x]) (KL ++ [k]):=by
 have h57:=(beT h6 h7);have X:=h.sz;have C:∀ b,b < u.heap.size->some b≠v.ownBlock->some b≠v'.ownBlock/\u8.heap[b]?= u.heap[b]?:=fun b hlt g=>by
  have e1:=h57.block b hlt;have e2:=hg.block b (Nat.lt_of_lt_of_le hlt h57.size) g;refine⟨?_,e2.trans e1⟩;rcases hb with hb|hb
  ·rw[hb];exact g
  ·rw[hb]
   intro e;injection e with e;have:=h57.size;omega
 have G:∀ b,(p b\/u.heap.size<=b)->b < u6.heap.size->some b≠v'.ownBlock/\u8.heap[b]?= u6.heap[b]?:=fun b K hlt=>by
  have g:some b≠v.ownBlock:=fun e=>by
   have h1:=z0y h.own e.symm;have h2:=h.own.block e.symm;rcases K with A|K
   ·have:=hpB b A;omega
   ·omega
  have e1:=h7.block b hlt;have e2:=hg.block b (Nat.lt_of_lt_of_le hlt h7.size) g;refine⟨?_,e2.trans e1⟩;rcases hb with hb|hb
  ·rw[hb];exact g
  ·rw[hb]
   intro e;injection e with e;have:=h7.size;omega
 refine⟨hown,by rw[List.length_append,List.length_append,h.len];rfl,?_,fun j k' y hk' hy=> ?_⟩
 ·have:=hg.size
  have:=h57.size;omega
 ·rcases Nat.lt_or_ge j KL.length with O|O
  ·rw[List.getElem?_append_left O] at hk'
   rw[List.getElem?_append_left (by rw[← h.len];exact O)] at hy;refine(h.els j k' y hk' hy).to (fun b A hlt=>⟨⟨A.1,(C b hlt A.2).1⟩,(C b hlt A.2).2⟩) ?_;have:=hg.size;have:=h57.size;omega
  ·rw[List.getElem?_append_right O] at hk'
   have N:j= KL.length:=by
    have:=(List.getElem?_eq_some_iff.1 hk').1;simp only[List.length_singleton] at this;omega
   rw[N,Nat.sub_self] at hk';injection hk' with hk';subst hk';have e:y= x:=by
    rw[N,h.len,List.getElem?_append_right (Nat.le_refl _),Nat.sub_self] at hy;injection hy with hy;exact hy.symm
   subst e;refine hk.to (fun b A hlt=>⟨⟨A.imp id fun h=>by omega,(G b A hlt).1⟩,(G b A hlt).2⟩) ?_;have:=hg.size;have:=h7.size;omega
theorem RowT.store {p:Nat->Prop} {B q:Nat} {u u':World} {v:Value} {vs:List TT} {KL:List z0Y} (h:RowT p B u v vs KL) (hb:But u u' q q) (hq:q < B) (hpq: ¬ p q):RowT p B u' v vs KL:=by
 refine⟨World.ownsRow.kept h.own (row:=some q) ⟨hb.os,hb.tape,hb.output,hb.size,fun i hi g=>hb.block i hi (fun e=>g (by rw[e])) (fun e=>g (by rw[e]))⟩ ?_,h.len,Nat.le_trans h.sz hb.size,fun j k x hk hx=> ?_⟩
 ·exact .inr fun e=>by have:=h.own.block e;omega
 ·refine(h.els j k x hk hx).to (fun b hq2 hlt=> ?_) hb.size
  have g:b≠q:=fun e=>by
   subst e;rcases hq2.1 with h|h
   ·exact hpq h
   ·omega
  exact⟨hq2,hb.block b hlt g g⟩
theorem RowT.below {p:Nat->Prop} {B:Nat} {u u':World} {v:Value} {vs:List TT} {KL:List z0Y} (h:RowT p B u v vs KL) (hb:Below u.heap.size u u'):RowT p B u' v vs KL:=
 ⟨h.own.below hb,h.len,Nat.le_trans h.sz hb.size,fun j k x hk hx=>(h.els j k x hk hx).to (fun b hq hlt=>⟨hq,hb.block b hlt⟩) hb.size⟩
theorem RowT.row {p q:Nat->Prop} {B:Nat} {u u':World} {v:Value} {vs:List TT} {KL:List z0Y} (h:RowT p B u v vs KL) (hl:vs.length<=maxLen) (hk:∀ b,(p b\/B<=b)->b < u.heap.size->q b/\u'.heap[b]?= u.heap[b]?) (hs:u.heap.size<=u'.heap.size):
  SlAt (only u' q) u'.heap.size 3 (TypAt (only u' q) u'.heap.size) v vs:=by
 refine⟨Nat.le_trans hl z10,?_⟩;rcases h.own.2 with ⟨rfl,h0⟩|⟨g,K,Y,X,N,_,_⟩
 ·rw[h.len] at h0
  exact⟨none,0,by rw[← h0],fun h1=>by omega⟩
 ·refine⟨some ⟨g,0,none⟩,K,by rw[X,h.len],fun _=> ?_⟩
  have A:v.ownBlock= some g:=by rw[X];rfl
  have G:=z0y h.own A;refine⟨g,0,rfl,by omega,fun i x hx=> ?_⟩;have O:=(List.getElem?_eq_some_iff.1 hx).1;have C:KL[i]?= some (KL[i]'(by rw[h.len];exact O)):=List.getElem?_eq_getElem _;refine⟨_,(KL[i]'(by rw[h.len];exact O)).2,fun j c hc=> ?_,?_⟩
  ·refine zx.2 ⟨(hk g (.inr N) G).1,?_⟩
   refine(World.cell?_of_block (a:=⟨g,_,none⟩) (hk g (.inr N) G).2).trans ?_;have:=World.ownsRow.cells h.own A (i*3+j) c (z0Z z2Q KL i _ C j c hc);rw[Addr.add_mid] at this;rw[show 0+i*3+j= 0+ (i*3+j) by omega];exact this
  ·exact(h.els i _ x C hx).to (fun b hp hb=>hk b hp.1 hb) hs
def tyC (k:Int) (vn vi:Value):List Value:=[.int .i64 k,vn,vi]
def zT3:List Value:=tyC 0 (.slice none 0 0) (.slice none 0 0)
theorem zM (k:Int) (A B:Option Addr) (a b c d:Nat):∀ v∈tyC k (.slice A a b) (.slice B c d),v.oneCell'= true:=by
 intro v hv;simp only[tyC,List.mem_cons,List.not_mem_nil,or_false] at hv;rcases hv with rfl|rfl|rfl<;>rfl
theorem z0I {p:Nat->Prop} {w:World} {k:Int} (hk:wfI k):KeptT p w (tyC k (.slice none 0 0) (.slice none 0 0)) (pT k):=TypAt.of hk (SlAt.nil _ _ _ _) (Nat.zero_le _) (SlAt.nil _ _ _ _)
theorem z2T {p:Nat->Prop} {w:World} {k:Int} {vn vi:Value} {ns:List ByteArray} {its:List TT} (hk:wfI k) (hn:KeptS p w vn ns) (hl:its.length<=maxLen) (hi:SlAt (only w p) w.heap.size 3 (TypAt (only w p) w.heap.size) vi its):KeptT p w (tyC k vn vi) (.mk k ns its):=TypAt.of hk hn hl hi
theorem zO {fn:Func} {p:Tmp} (h:fn.results= #[.cell p 36]) (tmps:Array Value) (w:World) (g:Nat) (cs:List Value) (hl:cs.length= 3)
  (hp:tmps.getD p undef= .pointer (some ⟨g,0,none⟩)) (hm:Whole 36 w g cs):(results fn tmps).run Tryz.prog w= .ok (.agg ⟨cs⟩) w:=by
 have A:tmps[p]?.getD undef= .pointer (some ⟨g,0,none⟩):=by simpa using hp
 have hl:=run_loadVar_mid (P:=Tryz.prog) w g 0 36 cs _ hm.range Tryz.underlying36 rfl (by rw[hl];kernel_rfl);simp[results,h,A,asAddr,hl]
theorem z25:(Tryz.prog.info? 36).map (fun i=>(i.zero,i.size,i.bytes))= some (some (.agg zT3.toArray),3,56):=by kernel_rfl
end
section
open Go Go.RowKit
mutual
def jok:TT->Bool
 | .mk k ns its=>decide (ns.length<=1000/\its.length<=1000/\(k= 6->ns.length= its.length)) && jokL its
def jokL:List TT->Bool
 |[]=>true
 |a::l=>jok a && jokL l
end
theorem z8D:∀ {l:List TT},jokL l= true↔∀ x∈l,jok x= true
 |[]=>⟨fun _ x hx=>(by cases hx),fun _=>rfl⟩
 |a::l=>by
  rw[jokL,Bool.and_eq_true,z8D]
  constructor
  ·rintro⟨h1,h2⟩ x hx
   rcases List.mem_cons.1 hx with rfl|hx
   ·exact h1
   ·exact h2 x hx
  ·exact fun h=>⟨h a (by simp),fun x hx=>h x (List.mem_cons_of_mem _ hx)⟩
theorem z1P {k:Int} {ns:List ByteArray} {its:List TT}:jok (.mk k ns its)= true↔(ns.length<=1000/\its.length<=1000/\(k= 6->ns.length= its.length))/\∀ x∈its,jok x= true:=by
 rw[jok,Bool.and_eq_true,decide_eq_true_eq,z8D]
theorem zdW (t:TT):∀ n d,n<=200->cntT t n<=200->zG t d= true->jok t= true:=by
 induction t using TT.ind with
 |h k ns its ih=>
  intro n d Y K g;have O:=za9 (.mk k ns its) n (by omega);rw[cntT] at K;have G:n+1<=200:=by rw[cntT] at O;omega
  obtain⟨h1,h2⟩:=z8f its (n+1) (fun x _=>za9 x) G K;have A:ns.length<=1000/\(k= 6->ns.length= its.length)/\∀ x∈its,∃ e,zG x e= true:=by
   rw[zG] at g;by_cases hd:12 < d
   ·rw[if_pos hd] at g;cases g
   ·rw[if_neg hd] at g
    by_cases h5:k= 5
    ·rw[if_pos h5] at g
     simp only[Bool.and_eq_true,beq_iff_eq] at g;exact⟨by omega,fun h=>by omega,fun x hx=>⟨d+1,z19 g.2.2 x hx⟩⟩
    ·rw[if_neg h5] at g
     by_cases h6:k= 6
     ·rw[if_pos h6] at g
      simp only[Bool.and_eq_true,beq_iff_eq] at g;exact⟨by omega,fun _=>g.1,fun x hx=>⟨d+1,z19 g.2.2 x hx⟩⟩
     ·rw[if_neg h6] at g
      by_cases h7:k= 1\/k= 2\/k= 3\/k= 4\/k= 7
      ·rw[if_pos h7] at g
       simp only[Bool.and_eq_true,beq_iff_eq] at g;obtain⟨h8,h9⟩:=g;have:its=[]:=List.eq_nil_of_length_eq_zero h9;subst this;exact⟨by omega,fun h=>absurd h h6,fun x hx=>by cases hx⟩
      ·rw[if_neg h7] at g;cases g
  refine z1P.2 ⟨⟨A.1,by omega,A.2.1⟩,fun x hx=> ?_⟩;obtain⟨m,X,C⟩:=h2 x hx;obtain⟨e,N⟩:=A.2.2 x hx;exact ih x hx m e X C N
theorem z44 {t:TT} (h:typeT t= true):jok t= true:=by
 unfold typeT at h;rw[Bool.and_eq_true,decide_eq_true_eq] at h;exact zdW t 0 1 (by omega) h.1 h.2
theorem zeX (a:TT):∀ b t,jok a= true->jok b= true->joinT a b= some t->jok t= true:=by
 induction a using TT.ind with
 |h ka na ia ih=>
  intro b t K N h;cases b with
  |mk kb nb ib=>
   rw[joinT] at h;by_cases h1:ka= 7
   ·rw[if_pos h1] at h;injection h with h;subst h;exact N
   rw[if_neg h1] at h;by_cases h2:kb= 7
   ·rw[if_pos h2] at h;injection h with h;subst h;exact K
   rw[if_neg h2] at h;by_cases h3:ka≠kb\/ia.length≠ib.length
   ·rw[if_pos h3] at h;cases h
   rw[if_neg h3] at h;by_cases h4:ka= 6/\na≠nb
   ·rw[if_pos h4] at h;cases h
   rw[if_neg h4] at h;cases hl:z04 ia ib with
   |none=>rw[hl] at h;cases h
   |some l=>
    rw[hl] at h;injection h with h;subst h;obtain⟨hn,C⟩:=z2m hl;have A:=z1P.1 K;have Y:=z1P.1 N;refine z1P.2 ⟨⟨?_,by omega,fun h=> ?_⟩,fun x hx=> ?_⟩
    ·by_cases h6:ka= 6
     ·rw[if_pos h6];exact A.1.1
     ·rw[if_neg h6];simp
    ·rw[if_pos h,hn];exact A.1.2.2 h
    ·obtain⟨i,O⟩:=List.mem_iff_getElem?.1 hx
     have a1:=(List.getElem?_eq_some_iff.1 O).1;have h5:ia.length= ib.length:=by
      rcases Decidable.em (ia.length= ib.length) with h|h
      ·exact h
      ·exact absurd (.inr h) h3
     obtain⟨y,G⟩:∃ y,ia[i]?= some y:=⟨_,List.getElem?_eq_getElem (by omega)⟩;obtain⟨z,X⟩:∃ z,ib[i]?= some z:=⟨_,List.getElem?_eq_getElem (by omega)⟩;obtain⟨t',g,hj⟩:=C i y z G X;rw[O] at g;injection g with g;subst g;exact ih y (List.mem_of_getElem? G) z x (A.2 y (List.mem_of_getElem? G)) (Y.2 z (List.mem_of_getElem? X)) hj
def encN1 (s:ByteArray):List Value:=[.string s]
theorem zca (s:ByteArray):(encN1 s).length= 1:=rfl
theorem z9p {u u7 u8:World} {o:Option Nat} (hb:Below u.heap.size u u7) (hg:u7.grownBy u8 o):u.grownBy u8 o:=
 ⟨hg.os.trans hb.os,hg.tape.trans hb.tape,hg.output.trans hb.output,Nat.le_trans hb.size hg.size,fun k hk hne=>(hg.block k (Nat.lt_of_lt_of_le hk hb.size) hne).trans (hb.block k hk)⟩
structure JoinInv (p:Nat->Prop) (W U u:World) (q:Nat) (k:Int) (nv iv:Value) (ns:List ByteArray) (ts:List TT) (KL:List z0Y):Prop where
 nown:OwnSl 9 1 encN1 u U.heap.size nv ns
 iown:OwnSl 36 3 enc3 u U.heap.size iv KL
 len:KL.length= ts.length
 sz:U.heap.size<=u.heap.size
 ap:Apart nv iv
 els:∀ (j:Nat) c x,KL[j]?= some c->ts[j]?= some x->KeptT (fun b=>(p b\/U.heap.size<=b)/\some b≠iv.ownBlock/\some b≠nv.ownBlock) u c.1 x
 box:Whole 36 u q (tyC k nv iv)
 bel:Below W.heap.size W u
 sam:∀ b,b < U.heap.size->b≠q->u.heap[b]?= U.heap[b]?
 lo:W.heap.size<=q
 hi:q < U.heap.size
 WU:W.heap.size<=U.heap.size
 pq:∀ b,p b->b < W.heap.size
theorem JoinInv.start {p:Nat->Prop} {W U:World} {q:Nat} {k:Int} (hbox:Whole 36 U q (tyC k (.slice none 0 0) (.slice none 0 0))) (hbel:Below W.heap.size W U) (hlo:W.heap.size<=q) (hp:∀ b,p b->b < W.heap.size):JoinInv p W U U q k (.slice none 0 0) (.slice none 0 0) [] [] []:=
 ⟨OwnSl.nil _ _,OwnSl.nil _ _,rfl,Nat.le_refl _,fun b h=>(by cases h),fun j c x h=>(by cases h),hbox,hbel,fun _ _ _=>rfl,hlo,hbox.lt,hbel.size,hp⟩
section
variable {p:Nat->Prop} {W U u u7 u8:World} {q:Nat} {k:Int} {nv iv v':Value} {ns:List ByteArray} {ts:List TT} {KL:List z0Y}
theorem JoinInv.nb (h:JoinInv p W U u q k nv iv ns ts KL) {b:Nat} (hb:nv.ownBlock= some b):U.heap.size<=b/\b < u.heap.size:=⟨h.nown.block hb,z0y h.nown hb⟩
theorem JoinInv.ib (h:JoinInv p W U u q k nv iv ns ts KL) {b:Nat} (hb:iv.ownBlock= some b):U.heap.size<=b/\b < u.heap.size:=⟨h.iown.block hb,z0y h.iown hb⟩
theorem JoinInv.below (h:JoinInv p W U u q k nv iv ns ts KL) (hb:Below u.heap.size u u7):JoinInv p W U u7 q k nv iv ns ts KL:=
 ⟨h.nown.below hb,h.iown.below hb,h.len,Nat.le_trans h.sz hb.size,h.ap,fun j c x hc hx=>(h.els j c x hc hx).to (fun b hp hlt=>⟨hp,hb.block b hlt⟩) hb.size,h.box.keep (hb.block _ h.box.lt),(beT h.bel hb),fun b hb1 hne=>(hb.block b (Nat.lt_of_lt_of_le hb1 h.sz)).trans (h.sam b hb1 hne),h.lo,h.hi,h.WU,h.pq⟩
theorem JoinInv.name (h:JoinInv p W U u q k nv iv ns ts KL) (hg:u.grownBy u8 nv.ownBlock) {s:ByteArray} {n7:Nat} (hown:OwnSl 9 1 encN1 u8 U.heap.size v' (ns ++ [s])) (hblk:v'.ownBlock= nv.ownBlock\/v'.ownBlock= some n7) (hn7:u.heap.size<=n7):
  JoinInv p W U (u8.setCell ⟨q,1,none⟩ v') q k v' iv (ns ++ [s]) ts KL:=by
 have g:=But.set1 u8 q q 1 v';have N:q < u.heap.size:=Nat.lt_of_lt_of_le h.hi h.sz;have A:∀ b,b < u.heap.size->some b≠nv.ownBlock->b≠q->(u8.setCell ⟨q,1,none⟩ v').heap[b]?= u.heap[b]?:=fun b hb hne hq=>(g.block b (Nat.lt_of_lt_of_le hb hg.size) hq hq).trans (hg.block b hb hne);have K:some q≠nv.ownBlock:=fun e=>by have:=(h.nb e.symm).1;have:=h.hi;omega
 have C:u8.grownBy (u8.setCell ⟨q,1,none⟩ v') (some q):=⟨g.os,g.tape,g.output,g.size,fun i hi hne=>g.block i hi (fun e=>hne (by rw[e])) (fun e=>hne (by rw[e]))⟩;have G:v'.ownBlock= none\/v'.ownBlock≠some q:= .inr fun e=>by have:=hown.block e;have:=h.hi;omega
 refine⟨World.ownsRow.kept hown C G,World.ownsRow.kept (World.ownsRow.kept h.iown hg h.ap.ne) C (.inr fun e=>by have:=(h.ib e).1;have:=h.hi;omega),h.len,Nat.le_trans h.sz (Nat.le_trans hg.size g.size),h.ap.next hblk (fun b hb=>Nat.lt_of_lt_of_le (h.ib hb).2 hn7),fun j c x hc hx=> ?_,?_,?_,fun b hb hne=> ?_,h.lo,h.hi,h.WU,h.pq⟩
 ·refine(h.els j c x hc hx).to (fun b hp hlt=>⟨⟨hp.1,hp.2.1,?_⟩,A b hlt hp.2.2 ?_⟩) (Nat.le_trans hg.size g.size)
  ·rcases hblk with e|e
   ·rw[e];exact hp.2.2
   ·rw[e];intro e;injection e with e;omega
  ·intro e
   subst e;rcases hp.1 with h1|h1
   ·have:=h.pq _ h1;have:=h.lo;omega
   ·have:=h.hi;omega
 ·exact Whole.putM (pre:=[.int .i64 k]) (post:=[iv]) (h.box.keep (hg.block q N K))
 ·refine⟨g.os.trans (hg.os.trans h.bel.os),g.tape.trans (hg.tape.trans h.bel.tape),g.output.trans (hg.output.trans h.bel.output),Nat.le_trans h.bel.size (Nat.le_trans hg.size g.size),fun b hb=> ?_⟩
  have h1:=h.bel.size;exact(A b (Nat.lt_of_lt_of_le hb h1) (fun e=>by have:=(h.nb e.symm).1;have:=h.WU;omega) (by have:=h.lo;omega)).trans (h.bel.block b hb)
 ·exact(A b (Nat.lt_of_lt_of_le hb h.sz) (fun e=>by have:=(h.nb e.symm).1;omega) hne).trans (h.sam b hb hne)
theorem JoinInv.done (h:JoinInv p W U u q k nv iv ns ts KL) (hk:wfI k) (hs:∀ s∈ns,s.size<=maxLen) (hnl:ns.length<=1000) (hl:ts.length<=1000) {r:Nat} (hb:But u u8 r r) (hr:W.heap.size<=r) (hrU:r < U.heap.size):KeptT (fun b=>p b\/W.heap.size<=b) u8 (tyC k nv iv) (.mk k ns ts):=by
 have a2:=h.WU;have C:∀ b,(p b\/U.heap.size<=b)->b < u.heap.size->(p b\/W.heap.size<=b)/\u8.heap[b]?= u.heap[b]?:=fun b hp A=>by
  have X:b≠r:=fun e=>by
   subst e;rcases hp with h1|h1
   ·have:=h.pq _ h1;omega
   ·omega
  exact⟨hp.imp id fun h=>by omega,hb.block b A X X⟩
 refine z2T hk ?_ (by unfold maxLen;omega) ?_
 ·rcases h.nown.2 with ⟨rfl,h0⟩|⟨g,K,a0,Y,N,_,_⟩
  ·have:ns=[]:=List.eq_nil_of_length_eq_zero h0
   subst this;exact SlAt.nil _ _ _ _
  ·have G:nv.ownBlock= some g:=by rw[Y];rfl
   have A:=z0y h.nown G;refine⟨by omega,some ⟨g,0,none⟩,K,by rw[Y],fun _=>⟨g,0,rfl,Nat.lt_of_lt_of_le A hb.size,fun i s hx=>⟨[.string s],rfl,fun j c hc=> ?_,rfl,hs s (List.mem_of_getElem? hx)⟩⟩⟩;refine zx.2 ⟨(C g (.inr N) A).1,?_⟩;refine(World.cell?_of_block (a:=⟨g,_,none⟩) (C g (.inr N) A).2).trans ?_;have:=World.ownsRow.cells h.nown G (i*1+j) c (z0Z zca ns i _ hx j c hc);rw[Addr.add_mid] at this;rw[show 0+i*1+j= 0+ (i*1+j) by omega];exact this
 ·refine⟨by omega,?_⟩
  rcases h.iown.2 with ⟨rfl,h0⟩|⟨g,K,a0,Y,N,_,_⟩
  ·rw[h.len] at h0
   exact⟨none,0,by rw[← h0],fun h1=>by omega⟩
  ·have G:iv.ownBlock= some g:=by rw[Y];rfl
   have A:=z0y h.iown G;refine⟨some ⟨g,0,none⟩,K,by rw[Y,h.len],fun _=>⟨g,0,rfl,Nat.lt_of_lt_of_le A hb.size,fun i x hx=> ?_⟩⟩;have hi:=(List.getElem?_eq_some_iff.1 hx).1;have O:KL[i]?= some (KL[i]'(by rw[h.len];exact hi)):=List.getElem?_eq_getElem _;refine⟨_,(KL[i]'(by rw[h.len];exact hi)).2,fun j c hc=> ?_,?_⟩
   ·refine zx.2 ⟨(C g (.inr N) A).1,?_⟩
    refine(World.cell?_of_block (a:=⟨g,_,none⟩) (C g (.inr N) A).2).trans ?_;have:=World.ownsRow.cells h.iown G (i*3+j) c (z0Z z2Q KL i _ O j c hc);rw[Addr.add_mid] at this;rw[show 0+i*3+j= 0+ (i*3+j) by omega];exact this
   ·exact(h.els i _ x O hx).to (fun b hp A=>C b hp.1 A) hb.size
end
end
section
open Go Go.RowKit
mutual
def stT:TT->Bool
 | .mk k ns its=>(if k= 5 then ns.length ==0 && its.length ==1 else if k= 6 then ns.length ==its.length else ns.length ==0 && its.length ==0) && stL its
def stL:List TT->Bool
 |[]=>true
 |a::l=>stT a && stL l
end
theorem z52:∀ {l:List TT},stL l= true↔∀ x∈l,stT x= true
 |[]=>by simp[stL]
 |a::l=>by rw[stL,Bool.and_eq_true,z52];simp
theorem zft (t:TT):∀ d,zG t d= true->stT t= true:=by
 induction t using TT.ind with
 |h k ns its ih=>
  intro d h;rw[zG] at h;by_cases hd:12 < d
  ·rw[if_pos hd] at h;cases h
  rw[if_neg hd] at h;rw[stT,Bool.and_eq_true,z52];by_cases h5:k= 5
  ·rw[if_pos h5] at h ⊢
   simp only[Bool.and_eq_true,beq_iff_eq] at h ⊢;exact⟨⟨h.2.1,h.1⟩,fun x hx=>ih x hx _ (z19 h.2.2 x hx)⟩
  rw[if_neg h5] at h ⊢;by_cases h6:k= 6
  ·rw[if_pos h6] at h ⊢
   simp only[Bool.and_eq_true,beq_iff_eq] at h ⊢;exact⟨h.1,fun x hx=>ih x hx _ (z19 h.2.2 x hx)⟩
  rw[if_neg h6] at h ⊢;by_cases h7:k= 1\/k= 2\/k= 3\/k= 4\/k= 7
  ·rw[if_pos h7] at h
   simp only[Bool.and_eq_true,beq_iff_eq] at h ⊢;refine⟨h,fun x hx=> ?_⟩;rw[List.eq_nil_of_length_eq_zero h.2] at hx;cases hx
  ·rw[if_neg h7] at h;cases h
theorem z6X {t:TT} (h:typeT t= true):stT t= true:=by
 unfold typeT at h;rw[Bool.and_eq_true] at h;exact zft t 1 h.2
theorem z99 {k:Int} {ns:List ByteArray} {ia ib:List TT} (ha:stT (.mk k ns ia)= true) (hb:stT (.mk k ns ib)= true):ia.length= ib.length:=by
 rw[stT,Bool.and_eq_true] at ha hb;have ha:=ha.1;have hb:=hb.1;split at ha
 ·rw[if_pos (by assumption)] at hb
  simp only[Bool.and_eq_true,beq_iff_eq] at ha hb;omega
 ·rw[if_neg (by assumption)] at hb
  split at ha
  ·rw[if_pos (by assumption)] at hb
   simp only[beq_iff_eq] at ha hb;omega
  ·rw[if_neg (by assumption)] at hb
   simp only[Bool.and_eq_true,beq_iff_eq] at ha hb;omega
theorem z4t {ka kb:Int} {na nb:List ByteArray} {ia ib:List TT} (ha:stT (.mk ka na ia)= true) (hb:stT (.mk kb nb ib)= true) (h7:ka≠7) (h8:kb≠7):
  joinT (.mk ka na ia) (.mk kb nb ib)= if((ka ==kb) && eqN na nb)= true then(match z04 ia ib with|none=>none|some l=>some (.mk ka na l)) else none:=by
 rw[joinT,if_neg h7,if_neg h8];by_cases hk:ka= kb
 ·subst hk
  by_cases hn:na= nb
  ·subst hn
   have g:=z99 ha hb;have A:((ka ==ka) && eqN na na)= true:=by rw[Bool.and_eq_true,z1N];simp
   rw[if_neg (by simp[g]),if_neg (by simp),A];have h0:(if ka= 6 then na else[])= na:=by
    split
    ·rfl
    ·rename_i h6
     rw[stT,Bool.and_eq_true] at ha;have ha:=ha.1;rw[if_neg h6] at ha;split at ha
     ·simp only[Bool.and_eq_true,beq_iff_eq] at ha
      exact(List.eq_nil_of_length_eq_zero ha.1).symm
     ·simp only[Bool.and_eq_true,beq_iff_eq] at ha
      exact(List.eq_nil_of_length_eq_zero ha.1).symm
   simp only[h0,if_true];all_goals (cases z04 ia ib<;>rfl)
  ·have C:((ka ==ka) && eqN na nb)= false:=by
    rw[Bool.and_eq_false_iff];right;rw[Bool.eq_false_iff];intro h;exact hn (z1N.1 h)
   rw[C];by_cases g:ia.length= ib.length
   ·have h6:ka= 6:=by
     rcases Decidable.em (ka= 6) with h|h6
     ·exact h
     exfalso;apply hn;rw[stT,Bool.and_eq_true] at ha hb;have ha:=ha.1;have hb:=hb.1;rw[if_neg h6] at ha hb;have z1:na.length= 0:=by split at ha<;>(simp only[Bool.and_eq_true,beq_iff_eq] at ha;exact ha.1)
     have z2:nb.length= 0:=by split at hb<;>(simp only[Bool.and_eq_true,beq_iff_eq] at hb;exact hb.1)
     rw[List.eq_nil_of_length_eq_zero z1,List.eq_nil_of_length_eq_zero z2]
    rw[if_neg (by simp[g]),if_pos ⟨h6,hn⟩];rfl
   ·rw[if_pos (.inr g)];rfl
 ·rw[if_pos (.inl hk),if_neg]
  rw[Bool.and_eq_true,beq_iff_eq];exact fun h=>hk h.1
theorem zg1 (a:TT):∀ b t,stT a= true->stT b= true->joinT a b= some t->stT t= true:=by
 induction a using TT.ind with
 |h ka na ia ih=>
  intro b t A C h;cases b with
  |mk kb nb ib=>
   by_cases h7:ka= 7
   ·rw[joinT,if_pos h7] at h;injection h with h;subst h;exact C
   by_cases h8:kb= 7
   ·rw[joinT,if_neg h7,if_pos h8] at h;injection h with h;subst h;exact A
   rw[z4t A C h7 h8] at h;split at h
   ·cases hl:z04 ia ib with
    |none=>rw[hl] at h;cases h
    |some l=>
     rw[hl] at h;injection h with h;subst h;obtain⟨hn,G⟩:=z2m hl
     rename_i hc
     rw[Bool.and_eq_true,beq_iff_eq,z1N] at hc;obtain⟨rfl,rfl⟩:=hc;have O:=z99 A C;rw[stT,Bool.and_eq_true,z52] at A C ⊢;refine⟨by rw[hn];exact A.1,fun x hx=> ?_⟩;obtain⟨i,N⟩:=List.mem_iff_getElem?.1 hx;have a0:=(List.getElem?_eq_some_iff.1 N).1;obtain⟨y,K⟩:∃ y,ia[i]?= some y:=⟨_,List.getElem?_eq_getElem (by omega)⟩;obtain⟨z,X⟩:∃ z,ib[i]?= some z:=⟨_,List.getElem?_eq_getElem (by omega)⟩;obtain⟨t',g,Y⟩:=G i y z K X;rw[N] at g;injection g with g;subst g;exact ih y (List.mem_of_getElem? K) z x (A.2 y (List.mem_of_getElem? K)) (C.2 z (List.mem_of_getElem? X)) Y
   ·cases h
end
section
open Go Go.RowKit
theorem KeptT.inv {p:Nat->Prop} {w:World} {cs:List Value} {k:Int} {ns:List ByteArray} {its:List TT} (h:KeptT p w cs (.mk k ns its)):∃ NA nc A c,cs=[.int .i64 k,.slice NA ns.length nc,.slice A its.length c]/\wfI k/\
  (0 < ns.length->∃ b o,NA= some ⟨b,o,none⟩/\b < w.heap.size/\∀ (i:Nat) s,ns[i]?= some s->w.cell? ⟨b,o+i,none⟩= some (.string s))/\(∀ s∈ns,s.size<=maxLen)/\
  (0 < its.length->∃ b o,A= some ⟨b,o,none⟩/\b < w.heap.size/\∀ (i:Nat) x,its[i]?= some x->∃ ks:List Value,ks.length= 3/\w.rangeAt b (o+i*3) ks/\KeptT p w ks x):=by
 obtain⟨vn,vi,rfl,Y,X,_,K⟩:=TypAt.inv h;obtain⟨_,NA,nc,rfl,h1⟩:=X;obtain⟨_,A,c,rfl,h2⟩:=K;refine⟨NA,nc,A,c,rfl,Y,fun h0=> ?_,fun s hs=> ?_,fun h0=> ?_⟩
 ·obtain⟨b,o,e,G,C⟩:=h1 h0
  refine⟨b,o,e,G,fun i s hs=> ?_⟩;obtain⟨ks,O,N,g,_⟩:=C i s hs;have:=N 0 (.string s) (by rw[g];rfl);rw[Nat.mul_one,Nat.add_zero] at this;exact(zx.1 this).2
 ·obtain⟨i,K⟩:=List.mem_iff_getElem?.1 hs
  obtain⟨b,o,e,G,C⟩:=h1 (by have:=(List.getElem?_eq_some_iff.1 K).1;omega);obtain⟨ks,O,N,_,h⟩:=C i s K;exact h
 ·obtain⟨b,o,e,G,C⟩:=h2 h0
  refine⟨b,o,e,G,fun i x hx=> ?_⟩;obtain⟨ks,O,N,g⟩:=C i x hx;exact⟨ks,O,fun j v hv=>(zx.1 (N j v hv)).2,g⟩
theorem KeptT.next {p:Nat->Prop} {w u:World} {cs:List Value} {t:TT} (h:KeptT p w cs t) (hb:Below w.heap.size w u):KeptT p u cs t:=h.to (fun b hp hl=>⟨hp,hb.block b hl⟩) hb.size
theorem z5d:∀ {a b ts:List TT} {j:Nat} {x y t:TT},z04 (a.take j) (b.take j)= some ts->a[j]?= some x->b[j]?= some y->joinT x y= some t->z04 (a.take (j+1)) (b.take (j+1))= some (ts ++ [t])
 |[],_,_,_,_,_,_,_,hx,_,_=>by cases hx
 |_::_,[],_,_,_,_,_,_,_,hy,_=>by cases hy
 |a::l,b::r,ts,0,x,y,t,h,hx,hy,ht=>by
  simp only[List.getElem?_cons_zero,Option.some.injEq] at hx hy
  subst hx hy
  simp only[List.take_zero,z04,Option.some.injEq] at h
  subst h
  simp[z04,ht]
 |a::l,b::r,ts,j+1,x,y,t,h,hx,hy,ht=>by
  simp only[List.getElem?_cons_succ] at hx hy
  rw[List.take_succ_cons,List.take_succ_cons,z04] at h
  cases hab:joinT a b with
  |none=>rw[hab] at h;cases h
  |some u=>
   rw[hab] at h
   dsimp only at h
   cases hl:z04 (l.take j) (r.take j) with
   |none=>rw[hl] at h;cases h
   |some us=>
    rw[hl] at h
    injection h with h
    subst h
    rw[List.take_succ_cons,List.take_succ_cons,z04,hab]
    dsimp only
    rw[z5d hl hx hy ht]
    rfl
theorem z5e:∀ {a b:List TT} {j:Nat} {x y:TT},a[j]?= some x->b[j]?= some y->joinT x y= none->z04 a b= none
 |[],_,_,_,_,hx,_,_=>by cases hx
 |_::_,[],_,_,_,_,hy,_=>by cases hy
 |a::l,b::r,0,x,y,hx,hy,ht=>by
  simp only[List.getElem?_cons_zero,Option.some.injEq] at hx hy
  subst hx hy
  rw[z04,ht]
 |a::l,b::r,j+1,x,y,hx,hy,ht=>by
  simp only[List.getElem?_cons_succ] at hx hy
  rw[z04,z5e hx hy ht]
  all_goals cases joinT a b<;>rfl
end
section
open Go Go.RowKit
def errOk (e:Int):Prop:=e= 3\/e= 7\/e= 8\/e= 9
def zw (t:TT):Res->Prop
 | .ok v=>fitX v t= true
 | .error e=>errOk e
theorem z8E {k:Int} {n:Nat} (h:kidsB (z0V k) n= true):((k= 1\/k= 2)/\n= 0)\/((k= 3\/k= 4\/k= 18\/(20<=k/\k<=23))/\n= 1)\/(((5<=k/\k<=14)\/k= 19)/\n= 2)\/(k= 15/\n= 3)\/(k= 16\/k= 17):=by
 unfold kidsB at h;simp only[Bool.and_eq_true,Bool.not_eq_true',beq_eq_false_iff_ne,Bool.or_eq_true,decide_eq_true_eq,beq_iff_eq] at h;unfold z0V at h
 (repeat' split at h)<;>omega
theorem z4Z {E:List VarT}:∀ {its:List ET} {l:List TT},seqT (zY E its)= .ok l->l.length= its.length/\∀ (i:Nat) x t,its[i]?= some x->l[i]?= some t->z0a E x= .ok t
 |[],l,h=>by rw[zY,seqT] at h;injection h with h;subst h;exact⟨rfl,fun i x t hx=>by simp at hx⟩
 |a::its,l,h=>by
  rw[zY] at h
  cases h1:z0a E a with
  |error e=>rw[h1,seqT] at h;cases h
  |ok t=>
   rw[h1,seqT] at h
   cases h2:seqT (zY E its) with
   |error e=>rw[h2] at h;cases h
   |ok r=>
    rw[h2] at h
    injection h with h
    subst h
    obtain⟨h3,h4⟩:=z4Z h2
    refine⟨by simp[h3],fun i x u hx hu=> ?_⟩
    cases i with
    |zero=>simp at hx hu;subst hx hu;exact h1
    |succ i=>exact h4 i x u (by simpa using hx) (by simpa using hu)
theorem z6q {E:List VarT} {V:List VT}:∀ {its:List ET} {l:List TT},l.length= its.length->(∀ (i:Nat) x t,its[i]?= some x->l[i]?= some t->zw t (evalE E V x))->
  match seqR (zC E V its) with| .error e=>errOk e| .ok vs=>fitXL vs l= true
 |[],l,hl,h=>by
  obtain rfl:l=[]:=List.eq_nil_of_length_eq_zero hl
  rw[zC,seqR]
  show fitXL [] []= true
  rw[fitXL]
 |a::its,t::l,hl,h=>by
  have h0:=h 0 a t rfl rfl
  have ih:=z6q (E:=E) (V:=V) (its:=its) (l:=l) (by simpa using hl) fun i x t hx ht=>h (i+1) x t (by simpa using hx) (by simpa using ht)
  rw[zC]
  cases h1:evalE E V a with
  |error e=>rw[h1] at h0;rw[seqR];exact h0
  |ok v=>
   rw[h1] at h0
   rw[seqR]
   cases h2:seqR (zC E V its) with
   |error e=>rw[h2] at ih;exact ih
   |ok vs=>
    rw[h2] at ih
    show fitXL (v::vs) (t::l)= true
    rw[fitXL,Bool.and_eq_true]
    exact⟨h0,ih⟩
 |_::_,[],hl,h=>by simp at hl
theorem z0H {v:VT} {t:TT} (h:fitX v t= true):(match v with| .mk k _ _ _ _ _=>k)= kT t/\kT t≠7:=by
 cases v;cases t
 rw[fitX] at h;simp only[Bool.and_eq_true,beq_iff_eq,Bool.not_eq_true',beq_eq_false_iff_ne] at h;obtain⟨rfl,h,_⟩:=h;exact⟨rfl,h⟩
theorem z1q {k n:Int} {f:Nat} {s:ByteArray} {ns:List ByteArray} {its:List VT} (h:k≠7/\k≠5/\k≠6):fitX (.mk k n f s ns its) (pT k)= true:=by
 unfold pT;rw[fitX,if_neg h.2.1,if_neg h.2.2];simp[h.1]
theorem z7l {k n:Int} {f:Nat} {s:ByteArray} {ns:List ByteArray} {its:List VT} {t:TT} (hk:kT t= k) (h:k≠7/\k≠5/\k≠6):fitX (.mk k n f s ns its) t= true:=by
 cases t with
 |mk kt nt ts=>
  simp only[kT] at hk;subst hk;rw[fitX,if_neg h.2.1,if_neg h.2.2];simp[h.1]
theorem zbh {r:Res} {a b:TT} {k:Int} (h:zw a r) (ha:kT a= k) (hb:kT b= k) (hk:k≠7/\k≠5/\k≠6):zw b r:=by
 cases r with
 |error e=>exact h
 |ok v=>
  obtain⟨h1,_⟩:=z0H h;cases v with
  |mk kv n f s ns its=>
   simp only at h1;have e:kv= k:=h1.trans ha;subst e;exact z7l hb hk
theorem z40 {t:TT} {r:Res} (h:zw t r) (hk:kT t= 1):match boolR r with| .ok b=>r= r/\True| .error e=>errOk e:=by
 cases r with
 |error e=>exact h
 |ok v=>
  obtain⟨h1,_⟩:=z0H h;cases v with
  |mk k n f s ns its=>
   simp only at h1;rw[boolR,if_pos (h1.trans hk)];exact⟨rfl,trivial⟩
theorem z4o (b:Bool):fitX (vB b) (pT 1)= true:=by unfold vB;exact z1q (by decide)
theorem z5V (n:Int):fitX (vI n) (pT 2)= true:=by unfold vI;exact z1q (by decide)
theorem z4p (f:Nat):fitX (vF f) (pT 3)= true:=by unfold vF;exact z1q (by decide)
theorem zgS (s:ByteArray):fitX (vS s) (pT 4)= true:=by unfold vS;exact z1q (by decide)
theorem z3g {t:TT} {v:VT} (h:fitX v t= true):zw t (szd v):=by
 unfold szd;split
 ·exact h
 ·exact .inl rfl
theorem z3f (n:Int):zw (pT 2) ((okI n).map vI):=by
 unfold okI;split
 ·exact z5V n
 ·exact .inr (.inl rfl)
theorem z9U {k a b:Int}:zw (pT 2) ((z1D k a b).map vI):=by
 unfold z1D
 (repeat' split)
 ·exact z3f _
 ·exact z3f _
 ·exact z3f _
 ·exact .inr (.inr (.inl rfl))
 ·exact z5V _
 ·exact z3f _
theorem z98 {k:Int} {a b:Nat} (h:k= 5\/k= 6\/k= 7\/k= 8):zw (pT 3) ((z1a k a b).map vF):=by
 unfold z1a
 (repeat' split)
 ·exact z4p _
 ·exact z4p _
 ·exact z4p _
 ·exact z4p _
 ·omega
theorem z1K {k:Int} {s:ByteArray} {a:VT} {t u:TT} (hty:typeT t= true) (ha:fitX a t= true)
  (ho:(k= 3/\(kT t= 2\/kT t= 3)/\u= t)\/(k= 4/\kT t= 1/\u= t)\/(k= 18/\z3o s t= .ok u)\/(k= 20/\(kT t= 5\/kT t= 4)/\u= pT 2)\/(k= 21/\kT t= 2/\u= pT 3)\/(k= 22/\kT t= 3/\u= pT 2)\/(k= 23/\(kT t= 1\/kT t= 2\/kT t= 3\/kT t= 4)/\u= pT 4)):zw u (unV k s a):=by
 have g:=z0H ha;cases a with
 |mk kv n f sv ns its=>
 cases t with
 |mk kt nt ts=>
 simp only[kT] at g ho;obtain⟨rfl,O⟩:=g;rw[unV];rcases ho with ⟨rfl,g,rfl⟩|⟨rfl,g,rfl⟩|⟨rfl,A⟩|⟨rfl,g,rfl⟩|⟨rfl,g,rfl⟩|⟨rfl,g,rfl⟩|⟨rfl,g,rfl⟩
 ·rw[if_neg (by decide),if_neg (by decide),if_neg (by decide),if_neg (by decide),if_neg (by decide),if_neg (by decide)]
  by_cases h3:kv= 3
  ·subst h3
   rw[if_pos rfl];show fitX (vF _) _= true;unfold vF;rw[fitX,if_neg (by decide),if_neg (by decide)];rfl
  ·rw[if_neg h3]
   obtain rfl:kv= 2:=by omega
   rw[if_pos rfl];split
   ·exact .inr (.inl rfl)
   ·show fitX (vI _) _= true
    unfold vI;rw[fitX,if_neg (by decide),if_neg (by decide)];rfl
 ·subst g
  rw[if_neg (by decide),if_pos rfl,if_pos rfl];show fitX (vB _) _= true;unfold vB;rw[fitX,if_neg (by decide),if_neg (by decide)];rfl
 ·rw[if_pos rfl]
  rw[z3o] at A;by_cases h6:kv= 6
  ·subst h6
   rw[if_neg (by decide)] at A ⊢;rw[fitX,if_neg (by decide),if_pos rfl] at ha;simp only[Bool.and_eq_true,decide_eq_true_eq,z1j] at ha;obtain⟨_,_,rfl,Y,C⟩:=ha;by_cases hi:Lib.idxOfS ns s= -1
   ·rw[if_pos hi] at A;cases A
   ·rw[if_neg hi] at A ⊢
    injection A with A;subst A;have N:=z38 ns s;have K:zG (.mk 6 ns ts) 1= true:=by unfold typeT at hty;rw[Bool.and_eq_true] at hty;exact hty.2
    have X:=(z1U K).1;have G:(Lib.idxOfS ns s).toNat < its.length:=by omega
    ·show fitX (its.getD _ v0) (ts.getD _ (pT 0))= true
     refine C (Lib.idxOfS ns s).toNat _ _ ?_ ?_
     ·simp[List.getD,List.getElem?_eq_getElem G]
     ·simp[List.getD,List.getElem?_eq_getElem (show(Lib.idxOfS ns s).toNat < ts.length by omega)]
  ·rw[if_pos h6] at A;cases A
 ·rw[if_neg (by decide),if_neg (by decide),if_neg (by decide),if_neg (by decide),if_neg (by decide),if_pos rfl,if_pos g]
  exact z5V _
 ·rw[if_neg (by decide),if_neg (by decide),if_pos rfl,if_pos g]
  exact z4p _
 ·rw[if_neg (by decide),if_neg (by decide),if_neg (by decide),if_pos rfl,if_pos g]
  split
  ·exact z5V _
  ·exact .inl rfl
 ·rw[if_neg (by decide),if_neg (by decide),if_neg (by decide),if_neg (by decide),if_pos rfl]
  by_cases h4:kv= 4
  ·rw[if_pos h4]
   subst h4;exact z1q (by decide)
  ·rw[if_neg h4,if_pos (by omega)]
   exact zgS _
theorem zbi {k:Int} {a b:VT} {ta tb u:TT} (ha:fitX a ta= true) (hb:fitX b tb= true) (h1: ¬ (k= 13\/k= 14)) (ho:pairT k ta tb= .ok u):zw u (binV k a b):=by
 have Y:=z0H ha;have a0:=z0H hb;have N:=z2k a ta tb;have O:=z2k b ta tb;cases a with
 |mk ka na fa sa nsa ia=>
 cases b with
 |mk kb nb fb sb nsb ib=>
 simp only at Y a0;obtain⟨rfl,a5⟩:=Y;obtain⟨rfl,a4⟩:=a0;unfold pairT at ho;simp only at ho;have X: ¬ k= 19:=by
  rintro rfl;simp at ho
 rw[binV,if_neg X];have G:∀ {t:TT},(kT t= 2\/kT t= 3)->kT ta= kT t->kT tb= kT t->5<=k->k<=9->(kT t= 3->k<=8)->zw (pT (kT t)) (if kT ta≠kT tb then Except.error 6 else if k= 10 then .ok (vB (eqV (.mk (kT ta) na fa sa nsa ia) (.mk (kT tb) nb fb sb nsb ib))) else if k= 11\/k= 12 then(lessZ (k ==12) (.mk (kT ta) na fa sa nsa ia) (.mk (kT tb) nb fb sb nsb ib)).map vB else if kT ta= 2 then(z1D k na nb).map vI else if kT ta= 3 then(z1a k fa fb).map vF else if k= 5/\(kT ta= 4\/kT ta= 5) then szd (.mk (kT ta) 0 0 (sa ++ sb) [] (ia ++ ib)) else .error 6):=by
  intro t ht e1 e2 l1 l2 l3;rw[if_neg (by rw[e1,e2];simp),if_neg (by omega),if_neg (by omega)];rcases ht with h2|h3
  ·rw[if_pos (e1.trans h2),h2]
   exact z9U
  ·rw[if_neg (by omega),if_pos (e1.trans h3),h3]
   have:=l3 h3;exact z98 (by omega)
 by_cases k5:k= 5
 ·subst k5
  rw[if_pos rfl] at ho;cases hj:joinT ta tb with
  |none=>rw[hj] at ho;cases ho
  |some t=>
   rw[hj] at ho;simp only at ho;split at ho
   ·rename_i A
    injection ho with ho;subst ho;have g:=N t hj (.inl ha);have C:=O t hj (.inr hb);have K:=z0H g;simp only at K;rcases A with A|A|A
    ·have:=G (t:=ta) (by omega) rfl (by omega) (by omega) (by omega) (by omega)
     exact zbh this rfl K.1.symm (by rcases A with h|h<;>(rw[h.1];decide))
    ·rw[if_neg (by omega),if_neg (by decide),if_neg (by decide),if_neg (by omega),if_neg (by omega),if_pos (by omega)]
     refine z3g ?_;exact z7l K.1.symm (by omega)
    ·rw[if_neg (by omega),if_neg (by decide),if_neg (by decide),if_neg (by omega),if_neg (by omega),if_pos (by omega)]
     refine z3g ?_;have e1:=A.1;have e2:=A.2;rw[e1] at g ⊢;rw[e2] at C;cases t with
     |mk kt nt ts=>
      rw[fitX,if_pos rfl] at g C ⊢;simp only[Bool.and_eq_true] at g C ⊢;refine⟨g.1,g.2.1,?_⟩;cases ts with
      |nil=>
       have h1:=g.2.2;have h2:=C.2.2;rw[z1O] at h1 h2 ⊢;rw[h1,h2];rfl
      |cons t0 r=>
       have h1:=g.2.2;have h2:=C.2.2;rw[z0G] at h1 h2 ⊢;intro x hx;rcases List.mem_append.1 hx with hx|hx
       ·exact h1 x hx
       ·exact h2 x hx
   ·cases ho
 rw[if_neg k5] at ho;by_cases k6:k= 6\/k= 7\/k= 8
 ·rw[if_pos k6] at ho
  split at ho
  ·rename_i A
   injection ho with ho;subst ho;exact G (t:=ta) (by omega) rfl (by omega) (by omega) (by omega) (by omega)
  ·cases ho
 rw[if_neg k6] at ho;by_cases k9:k= 9
 ·rw[if_pos k9] at ho
  split at ho
  ·rename_i A
   injection ho with ho;subst ho;have:=G (t:=ta) (by omega) rfl (by omega) (by omega) (by omega) (by omega);rw[A.1] at this ⊢;exact this
  ·cases ho
 rw[if_neg k9] at ho;by_cases k10:k= 10
 ·rw[if_pos k10] at ho
  split at ho
  ·rename_i A
   injection ho with ho;subst ho;have a3:kT ta= kT tb:=by
    obtain⟨t,ht⟩:=Option.isSome_iff_exists.1 A;have h1:=(z0H (N t ht (.inl ha))).1;have h2:=(z0H (O t ht (.inr hb))).1;simp only at h1 h2;omega
   rw[if_neg (by simpa using a3),if_pos k10];exact z4o _
  ·cases ho
 rw[if_neg k10] at ho;by_cases k11:k= 11\/k= 12
 ·rw[if_pos k11] at ho
  split at ho
  ·rename_i A
   injection ho with ho;subst ho;rw[if_neg (by simp;omega),if_neg k10,if_pos k11];unfold lessZ;simp only;by_cases h3:kT ta= 3
   ·rw[if_pos h3];exact z4o _
   ·rw[if_neg h3,if_pos (by omega)];exact z4o _
  ·cases ho
 rw[if_neg k11,if_neg h1] at ho;cases ho
theorem z7q:∀ (l:List TT) (t u:TT) (v:VT),foldT t l= some u->(fitX v t= true\/∃ a∈l,fitX v a= true)->fitX v u= true
 |[],t,u,v,h,hf=>by
  rw[foldT] at h;injection h with h;subst h
  rcases hf with h|⟨a,ha,_⟩
  ·exact h
  ·cases ha
 |a::l,t,u,v,h,hf=>by
  rw[foldT] at h
  cases hj:joinT t a with
  |none=>rw[hj] at h;cases h
  |some x=>
   rw[hj] at h
   refine z7q l x u v h ?_
   rcases hf with h1|⟨b,hb,h1⟩
   ·exact .inl (z2k v t a x hj (.inl h1))
   ·rcases List.mem_cons.1 hb with rfl|hb
    ·exact .inl (z2k v t b x hj (.inr h1))
    ·exact .inr ⟨b,hb,h1⟩
theorem z2d {E:List VarT} {k:Int} {s:ByteArray} {v:VT} {ns:List ByteArray} {its:List ET} {t:TT} (h:z0a E (.mk k s v ns its)= .ok t):∃ l,seqT (zY E its)= .ok l/\ownT E k s v ns l= .ok t/\typeT t= true:=by
 rw[z0a] at h;cases h1:seqT (zY E its) with
 |error e=>rw[h1] at h;cases h
 |ok l=>
  rw[h1] at h;simp only at h;cases h2:ownT E k s v ns l with
  |error e=>rw[h2] at h;cases h
  |ok u=>
   rw[h2] at h;simp only at h;split at h
   ·injection h with h;subst h;exact⟨l,rfl,h2,by assumption⟩
   ·cases h
theorem zaK {v:VT} (h:z0l v= true):kV v= 1\/kV v= 2\/kV v= 3\/kV v= 4:=by
 cases v with
 |mk k n f s ns its=>
  unfold z0l at h;simp only[Bool.and_eq_true,Bool.or_eq_true,beq_iff_eq] at h;rcases h.1 with h|h|h|h
  ·exact .inl h
  ·exact .inr (.inr (.inr h))
  ·exact .inr (.inl h.1)
  ·exact .inr (.inr (.inl h.1))
section
variable {E:List VarT} {V:List VT} {s:ByteArray} {v:VT} {ns:List ByteArray} {t:TT}
theorem if_ok {c:Prop} [Decidable c] {α:Type} {a b:α} {e:Int} (h:(if c then Except.ok a else Except.error e)= .ok b):c/\a= b:=by
 by_cases hc:c
 ·rw[if_pos hc] at h;injection h with h;exact⟨hc,h⟩
 ·rw[if_neg hc] at h;cases h
theorem z1J {k:Int} {a:ET} {ta u:TT} (h: ¬ k= 1/\¬ k= 2/\¬ (k= 13\/k= 14\/k= 15)/\¬ k= 16/\¬ k= 17) (h0:zw ta (evalE E V a)) (hu:∀ va,fitX va ta= true->zw u (unV k s va)):zw u (evalE E V (.mk k s v ns [a])):=by
 rw[evalE,zC,zC,if_neg h.1,if_neg h.2.1,if_neg h.2.2.1];cases hea:evalE E V a with
 |error e=>rw[hea] at h0;exact h0
 |ok va=>
  rw[hea] at h0;show zw u (combR k s ns [va]);rw[combR,if_neg h.2.2.2.1,if_neg h.2.2.2.2];exact hu va h0
theorem zfm {a:ET} {ta:TT} (h0:zw ta (evalE E V a)) (h1:typeT ta= true) (ho:ownT E 3 s v ns [ta]= .ok t):zw t (evalE E V (.mk 3 s v ns [a])):=by
 have ho2:(if(kT ta= 2\/kT ta= 3) then Except.ok (ta) else Except.error (6:Int))= Except.ok t:=ho;obtain⟨hc,rfl⟩:=if_ok ho2;exact z1J (by decide) h0 fun va hv=>z1K h1 hv (.inl ⟨rfl,hc,rfl⟩)
theorem zfn {a:ET} {ta:TT} (h0:zw ta (evalE E V a)) (h1:typeT ta= true) (ho:ownT E 4 s v ns [ta]= .ok t):zw t (evalE E V (.mk 4 s v ns [a])):=by
 have ho2:(if(kT ta= 1) then Except.ok (ta) else Except.error (6:Int))= Except.ok t:=ho;obtain⟨hc,rfl⟩:=if_ok ho2;exact z1J (by decide) h0 fun va hv=>z1K h1 hv (.inr (.inl ⟨rfl,hc,rfl⟩))
theorem zdh {a:ET} {ta:TT} (h0:zw ta (evalE E V a)) (h1:typeT ta= true) (ho:ownT E 20 s v ns [ta]= .ok t):zw t (evalE E V (.mk 20 s v ns [a])):=by
 have g:(if(kT ta= 5\/kT ta= 4) then Except.ok (pT 2) else Except.error (6:Int))= Except.ok t:=ho;obtain⟨A,rfl⟩:=if_ok g;exact z1J (by decide) h0 fun va hv=>z1K h1 hv (.inr (.inr (.inr (.inl ⟨rfl,A,rfl⟩))))
theorem zdi {a:ET} {ta:TT} (h0:zw ta (evalE E V a)) (h1:typeT ta= true) (ho:ownT E 21 s v ns [ta]= .ok t):zw t (evalE E V (.mk 21 s v ns [a])):=by
 have g:(if(kT ta= 2) then Except.ok (pT 3) else Except.error (6:Int))= Except.ok t:=ho;obtain⟨A,rfl⟩:=if_ok g;exact z1J (by decide) h0 fun va hv=>z1K h1 hv (.inr (.inr (.inr (.inr (.inl ⟨rfl,A,rfl⟩)))))
theorem zdj {a:ET} {ta:TT} (h0:zw ta (evalE E V a)) (h1:typeT ta= true) (ho:ownT E 22 s v ns [ta]= .ok t):zw t (evalE E V (.mk 22 s v ns [a])):=by
 have g:(if(kT ta= 3) then Except.ok (pT 2) else Except.error (6:Int))= Except.ok t:=ho;obtain⟨A,rfl⟩:=if_ok g;exact z1J (by decide) h0 fun va hv=>z1K h1 hv (.inr (.inr (.inr (.inr (.inr (.inl ⟨rfl,A,rfl⟩))))))
theorem zdk {a:ET} {ta:TT} (h0:zw ta (evalE E V a)) (h1:typeT ta= true) (ho:ownT E 23 s v ns [ta]= .ok t):zw t (evalE E V (.mk 23 s v ns [a])):=by
 have g:(if(kT ta= 1\/kT ta= 2\/kT ta= 3\/kT ta= 4) then Except.ok (pT 4) else Except.error (6:Int))= Except.ok t:=ho;obtain⟨A,rfl⟩:=if_ok g;exact z1J (by decide) h0 fun va hv=>z1K h1 hv (.inr (.inr (.inr (.inr (.inr (.inr ⟨rfl,A,rfl⟩))))))
theorem zdf {a:ET} {ta:TT} (h0:zw ta (evalE E V a)) (h1:typeT ta= true) (ho:ownT E 18 s v ns [ta]= .ok t):zw t (evalE E V (.mk 18 s v ns [a])):=by
 have ho2:z3o s ta= Except.ok t:=ho;exact z1J (by decide) h0 fun va hv=>z1K h1 hv (.inr (.inr (.inl ⟨rfl,ho2⟩)))
theorem z9T {k:Int} (hk:k= 13\/k= 14) {a b:ET} {ta tb:TT} (h0:zw ta (evalE E V a)) (h1:zw tb (evalE E V b)) (ho:(if kT ta= 1/\kT tb= 1 then Except.ok (pT 1) else Except.error (6:Int))= Except.ok t):zw t (evalE E V (.mk k s v ns [a,b])):=by
 obtain⟨g,rfl⟩:=if_ok ho;have s0:=z40 h0 g.1;have s1:=z40 h1 g.2;rw[evalE,zC,zC,zC,if_neg (by omega),if_neg (by omega),if_pos (by omega)];unfold lazyR;show zw (pT 1) (match boolR (evalE E V a) with| .error e=> .error e| .ok b0=>_);cases hba:boolR (evalE E V a) with
 |error e=>rw[hba] at s0;exact s0
 |ok ba=>
  simp only;rw[if_neg (by omega)];split
  ·exact z4o _
  ·show zw (pT 1) ((boolR (evalE E V b)).map vB)
   cases hbb:boolR (evalE E V b) with
   |error e=>rw[hbb] at s1;exact s1
   |ok bb=>exact z4o _
theorem z7i {k:Int} {a b:ET} {ta tb u:TT} (h: ¬ k= 1/\¬ k= 2/\¬ (k= 13\/k= 14\/k= 15)/\¬ k= 16/\¬ k= 17) (h0:zw ta (evalE E V a)) (h1:zw tb (evalE E V b)) (hu:∀ va vb,fitX va ta= true->fitX vb tb= true->zw u (binV k va vb)):zw u (evalE E V (.mk k s v ns [a,b])):=by
 rw[evalE,zC,zC,zC,if_neg h.1,if_neg h.2.1,if_neg h.2.2.1];cases hea:evalE E V a with
 |error e=>rw[hea] at h0;exact h0
 |ok va=>
  rw[hea] at h0;cases heb:evalE E V b with
  |error e=>rw[heb] at h1;exact h1
  |ok vb=>
   rw[heb] at h1;show zw u (combR k s ns [va,vb]);rw[combR,if_neg h.2.2.2.1,if_neg h.2.2.2.2];exact hu va vb h0 h1
theorem zdd {ta tb:TT} {va vb:VT} (hc:kT ta= 5/\kT tb= 2/\kT (item0 ta)≠7) (ha:fitX va ta= true) (hb:fitX vb tb= true):zw (item0 ta) (binV 19 va vb):=by
 have C:=z0H ha;have g:=z0H hb;cases va with
 |mk ka na fa sa nsa ia=>
 cases vb with
 |mk kb nb fb sb nsb ib=>
 cases ta with
 |mk kt nt ts=>
 simp only[kT] at C hc;simp only at g;obtain⟨rfl,_⟩:=C;obtain⟨g,_⟩:=g;obtain⟨rfl,G,K⟩:=hc;rw[binV,if_pos rfl,if_pos ⟨rfl,g.trans G⟩];by_cases hn:0<=nb/\nb <(ia.length:Int)
 ·rw[if_pos hn]
  have A:nb.toNat < ia.length:=by omega
  rw[fitX,if_pos rfl] at ha;simp only[Bool.and_eq_true] at ha;have h5:=ha.2.2;cases ts with
  |nil=>rw[z1O] at h5;rw[h5] at A;simp at A
  |cons t0 r=>
   rw[z0G] at h5;show fitX (ia.getD _ v0) t0= true;have:ia.getD nb.toNat v0= ia[nb.toNat]:=by simp[List.getD,List.getElem?_eq_getElem A]
   rw[this];exact h5 _ (List.getElem_mem A)
 ·rw[if_neg hn]
  exact .inr (.inr (.inr rfl))
theorem zdg {a b:ET} {ta tb:TT} (h0:zw ta (evalE E V a)) (h1:zw tb (evalE E V b)) (ho:ownT E 19 s v ns [ta,tb]= .ok t):zw t (evalE E V (.mk 19 s v ns [a,b])):=by
 have g:(if kT ta= 5/\kT tb= 2/\kT (item0 ta)≠7 then Except.ok (item0 ta) else Except.error (6:Int))= Except.ok t:=ho;obtain⟨A,rfl⟩:=if_ok g;exact z7i (by decide) h0 h1 fun va vb ha hb=>zdd A ha hb
theorem zdm {k:Int} (hk:5<=k/\k<=14) {a b:ET} {ta tb:TT} (h0:zw ta (evalE E V a)) (h1:zw tb (evalE E V b)) (ho:ownT E k s v ns [ta,tb]= .ok t):zw t (evalE E V (.mk k s v ns [a,b])):=by
 have g:pairT k ta tb= .ok t:=by
  unfold ownT at ho;rw[if_neg (by omega),if_neg (by omega),if_neg (by omega),if_neg (by omega),if_neg (by omega),if_neg (by omega),if_neg (by omega),if_neg (by omega),if_neg (by omega),if_neg (by omega),if_neg (by omega),if_neg (by omega),if_neg (by omega)] at ho;exact ho
 by_cases h13:k= 13\/k= 14
 ·refine z9T h13 h0 h1 ?_
  unfold pairT at g;simp only at g;rw[if_neg (by omega),if_neg (by omega),if_neg (by omega),if_neg (by omega),if_neg (by omega),if_pos h13] at g;exact g
 ·exact z7i (by omega) h0 h1 fun va vb ha hb=>zbi ha hb h13 g
theorem zde {a b c:ET} {ta tb tc:TT} (h0:zw ta (evalE E V a)) (h1:zw tb (evalE E V b)) (h2:zw tc (evalE E V c)) (ho:ownT E 15 s v ns [ta,tb,tc]= .ok t):zw t (evalE E V (.mk 15 s v ns [a,b,c])):=by
 have g:(match joinT tb tc with|some t=>if kT ta= 1 then Except.ok t else Except.error 6|none=>Except.error (6:Int))= Except.ok t:=ho;cases hj:joinT tb tc with
 |none=>rw[hj] at g;cases g
 |some u=>
  rw[hj] at g;obtain⟨C,rfl⟩:=if_ok g;have s0:=z40 h0 C;rw[evalE,zC,zC,zC,zC,if_neg (by decide),if_neg (by decide),if_pos (by decide)];unfold lazyR;show zw u (match boolR (evalE E V a) with| .error e=> .error e| .ok b0=>_);have A:∀ {r:Res} {w:TT},zw w r->(w= tb\/w= tc)->zw u r:=fun{r w} hr hw=>by
   cases r with
   |error e=>exact hr
   |ok v=>exact z2k v tb tc u hj (by rcases hw with rfl|rfl;exact .inl hr;exact .inr hr)
  cases hba:boolR (evalE E V a) with
  |error e=>rw[hba] at s0;exact s0
  |ok ba=>
   simp only;rw[if_pos trivial];cases ba with
   |true=>exact A h1 (.inl rfl)
   |false=>exact A h2 (.inr rfl)
theorem zdl {k:Int} (hk:k= 16\/k= 17) {its:List ET} {l:List TT} (SEQ:match seqR (zC E V its) with| .error e=>errOk e| .ok vs=>fitXL vs l= true) (ho:ownT E k s v ns l= .ok t):zw t (evalE E V (.mk k s v ns its)):=by
 rw[evalE,if_neg (by omega),if_neg (by omega),if_neg (by omega)];cases hsr:seqR (zC E V its) with
 |error e=>rw[hsr] at SEQ;exact SEQ
 |ok vs=>
  rw[hsr] at SEQ;show zw t (combR k s ns vs);unfold combR;have K:=z1j.1 SEQ;rcases hk with rfl|rfl
  ·have g:(match foldT (pT 7) l with|some t=>Except.ok (TT.mk 5 [] [t])|none=>Except.error (6:Int))= Except.ok t:=ho
   rw[if_pos rfl];cases hj:foldT (pT 7) l with
   |none=>rw[hj] at g;cases g
   |some u=>
    rw[hj] at g;injection g with g;subst g;refine z3g ?_;rw[fitX,if_pos rfl];simp only[Bool.and_eq_true];refine⟨rfl,rfl,?_⟩;rw[z0G];intro y N;obtain⟨i,C⟩:=List.mem_iff_getElem?.1 N;have G:=(List.getElem?_eq_some_iff.1 C).1;have A:i < l.length:=by omega
    exact z7q l _ u y hj (.inr ⟨l[i],List.getElem_mem A,K.2 i y _ C (List.getElem?_eq_getElem A)⟩)
  ·have g:Except.ok (TT.mk 6 ns l)=(Except.ok t:Except Int TT):=ho
   injection g with g;subst g;rw[if_neg (by decide),if_pos rfl];refine z3g ?_;rw[fitX,if_neg (by decide),if_pos rfl];simp only[Bool.and_eq_true,decide_eq_true_eq];simp[SEQ]
end
theorem len1 {α:Type} {l:List α} (h:l.length= 1):∃ a,l=[a]:=by
 match l,h with
 |[a],_=>exact⟨a,rfl⟩
theorem len2 {α:Type} {l:List α} (h:l.length= 2):∃ a b,l=[a,b]:=by
 match l,h with
 |[a,b],_=>exact⟨a,b,rfl⟩
theorem len3 {α:Type} {l:List α} (h:l.length= 3):∃ a b c,l=[a,b,c]:=by
 match l,h with
 |[a,b,c],_=>exact⟨a,b,c,rfl⟩
theorem sound {E:List VarT} {V:List VT} (hV:∀ (i:Nat) x,E[i]?= some x->∃ v,V[i]?= some v/\fitX v x.type= true) (x:ET):∀ d t,z0h x d= true->z0a E x= .ok t->zw t (evalE E V x):=by
 induction x using ET.ind with
 |h k s v ns its ih=>
  intro d t hr hc;rw[z0h] at hr;simp only[Bool.and_eq_true,decide_eq_true_eq] at hr;obtain⟨_,A,_,G,a0⟩:=hr;rw[z2g] at a0;obtain⟨l,hs,C,a7⟩:=z2d hc;obtain⟨hl,Y⟩:=z4Z hs;have K:∀ (i:Nat) x t,its[i]?= some x->l[i]?= some t->zw t (evalE E V x):=fun i x t hx ht=>ih x (List.mem_of_getElem? hx) (d+1) t (a0 x (List.mem_of_getElem? hx)) (Y i x t hx ht);have N:∀ (i:Nat) x t,its[i]?= some x->l[i]?= some t->typeT t= true:=fun i x t hx ht=>by
   have:=Y i x t hx ht;cases x with
   |mk k' s' v' ns' its'=>obtain⟨_,_,_,h⟩:=z2d this;exact h
  have O:=z6q hl K;clear ih hc hs Y a7 a0;have a5:=z8E A;clear A;rcases a5 with ⟨A,_⟩|⟨A,X⟩|⟨A,X⟩|⟨rfl,X⟩|A
  ·clear K N O hl
   rw[evalE];rcases A with rfl|rfl
   ·rw[if_pos rfl]
    have g:Except.ok (pT (kV v))=(Except.ok t:Except Int TT):=C;injection g with g;subst g;unfold valB at G;rw[if_pos rfl] at G;have a3:=zaK G;cases v with
    |mk kv n f s' ns' its'=>
     show fitX (z01 _) (pT kv)= true;rw[zbW];have a9:kv= 1\/kv= 2\/kv= 3\/kv= 4:=a3;exact z1q (by omega)
   ·rw[if_neg (by decide),if_pos rfl]
    have g:(if findV E s= -1 then Except.error (11:Int) else match E[(findV E s).toNat]? with|some x=>Except.ok x.type|none=>Except.error (11:Int))=(Except.ok t:Except Int TT):=C;unfold nameR;by_cases hf:findV E s= -1
    ·rw[if_pos hf] at g;cases g
    ·rw[if_neg hf] at g ⊢
     cases hx:E[(findV E s).toNat]? with
     |none=>rw[hx] at g;cases g
     |some y=>
      rw[hx] at g;injection g with g;subst g;obtain⟨u,hu,a4⟩:=hV _ y hx;rw[hu];show fitX (z01 u) _= true;rw[zbW];exact a4
  ·obtain⟨a,rfl⟩:=len1 X
   obtain⟨ta,rfl⟩:=len1 (hl.trans X);have h0:=K 0 a ta rfl rfl;have h1:=N 0 a ta rfl rfl;clear K N O;rcases A with rfl|rfl|rfl|A
   ·exact zfm h0 h1 C
   ·exact zfn h0 h1 C
   ·exact zdf h0 h1 C
   ·have A:k= 20\/k= 21\/k= 22\/k= 23:=by omega
    rcases A with rfl|rfl|rfl|rfl
    ·exact zdh h0 h1 C
    ·exact zdi h0 h1 C
    ·exact zdj h0 h1 C
    ·exact zdk h0 h1 C
  ·obtain⟨a,b,rfl⟩:=len2 X
   obtain⟨ta,tb,rfl⟩:=len2 (hl.trans X);have h0:=K 0 a ta rfl rfl;have h1:=K 1 b tb rfl rfl;clear K N O;rcases A with A|rfl
   ·exact zdm A h0 h1 C
   ·exact zdg h0 h1 C
  ·obtain⟨a,b,c,rfl⟩:=len3 X
   obtain⟨ta,tb,tc,rfl⟩:=len3 (hl.trans X);have h0:=K 0 a ta rfl rfl;have h1:=K 1 b tb rfl rfl;have h2:=K 2 c tc rfl rfl;exact zde h0 h1 h2 C
  ·exact zdl A O C
end
section
open Go Go.RowKit
def RowA (p:Nat->Prop) (w:World) (v:Value) (l:List TT):Prop:=SlAt (only w p) w.heap.size 3 (TypAt (only w p) w.heap.size) v l
theorem RowA.inv {p:Nat->Prop} {w:World} {v:Value} {l:List TT} (h:RowA p w v l):∃ A c,v= .slice A l.length c/\(0 < l.length->∃ b o,A= some ⟨b,o,none⟩/\b < w.heap.size/\∀ (i:Nat) x,l[i]?= some x->∃ ks:List Value,ks.length= 3/\w.rangeAt b (o+i*3) ks/\KeptT p w ks x):=by
 obtain⟨_,A,c,rfl,h2⟩:=h;refine⟨A,c,rfl,fun h0=> ?_⟩;obtain⟨b,o,e,hb,hc⟩:=h2 h0;refine⟨b,o,e,hb,fun i x hx=> ?_⟩;obtain⟨ks,hl,hr,hks⟩:=hc i x hx;exact⟨ks,hl,fun j v hv=>(zx.1 (hr j v hv)).2,hks⟩
theorem RowA.to {p q:Nat->Prop} {w w':World} {v:Value} {l:List TT} (h:RowA p w v l) (hb:∀ b,p b->b < w.heap.size->q b/\w'.heap[b]?= w.heap[b]?) (hs:w.heap.size<=w'.heap.size):RowA q w' v l:=by
 obtain⟨h0,A,c,rfl,h1⟩:=h;refine⟨h0,A,c,rfl,fun hp=> ?_⟩;obtain⟨b,o,rfl,g,h2⟩:=h1 hp;refine⟨b,o,rfl,Nat.lt_of_lt_of_le g hs,fun i x hx=> ?_⟩;obtain⟨cs,h3,h4,h5⟩:=h2 i x hx;exact⟨cs,h3,fun j v hv=>z3O hb _ _ (h4 j v hv),KeptT.to (show KeptT p w cs x from h5) hb hs⟩
theorem RowA.next {p:Nat->Prop} {w u:World} {v:Value} {l:List TT} (h:RowA p w v l) (hb:Below w.heap.size w u):RowA p u v l:=h.to (fun b hp hl=>⟨hp,hb.block b hl⟩) hb.size
theorem KeptT.kind {p:Nat->Prop} {w:World} {cs:List Value} {t:TT} (h:KeptT p w cs t):cs[0]?= some (.int .i64 (kT t))/\wfI (kT t):=by
 cases t with
 |mk k ns its=>
  obtain⟨NA,nc,A,c,rfl,hk,_⟩:=h.inv;exact⟨rfl,hk⟩
theorem RowA.at {p:Nat->Prop} {w:World} {A:Option Addr} {n c:Nat} {l:List TT} (h:RowA p w (.slice A n c) l) (hl:0 < l.length):n= l.length/\∃ b o,A= some ⟨b,o,none⟩/\b < w.heap.size/\∀ (i:Nat) x,l[i]?= some x->∃ ks:List Value,ks.length= 3/\w.rangeAt b (o+i*3) ks/\KeptT p w ks x:=by
 obtain⟨A2,c2,e,h2⟩:=h.inv;injection e with e1 e2 e3;subst e1 e2 e3;exact⟨rfl,h2 hl⟩
def lf (t:TT):Prop:=kT t= 5\/kT t= 6\/t= pT (kT t)
theorem zai {ta tb:TT} {m:Int} (ha:lf ta) (hb:lf tb) (h1:kT ta= m) (h2:kT tb= m) (hm:m= 1\/m= 2\/m= 3\/m= 4):joinT ta tb= some (pT m):=by
 have e1:ta= pT m:=by
  rcases ha with h|h|h
  ·omega
  ·omega
  ·rw[h,h1]
 have e2:tb= pT m:=by
  rcases hb with h|h|h
  ·omega
  ·omega
  ·rw[h,h2]
 subst e1 e2;rcases hm with rfl|rfl|rfl|rfl<;>rfl
def itT:TT->List TT
 | .mk _ _ its=>its
def tok (t:TT):Prop:=jok t= true/\lf t/\(kT t= 5->∃ a,itT t=[a])
structure OwnArgs (p:Nat->Prop) (w:World) (ce:List Value) (vr va:Value) (E:List VarT) (k:Int) (s:ByteArray) (v:VT) (ns:List ByteArray) (l:List TT):Prop where
 ex:∃ its,KeptP p w ce (.mk k s v ns its)
 row:RowA p w vr l
 vars:SlAt (only w p) w.heap.size 11 (VarAt (only w p) w.heap.size) va E
 elen:E.length<=10000
 llen:l.length<=1000
 lo:∀ b,p b->b < w.heap.size
 oks:∀ t∈l,tok t
theorem OwnArgs.cells {p:Nat->Prop} {w:World} {ce:List Value} {vr va:Value} {E:List VarT} {k:Int} {s:ByteArray} {v:VT} {ns:List ByteArray} {l:List TT} (h:OwnArgs p w ce vr va E k s v ns l):
  ce[0]?= some (.int .i64 k)/\ce[1]?= some (.string s)/\ce[2]?= some (.int .i64 (kV v))/\wfI (kV v)/\ce.length= 10/\∃ vn,ce[8]?= some vn/\SlAt (only w p) w.heap.size 1 StrR vn ns:=by
 obtain⟨K,G⟩:=h.ex;obtain⟨c0,c1,c2,c3,c4,c5,vn,vi,rfl,X,Y,C,A,_,_⟩:=ExpAt.inv G;cases v with
 |mk kv n f sv nsv itv=>
  obtain⟨O,N,e,g,_⟩:=ValAt.inv C;injection e with e _;subst e;exact⟨rfl,rfl,rfl,g,rfl,vn,rfl,A⟩
theorem VarAt.cells {w w':World} {B:Nat} {cs:List Value} {x:VarT} (h:VarAt w B cs x) (hb:∀ a v,w.cell? a= some v->w'.cell? a= some v):VarAt w' B cs x:=by
 obtain⟨⟨ct,ci,e,h1,h2,h3,h4⟩,h5,h6⟩:=h;exact⟨⟨ct,ci,e,h1,h2,TypAt.cells h3 hb,ValAt.cells h4 hb⟩,h5,h6⟩
theorem z4K {p:Nat->Prop} {w u:World} {v:Value} {E:List VarT} (h:SlAt (only w p) w.heap.size 11 (VarAt (only w p) w.heap.size) v E) (hb:Below w.heap.size w u):SlAt (only u p) u.heap.size 11 (VarAt (only u p) u.heap.size) v E:=by
 have C:∀ a v,(only w p).cell? a= some v->(only u p).cell? a= some v:=z3O fun b hp hl=>⟨hp,hb.block b hl⟩;obtain⟨h0,A,c,rfl,h1⟩:=h;refine⟨h0,A,c,rfl,fun hp=> ?_⟩;obtain⟨b,o,rfl,g,h2⟩:=h1 hp;refine⟨b,o,rfl,Nat.lt_of_lt_of_le g hb.size,fun i x hx=> ?_⟩;obtain⟨cs,h3,h4,h5⟩:=h2 i x hx;exact⟨cs,h3,fun j v hv=>C _ _ (h4 j v hv),(h5.cells C).more hb.size⟩
theorem zfy {p:Nat->Prop} {w:World} {v:Value} {E:List VarT} (h:SlAt (only w p) w.heap.size 11 (VarAt (only w p) w.heap.size) v E):SlAt w w.heap.size 11 (VarAt w w.heap.size) v E:=by
 have C:∀ a v,(only w p).cell? a= some v->w.cell? a= some v:=fun a v hv=>(zx.1 hv).2;obtain⟨h0,A,c,rfl,h1⟩:=h;refine⟨h0,A,c,rfl,fun hp=> ?_⟩;obtain⟨b,o,rfl,g,h2⟩:=h1 hp;refine⟨b,o,rfl,g,fun i x hx=> ?_⟩;obtain⟨cs,h3,h4,h5⟩:=h2 i x hx;exact⟨cs,h3,fun j v hv=>C _ _ (h4 j v hv),h5.cells C⟩
theorem zgi {E:List VarT} {k:Int} {s:ByteArray} {v:VT} {ns:List ByteArray} {ta tb:TT} (h:5<=k/\k<=14):ownT E k s v ns [ta,tb]= pairT k ta tb:=by
 unfold ownT;rw[if_neg (by omega),if_neg (by omega),if_neg (by omega),if_neg (by omega),if_neg (by omega),if_neg (by omega),if_neg (by omega),if_neg (by omega),if_neg (by omega),if_neg (by omega),if_neg (by omega),if_neg (by omega),if_neg (by omega)];rfl
theorem z3H:∀ {l:List TT} {t u:TT} {j:Nat} {x:TT},foldT t (l.take j)= some u->l[j]?= some x->foldT t (l.take (j+1))= joinT u x
 |[],_,_,_,_,_,hx=>by cases hx
 |a::l,t,u,0,x,h,hx=>by
  simp only[List.getElem?_cons_zero,Option.some.injEq] at hx
  subst hx
  simp only[List.take_zero,foldT,Option.some.injEq] at h
  subst h
  rw[List.take_succ_cons,List.take_zero,foldT]
  all_goals cases joinT t a<;>rfl
 |a::l,t,u,j+1,x,h,hx=>by
  simp only[List.getElem?_cons_succ] at hx
  rw[List.take_succ_cons,foldT] at h
  rw[List.take_succ_cons,foldT]
  cases hj:joinT t a with
  |none=>rw[hj] at h;cases h
  |some y=>
   rw[hj] at h
   exact z3H h hx
theorem z5Y:∀ {l:List TT} {t:TT} {j:Nat},foldT t (l.take j)= none->foldT t l= none
 |[],t,j,h=>by rw[List.take_nil] at h;exact h
 |a::l,t,0,h=>by simp[foldT] at h
 |a::l,t,j+1,h=>by
  rw[List.take_succ_cons,foldT] at h
  rw[foldT]
  cases hj:joinT t a with
  |none=>rfl
  |some y=>rw[hj] at h;exact z5Y h
theorem z7r:∀ {l:List TT} {t u:TT},jok t= true->(∀ x∈l,jok x= true)->foldT t l= some u->jok u= true
 |[],t,u,ht,_,h=>by rw[foldT] at h;injection h with h;subst h;exact ht
 |a::l,t,u,ht,hl,h=>by
  rw[foldT] at h
  cases hj:joinT t a with
  |none=>rw[hj] at h;cases h
  |some y=>rw[hj] at h;exact z7r (zeX t a y ht (hl a (by simp)) hj) (fun x hx=>hl x (List.mem_cons_of_mem _ hx)) h
theorem zcv {q:Nat->Prop} {u:World} {cs:List Value} {t:TT} {g:Nat} (h:KeptT q u cs t) (hg:Whole 36 u g cs) (hq:q g):KeptT q u (tyC 5 (.slice none 0 0) (.slice (some ⟨g,0,none⟩) 1 1)) (.mk 5 [] [t]):=by
 refine z2T (zH 5 (by decide +kernel)) (SlAt.nil _ _ _ _) (show 1<=maxLen by unfold maxLen;omega) ?_;refine⟨by simp,some ⟨g,0,none⟩,1,rfl,fun _=>⟨g,0,rfl,hg.lt,fun i x hx=> ?_⟩⟩;cases i with
 |zero=>
  injection hx with hx;subst hx;exact⟨cs,(zl h.typ).1,fun j v hv=>zx.2 ⟨hq,by have:=hg.range j v hv;simpa using this⟩,h⟩
 |succ i=>cases hx
theorem zdU {t:TT} (h:typeT t= true):tok t:=by
 refine⟨z44 h,?_,?_⟩
 ·unfold typeT at h
  rw[Bool.and_eq_true] at h;have h:=h.2;cases t with
  |mk k ns its=>
   rw[zG] at h;rw[if_neg (by decide)] at h;unfold lf;by_cases h5:k= 5
   ·exact .inl h5
   ·rw[if_neg h5] at h
    by_cases h6:k= 6
    ·exact .inr (.inl h6)
    ·rw[if_neg h6] at h
     by_cases h7:k= 1\/k= 2\/k= 3\/k= 4\/k= 7
     ·rw[if_pos h7] at h
      simp only[Bool.and_eq_true,beq_iff_eq] at h;obtain⟨h8,h9⟩:=h;rw[List.eq_nil_of_length_eq_zero h8,List.eq_nil_of_length_eq_zero h9];exact .inr (.inr rfl)
     ·rw[if_neg h7] at h;cases h
 ·intro h5
  unfold typeT at h;rw[Bool.and_eq_true] at h;have h:=h.2;cases t with
  |mk k ns its=>
   have h5:k= 5:=h5;subst h5;obtain⟨g,_⟩:=z0w h;obtain⟨a,rfl⟩:=len1 g;exact⟨a,rfl⟩
theorem z7H {E:List VarT}:∀ {its:List ET} {j:Nat} {vs:List TT} {x:ET} {t:TT},seqT (zY E (its.take j))= .ok vs->its[j]?= some x->z0a E x= .ok t->seqT (zY E (its.take (j+1)))= .ok (vs ++ [t])
 |[],_,_,_,_,_,hx,_=>by cases hx
 |a::l,0,vs,x,t,h,hx,ht=>by
  simp only[List.getElem?_cons_zero,Option.some.injEq] at hx
  subst hx
  simp only[List.take_zero,zY,seqT,Except.ok.injEq] at h
  subst h
  simp[zY,seqT,ht]
 |a::l,j+1,vs,x,t,h,hx,ht=>by
  simp only[List.getElem?_cons_succ] at hx
  rw[List.take_succ_cons,zY] at h
  rw[List.take_succ_cons,zY]
  cases ha:z0a E a with
  |error e=>rw[ha] at h;cases h
  |ok u=>
   rw[ha,seqT] at h
   rw[seqT]
   cases hl:seqT (zY E (l.take j)) with
   |error e=>rw[hl] at h;cases h
   |ok us=>
    rw[hl] at h
    injection h with h
    subst h
    rw[z7H hl hx ht]
    rfl
theorem z95 {E:List VarT}:∀ {its:List ET} {j:Nat} {vs:List TT} {x:ET} {e:Int},seqT (zY E (its.take j))= .ok vs->its[j]?= some x->z0a E x= .error e->seqT (zY E its)= .error e
 |[],_,_,_,_,_,hx,_=>by cases hx
 |a::l,0,vs,x,e,h,hx,ht=>by
  simp only[List.getElem?_cons_zero,Option.some.injEq] at hx
  subst hx
  rw[zY,ht,seqT]
 |a::l,j+1,vs,x,e,h,hx,ht=>by
  simp only[List.getElem?_cons_succ] at hx
  rw[List.take_succ_cons,zY] at h
  rw[zY]
  cases ha:z0a E a with
  |error e=>rw[ha] at h;cases h
  |ok u=>
   rw[ha,seqT] at h
   rw[seqT]
   cases hl:seqT (zY E (l.take j)) with
   |error e=>rw[hl] at h;cases h
   |ok us=>rw[z95 hl hx ht]
theorem zcc {p:Nat->Prop} {w:World} {ce:List Value} {k:Int} {s:ByteArray} {v:VT} {ns:List ByteArray} {its:List ET} (h:KeptP p w ce (.mk k s v ns its)):∃ A c,ce[9]?= some (.slice A its.length c)/\ce.length= 10/\(0 < its.length->∃ b o,A= some ⟨b,o,none⟩/\b < w.heap.size/\∀ (i:Nat) x,its[i]?= some x->∃ ks:List Value,ks.length= 10/\w.rangeAt b (o+i*10) ks/\KeptP p w ks x):=by
 obtain⟨c0,c1,c2,c3,c4,c5,vn,vi,rfl,hk,hs,C,X,_,N⟩:=ExpAt.inv h;obtain⟨_,A,c,rfl,h2⟩:=N;refine⟨A,c,rfl,rfl,fun h0=> ?_⟩;obtain⟨b,o,e,G,K⟩:=h2 h0;refine⟨b,o,e,G,fun i x hx=> ?_⟩;obtain⟨ks,O,Y,g⟩:=K i x hx;exact⟨ks,O,fun j v C=>(zx.1 (Y j v C)).2,g⟩
theorem KeptP.next {p:Nat->Prop} {w u:World} {cs:List Value} {t:ET} (h:KeptP p w cs t) (hb:Below w.heap.size w u):KeptP p u cs t:=h.to (fun b hp hl=>⟨hp,hb.block b hl⟩) hb.size
end
end Go.Proofs.YtpmjcbjdcjjplaaGreatDoor
