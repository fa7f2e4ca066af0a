/- Parts of a proof: TextV. -/
import Derived.Lib.ItoaLen
import Derived.Test.YtpmjcbjdcjjplaaGreatDoorPackS11
import Derived.Test.YtpmjcbjdcjjplaaGreatDoorPackS19
set_option maxHeartbeats 8000000
set_option maxRecDepth 100000
set_option linter.unusedVariables false
set_option linter.unusedSimpArgs false
namespace Go.Proofs.YtpmjcbjdcjjplaaGreatDoor
open Go
def escL:List UInt8->List UInt8
 |[]=>[]
 |c::l=>(if c= 34\/c= 92 then[92] else[]) ++ (c::escL l)
def z2Y (s:List UInt8):List UInt8:=34::(escL s ++ [34])
def trueL:List UInt8:=[116,114,117,101]
def falseL:List UInt8:=[102,97,108,115,101]
mutual
def textV:VT->List UInt8
 | .mk k n f s ns its=>
  if k= 1 then(if n= 1 then trueL else falseL)
  else if k= 2 then Lib.itoa n
  else if k= 3 then textF f
  else if k= 4 then z2Y s.data.toList
  else(if k= 6 then[123] else[91]) ++ (textL (decide (k= 6)) true ns its ++ (if k= 6 then[125] else[93]))
def textL:Bool->Bool->List ByteArray->List VT->List UInt8
 |_,_,_,[]=>[]
 |r,first,ns,a::l=>(if first= true then[] else[44]) ++ ((if r= true then(ns.headD default).data.toList ++ [58] else[]) ++ (textV a ++ textL r false ns.tail l))
end
theorem zhj {n:Int} (h:wfI n): -9223372036854775808<=n/\n<=9223372036854775807:=by
 have h:(Lit.int .i64 n).wf= true:=h;simp only[Lit.wf,Bool.and_eq_true,decide_eq_true_eq] at h;have h1:IntKind.i64.min= -9223372036854775808:=by decide
 have h2:IntKind.i64.max= 9223372036854775807:=by decide
 rw[h1,h2] at h;exact h
theorem z5s:∀ l:List UInt8,(escL l).length<=2*l.length
 |[]=>by simp[escL]
 |c::l=>by
  have:=z5s l
  rw[escL,List.length_append,List.length_cons,List.length_cons]
  split<;>simp<;>omega
theorem z2M {n:Int} (h0: -9223372036854775808<=n) (h1:n<=9223372036854775807):(Lib.itoa n).length<=21:=Lib.itoa_length_le n h0 h1
theorem z6I {n:Nat} (h:n < 9223372036854775808):(Lib.decDigits n).length<=21:=by
 have:=z2M (n:=(n:Int)) (by omega) (by omega);rw[Lib.itoa_nonneg] at this;exact this
theorem z7O (f:Nat):(textF f).length<=50:=by
 unfold textF;split
 ·simp
 ·rename_i h
  rw[List.length_append];have h1:(if f < 9223372036854775808 then([]:List UInt8) else[45]).length<=1:=by split<;>simp
  generalize (if f < 9223372036854775808 then([]:List UInt8) else[45]).length= z at*;by_cases h2:f % 9223372036854775808= 9218868437227405312
  ·rw[if_pos h2];show z+3<=50;omega
  ·rw[if_neg h2]
   have g:=z8W (r:=f % 9223372036854775808) (by omega);have h3:=z6I (n:=(z12 (f % 9223372036854775808)).1) (by omega);have h4:=z2M (n:=(z12 (f % 9223372036854775808)).2) (by omega) (by omega);rw[List.length_append,List.length_cons];omega
theorem z2D {a b c:Bool} {n:Int} {f:Nat} {s:ByteArray} {ns its:Nat} (h:bareB a b c false n f s ns its= true):ns= 0/\its= 0:=by
 unfold bareB at h;simp only[Bool.and_eq_true,Bool.or_eq_true,Bool.false_eq_true,false_or,beq_iff_eq] at h;exact h.2.2.2
mutual
def saneV:VT->Prop
 | .mk k n f s ns its=>(-9223372036854775808<=n/\n<=9223372036854775807)/\f < 2 ^ 64/\saneL its
def saneL:List VT->Prop
 |[]=>True
 |a::l=>saneV a/\saneL l
end
theorem z3V:∀ (l:List ByteArray) (p:Option ByteArray),riseB p l= true->∀ s∈l,nameB s= true
 |[],_,_,s,hs=>by simp at hs
 |a::l,p,h,s,hs=>by
  cases p with
  |none=>
   rw[riseB] at h
   simp only[Bool.and_eq_true] at h
   rcases List.mem_cons.1 hs with rfl|hs
   ·exact h.1
   ·exact z3V l _ h.2 s hs
  |some q=>
   rw[riseB] at h
   simp only[Bool.and_eq_true] at h
   rcases List.mem_cons.1 hs with rfl|hs
   ·exact h.1
   ·exact z3V l _ h.2.2 s hs
theorem z6G:∀ (l:List VT),(∀ x∈l,∀ m,m<=cntV x m)->∀ m,m<=cntL l m
 |[],_,m=>by rw[cntL];exact Nat.le_refl _
 |a::l,h,m=>by
  rw[cntL]
  split
  ·exact Nat.le_refl _
  ·exact Nat.le_trans (h a (List.mem_cons_self ..) m) (z6G l (fun x hx=>h x (List.mem_cons_of_mem _ hx)) _)
theorem zac (t:VT):∀ m,m+1<=cntV t m:=by
 induction t using VT.ind with
 |h k n f s ns its ih=>intro m;rw[cntV];exact z6G its (fun x hx m=>Nat.le_trans (Nat.le_succ m) (ih x hx m)) (m+1)
theorem z3X:∀ {l:List VT},saneL l->∀ x∈l,saneV x
 |[],_,x,hx=>by simp at hx
 |a::l,h,x,hx=>by
  rw[saneL] at h
  rcases List.mem_cons.1 hx with rfl|hx
  ·exact h.1
  ·exact z3X h.2 x hx
theorem z2s:∀ {l:List VT} {d:Nat},zK l d= true->∀ x∈l,zr x d= true
 |[],_,_,x,hx=>by simp at hx
 |a::l,d,h,x,hx=>by
  rw[zK,Bool.and_eq_true] at h
  rcases List.mem_cons.1 hx with rfl|hx
  ·exact h.1
  ·exact z2s h.2 x hx
theorem z2r {k n:Int} {f:Nat} {s:ByteArray} {ns:List ByteArray} {its:List VT} {d:Nat} (h:zr (.mk k n f s ns its) d= true):
  (k= 1/\(n= 0\/n= 1)/\ns=[]/\its=[])\/(k= 2/\ns=[]/\its=[])\/(k= 3/\ns=[]/\its=[])\/(k= 4/\s.size<=200/\ns=[]/\its=[])\/
  (k= 5/\ns=[]/\zK its (d+1)= true)\/(k= 6/\ns.length= its.length/\(∀ s∈ns,nameB s= true)/\zK its (d+1)= true):=by
 rw[zr] at h;split at h
 ·cases h
 split at h
 ·rename_i hk
  rw[Bool.and_eq_true] at h;obtain⟨h1,h2⟩:=z2D h.1;refine .inl ⟨hk,?_,List.eq_nil_of_length_eq_zero h1,List.eq_nil_of_length_eq_zero h2⟩;have:=h.2;simp only[beq_iff_eq] at this;omega
 split at h
 ·rename_i hk
  obtain⟨h1,h2⟩:=z2D h;exact .inr (.inl ⟨hk,List.eq_nil_of_length_eq_zero h1,List.eq_nil_of_length_eq_zero h2⟩)
 split at h
 ·rename_i hk
  obtain⟨h1,h2⟩:=z2D h;exact .inr (.inr (.inl ⟨hk,List.eq_nil_of_length_eq_zero h1,List.eq_nil_of_length_eq_zero h2⟩))
 split at h
 ·rename_i hk
  rw[Bool.and_eq_true] at h;obtain⟨h1,h2⟩:=z2D h.1;exact .inr (.inr (.inr (.inl ⟨hk,of_decide_eq_true h.2,List.eq_nil_of_length_eq_zero h1,List.eq_nil_of_length_eq_zero h2⟩)))
 split at h
 ·rename_i hk
  simp only[Bool.and_eq_true,beq_iff_eq] at h;exact .inr (.inr (.inr (.inr (.inr ⟨hk,h.1,z3V ns none h.2.1,h.2.2.2⟩))))
 split at h
 ·rename_i hk
  simp only[Bool.and_eq_true,beq_iff_eq] at h;exact .inr (.inr (.inr (.inr (.inl ⟨hk,List.eq_nil_of_length_eq_zero h.2.1,h.2.2⟩))))
 ·cases h
theorem zcF {s:ByteArray} (h:nameB s= true):s.size<=30:=by
 unfold nameB at h;simp only[Bool.and_eq_true,decide_eq_true_eq] at h;exact h.1.2
theorem zcm:∀ {ns:List ByteArray},(∀ s∈ns,nameB s= true)->(ns.headD default).data.toList.length<=30
 |[],_=>by decide
 |s::_,h=>by
  have:=zcF (h s (List.mem_cons_self ..))
  show s.data.toList.length<=30
  rw[Array.length_toList];exact this
theorem z7P:∀ (l:List VT),(∀ x∈l,∀ d m,zr x d= true->cntV x m < 500->(textV x).length+460*m+40<=460*cntV x m)->
  ∀ (r first:Bool) (ns:List ByteArray) (d m:Nat),(∀ s∈ns,nameB s= true)->zK l d= true->cntL l m < 500->(textL r first ns l).length+460*m<=460*cntL l m
 |[],_,r,first,ns,d,m,_,_,_=>by rw[textL,cntL];simp
 |a::l,ih,r,first,ns,d,m,hn,hr,hc=>by
  rw[zK,Bool.and_eq_true] at hr
  rw[cntL] at hc ⊢
  by_cases h5:500<=m
  ·rw[if_pos h5] at hc;omega
  rw[if_neg h5] at hc ⊢
  have hg:=z6G l (fun x hx m=>Nat.le_trans (Nat.le_succ m) (zac x m)) (cntV a m)
  have h1:=ih a (List.mem_cons_self ..) d m hr.1 (by omega)
  have h2:=z7P l (fun x hx=>ih x (List.mem_cons_of_mem _ hx)) r false ns.tail d (cntV a m) (fun s hs=>hn s (List.mem_of_mem_tail hs)) hr.2 hc
  have h3:=zcm hn
  rw[textL,List.length_append,List.length_append,List.length_append]
  have h4:(if first= true then([]:List UInt8) else[44]).length<=1:=by split<;>simp
  have h6:(if r= true then(ns.headD default).data.toList ++ [58] else[]).length<=31:=by
   split
   ·rw[List.length_append];simp only[List.length_cons,List.length_nil];omega
   ·simp
  omega
theorem zfq (t:VT):saneV t->∀ d m,zr t d= true->cntV t m < 500->(textV t).length+460*m+40<=460*cntV t m:=by
 induction t using VT.ind with
 |h k n f s ns its ih=>
  intro g d m G A;rw[saneV] at g;have C:=zac (.mk k n f s ns its) m;rw[textV];rcases z2r G with ⟨rfl,_,_,_⟩|⟨rfl,_,_⟩|⟨rfl,_,_⟩|⟨rfl,h4,_,_⟩|⟨rfl,h5,h6⟩|⟨rfl,h5,h6,h7⟩
  ·rw[if_pos rfl]
   have:(if n= 1 then trueL else falseL).length<=5:=by split<;>decide
   omega
  ·rw[if_neg (by decide),if_pos rfl]
   have:=z2M g.1.1 g.1.2;omega
  ·rw[if_neg (by decide),if_neg (by decide),if_pos rfl]
   have:=z7O f;omega
  ·rw[if_neg (by decide),if_neg (by decide),if_neg (by decide),if_pos rfl]
   have:=z5s s.data.toList;have h:s.data.toList.length<=200:=by rw[Array.length_toList];exact h4
   unfold z2Y;simp only[List.length_cons,List.length_append,List.length_nil];omega
  all_goals
   rw[if_neg (by decide),if_neg (by decide),if_neg (by decide),if_neg (by decide),List.length_append,List.length_append];rw[cntV] at A C ⊢;have:=z7P its (fun x hx=>ih x hx (z3X g.2.2 x hx))
  ·have:=this (decide ((5:Int)= 6)) true ns (d+1) (m+1) (by rw[h5];simp) h6 A
   simp only[show ¬ ((5:Int)= 6) by decide,if_false,List.length_cons,List.length_nil] at this ⊢;omega
  ·have:=this (decide ((6:Int)= 6)) true ns (d+1) (m+1) h6 h7 A
   simp only[if_true,List.length_cons,List.length_nil] at this ⊢;omega
theorem z9c {t:VT} (hs:saneV t) (hr:(decide (cntV t 0<=200) && zr t 1)= true):(textV t).length<=100000:=by
 rw[Bool.and_eq_true,decide_eq_true_eq] at hr;have:=zfq t hs 1 0 hr.2 (by omega);omega
theorem zaw {w:World} {B:Nat} (t:VT):∀ cs,ValAt w B cs t->saneV t:=by
 induction t using VT.ind with
 |h k n f s ns its ih=>
  intro cs h;obtain⟨Y,X,rfl,_,N,K,_,_,O,h2⟩:=h.inv;rw[saneV];refine⟨zhj N,wf64 K,?_⟩;have:∀ l:List VT,(∀ x∈l,saneV x)->saneL l:=by
   intro l
   induction l with
   |nil=>intro _;rw[saneL];trivial
   |cons a l ihl=>intro g;rw[saneL];exact⟨g a (List.mem_cons_self ..),ihl fun x h=>g x (List.mem_cons_of_mem _ h)⟩
  refine this its fun x g=> ?_;obtain⟨_,A,c,_,h3⟩:=h2;obtain⟨i,G⟩:=List.getElem?_of_mem g;obtain⟨b,o,_,_,h5⟩:=h3 (by have:=(List.getElem?_eq_some_iff.1 G).1;omega);obtain⟨C,_,_,h8⟩:=h5 i x G;exact ih x g C h8
end Go.Proofs.YtpmjcbjdcjjplaaGreatDoor
