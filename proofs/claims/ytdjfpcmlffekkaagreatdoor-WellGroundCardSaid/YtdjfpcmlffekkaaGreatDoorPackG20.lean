/- Parts of a proof: TextV. -/
import Derived.Lib.ItoaLen
import Derived.Lib.ItoaMem
import Derived.Test.YtdjfpcmlffekkaaGreatDoorPackG10
import Derived.Test.YtdjfpcmlffekkaaGreatDoorPackG11
import Derived.Test.YtdjfpcmlffekkaaGreatDoorPackG19
set_option maxHeartbeats 8000000
set_option maxRecDepth 100000
set_option linter.unusedVariables false
set_option linter.unusedSimpArgs false
namespace Go.Proofs.YtdjfpcmlffekkaaGreatDoor
open Go
def escL:List UInt8->List UInt8
 |[]=>[]
 |c::l=>(if c= 34\/c= 92 then[92] else[]) ++ (c::escL l)
def z2n (s:List UInt8):List UInt8:=34::(escL s ++ [34])
def trueL:List UInt8:=[116,114,117,101]
def falseL:List UInt8:=[102,97,108,115,101]
mutual
def textV:VT->List UInt8
 | .mk k n f s ns its=>
  if k= 1 then(if n= 1 then trueL else falseL)
  else if k= 2 then Lib.itoa n
  else if k= 3 then textF f
  else if k= 4 then z2n s.data.toList
  else(if k= 6 then[123] else[91]) ++ (textL (decide (k= 6)) true ns its ++ (if k= 6 then[125] else[93]))
def textL:Bool->Bool->List ByteArray->List VT->List UInt8
 |_,_,_,[]=>[]
 |r,first,ns,a::l=>(if first= true then[] else[44]) ++ ((if r= true then(ns.headD default).data.toList ++ [58] else[]) ++ (textV a ++ textL r false ns.tail l))
end
theorem zf6 {n:Int} (h:wfI n): -9223372036854775808<=n/\n<=9223372036854775807:=by
 have h:(Lit.int .i64 n).wf= true:=h;simp only[Lit.wf,Bool.and_eq_true,decide_eq_true_eq] at h;have h1:IntKind.i64.min= -9223372036854775808:=by decide
 have h2:IntKind.i64.max= 9223372036854775807:=by decide
 rw[h1,h2] at h;exact h
theorem z4A:∀ l:List UInt8,(escL l).length<=2*l.length
 |[]=>by simp[escL]
 |c::l=>by
  have:=z4A l
  rw[escL,List.length_append,List.length_cons,List.length_cons]
  split<;>simp<;>omega
theorem z2c {n:Int} (h0: -9223372036854775808<=n) (h1:n<=9223372036854775807):(Lib.itoa n).length<=21:=Lib.itoa_length_le n h0 h1
theorem z5H {n:Nat} (h:n < 9223372036854775808):(Lib.decDigits n).length<=21:=by
 have:=z2c (n:=(n:Int)) (by omega) (by omega);rw[Lib.itoa_nonneg] at this;exact this
theorem z6C (f:Nat):(textF f).length<=50:=by
 unfold textF;split
 ·simp
 ·rename_i h
  rw[List.length_append];have h1:(if f < 9223372036854775808 then([]:List UInt8) else[45]).length<=1:=by split<;>simp
  generalize (if f < 9223372036854775808 then([]:List UInt8) else[45]).length= z at*;by_cases h2:f % 9223372036854775808= 9218868437227405312
  ·rw[if_pos h2];show z+3<=50;omega
  ·rw[if_neg h2]
   have g:=z7G (r:=f % 9223372036854775808) (by omega);have h3:=z5H (n:=(z0M (f % 9223372036854775808)).1) (by omega);have h4:=z2c (n:=(z0M (f % 9223372036854775808)).2) (by omega) (by omega);rw[List.length_append,List.length_cons];omega
theorem z25 {a b c:Bool} {n:Int} {f:Nat} {s:ByteArray} {ns its:Nat} (h:bareB a b c false n f s ns its= true):ns= 0/\its= 0:=by
 unfold bareB at h;simp only[Bool.and_eq_true,Bool.or_eq_true,Bool.false_eq_true,false_or,beq_iff_eq] at h;exact h.2.2.2
mutual
def saneV:VT->Prop
 | .mk k n f s ns its=>(-9223372036854775808<=n/\n<=9223372036854775807)/\f < 2 ^ 64/\saneL its
def saneL:List VT->Prop
 |[]=>True
 |a::l=>saneV a/\saneL l
end
theorem z3c:∀ (l:List ByteArray) (p:Option ByteArray),riseB p l= true->∀ s∈l,nameB s= true
 |[],_,_,s,hs=>by simp at hs
 |a::l,p,h,s,hs=>by
  cases p with
  |none=>
   rw[riseB] at h
   simp only[Bool.and_eq_true] at h
   rcases List.mem_cons.1 hs with rfl|hs
   ·exact h.1
   ·exact z3c l _ h.2 s hs
  |some q=>
   rw[riseB] at h
   simp only[Bool.and_eq_true] at h
   rcases List.mem_cons.1 hs with rfl|hs
   ·exact h.1
   ·exact z3c l _ h.2.2 s hs
theorem z5F:∀ (l:List VT),(∀ x∈l,∀ m,m<=cntV x m)->∀ m,m<=cntL l m
 |[],_,m=>by rw[cntL];exact Nat.le_refl _
 |a::l,h,m=>by
  rw[cntL]
  split
  ·exact Nat.le_refl _
  ·exact Nat.le_trans (h a (List.mem_cons_self ..) m) (z5F l (fun x hx=>h x (List.mem_cons_of_mem _ hx)) _)
theorem z8I (t:VT):∀ m,m+1<=cntV t m:=by
 induction t using VT.ind with
 |h k n f s ns its ih=>intro m;rw[cntV];exact z5F its (fun x hx m=>Nat.le_trans (Nat.le_succ m) (ih x hx m)) (m+1)
theorem z3e:∀ {l:List VT},saneL l->∀ x∈l,saneV x
 |[],_,x,hx=>by simp at hx
 |a::l,h,x,hx=>by
  rw[saneL] at h
  rcases List.mem_cons.1 hx with rfl|hx
  ·exact h.1
  ·exact z3e h.2 x hx
theorem z1V:∀ {l:List VT} {d:Nat},zN l d= true->∀ x∈l,zw x d= true
 |[],_,_,x,hx=>by simp at hx
 |a::l,d,h,x,hx=>by
  rw[zN,Bool.and_eq_true] at h
  rcases List.mem_cons.1 hx with rfl|hx
  ·exact h.1
  ·exact z1V h.2 x hx
theorem z1U {k n:Int} {f:Nat} {s:ByteArray} {ns:List ByteArray} {its:List VT} {d:Nat} (h:zw (.mk k n f s ns its) d= true):
  (k= 1/\(n= 0\/n= 1)/\ns=[]/\its=[])\/(k= 2/\ns=[]/\its=[])\/(k= 3/\ns=[]/\its=[])\/(k= 4/\s.size<=200/\ns=[]/\its=[])\/
  (k= 5/\ns=[]/\zN its (d+1)= true)\/(k= 6/\ns.length= its.length/\(∀ s∈ns,nameB s= true)/\zN its (d+1)= true):=by
 rw[zw] at h;split at h
 ·cases h
 split at h
 ·rename_i hk
  rw[Bool.and_eq_true] at h;obtain⟨h1,h2⟩:=z25 h.1;refine .inl ⟨hk,?_,List.eq_nil_of_length_eq_zero h1,List.eq_nil_of_length_eq_zero h2⟩;have:=h.2;simp only[beq_iff_eq] at this;omega
 split at h
 ·rename_i hk
  obtain⟨h1,h2⟩:=z25 h;exact .inr (.inl ⟨hk,List.eq_nil_of_length_eq_zero h1,List.eq_nil_of_length_eq_zero h2⟩)
 split at h
 ·rename_i hk
  obtain⟨h1,h2⟩:=z25 h;exact .inr (.inr (.inl ⟨hk,List.eq_nil_of_length_eq_zero h1,List.eq_nil_of_length_eq_zero h2⟩))
 split at h
 ·rename_i hk
  rw[Bool.and_eq_true] at h;obtain⟨h1,h2⟩:=z25 h.1;exact .inr (.inr (.inr (.inl ⟨hk,of_decide_eq_true h.2,List.eq_nil_of_length_eq_zero h1,List.eq_nil_of_length_eq_zero h2⟩)))
 split at h
 ·rename_i hk
  simp only[Bool.and_eq_true,beq_iff_eq] at h;exact .inr (.inr (.inr (.inr (.inr ⟨hk,h.1,z3c ns none h.2.1,h.2.2.2⟩))))
 split at h
 ·rename_i hk
  simp only[Bool.and_eq_true,beq_iff_eq] at h;exact .inr (.inr (.inr (.inr (.inl ⟨hk,List.eq_nil_of_length_eq_zero h.2.1,h.2.2⟩))))
 ·cases h
theorem zaY {s:ByteArray} (h:nameB s= true):s.size<=30:=by
 unfold nameB at h;simp only[Bool.and_eq_true,decide_eq_true_eq] at h;exact h.1.2
theorem zaH:∀ {ns:List ByteArray},(∀ s∈ns,nameB s= true)->(ns.headD default).data.toList.length<=30
 |[],_=>by decide
 |s::_,h=>by
  have:=zaY (h s (List.mem_cons_self ..))
  show s.data.toList.length<=30
  rw[Array.length_toList];exact this
theorem z6D:∀ (l:List VT),(∀ x∈l,∀ d m,zw x d= true->cntV x m < 500->(textV x).length+460*m+40<=460*cntV x m)->
  ∀ (r first:Bool) (ns:List ByteArray) (d m:Nat),(∀ s∈ns,nameB s= true)->zN l d= true->cntL l m < 500->(textL r first ns l).length+460*m<=460*cntL l m
 |[],_,r,first,ns,d,m,_,_,_=>by rw[textL,cntL];simp
 |a::l,ih,r,first,ns,d,m,hn,hr,hc=>by
  rw[zN,Bool.and_eq_true] at hr
  rw[cntL] at hc ⊢
  by_cases h5:500<=m
  ·rw[if_pos h5] at hc;omega
  rw[if_neg h5] at hc ⊢
  have hg:=z5F l (fun x hx m=>Nat.le_trans (Nat.le_succ m) (z8I x m)) (cntV a m)
  have h1:=ih a (List.mem_cons_self ..) d m hr.1 (by omega)
  have h2:=z6D l (fun x hx=>ih x (List.mem_cons_of_mem _ hx)) r false ns.tail d (cntV a m) (fun s hs=>hn s (List.mem_of_mem_tail hs)) hr.2 hc
  have h3:=zaH hn
  rw[textL,List.length_append,List.length_append,List.length_append]
  have h4:(if first= true then([]:List UInt8) else[44]).length<=1:=by split<;>simp
  have h6:(if r= true then(ns.headD default).data.toList ++ [58] else[]).length<=31:=by
   split
   ·rw[List.length_append];simp only[List.length_cons,List.length_nil];omega
   ·simp
  omega
theorem zdp (t:VT):saneV t->∀ d m,zw t d= true->cntV t m < 500->(textV t).length+460*m+40<=460*cntV t m:=by
 induction t using VT.ind with
 |h k n f s ns its ih=>
  intro g d m F A;rw[saneV] at g;have C:=z8I (.mk k n f s ns its) m;rw[textV];rcases z1U F with ⟨rfl,_,_,_⟩|⟨rfl,_,_⟩|⟨rfl,_,_⟩|⟨rfl,h4,_,_⟩|⟨rfl,h5,h6⟩|⟨rfl,h5,h6,h7⟩
  ·rw[if_pos rfl]
   have:(if n= 1 then trueL else falseL).length<=5:=by split<;>decide
   omega
  ·rw[if_neg (by decide),if_pos rfl]
   have:=z2c g.1.1 g.1.2;omega
  ·rw[if_neg (by decide),if_neg (by decide),if_pos rfl]
   have:=z6C f;omega
  ·rw[if_neg (by decide),if_neg (by decide),if_neg (by decide),if_pos rfl]
   have:=z4A s.data.toList;have h:s.data.toList.length<=200:=by rw[Array.length_toList];exact h4
   unfold z2n;simp only[List.length_cons,List.length_append,List.length_nil];omega
  all_goals
   rw[if_neg (by decide),if_neg (by decide),if_neg (by decide),if_neg (by decide),List.length_append,List.length_append];rw[cntV] at A C ⊢;have:=z6D its (fun x hx=>ih x hx (z3e g.2.2 x hx))
  ·have:=this (decide ((5:Int)= 6)) true ns (d+1) (m+1) (by rw[h5];simp) h6 A
   simp only[show ¬ ((5:Int)= 6) by decide,if_false,List.length_cons,List.length_nil] at this ⊢;omega
  ·have:=this (decide ((6:Int)= 6)) true ns (d+1) (m+1) h6 h7 A
   simp only[if_true,List.length_cons,List.length_nil] at this ⊢;omega
theorem z7V {t:VT} (hs:saneV t) (hr:(decide (cntV t 0<=200) && zw t 1)= true):(textV t).length<=100000:=by
 rw[Bool.and_eq_true,decide_eq_true_eq] at hr;have:=zdp t hs 1 0 hr.2 (by omega);omega
theorem z90 {w:World} {B:Nat} (t:VT):∀ cs,ValAt w B cs t->saneV t:=by
 induction t using VT.ind with
 |h k n f s ns its ih=>
  intro cs h;obtain⟨X,O,rfl,_,K,G,_,_,N,h2⟩:=h.inv;rw[saneV];refine⟨zf6 K,wf64 G,?_⟩;have:∀ l:List VT,(∀ x∈l,saneV x)->saneL l:=by
   intro l
   induction l with
   |nil=>intro _;rw[saneL];trivial
   |cons a l ihl=>intro g;rw[saneL];exact⟨g a (List.mem_cons_self ..),ihl fun x h=>g x (List.mem_cons_of_mem _ h)⟩
  refine this its fun x g=> ?_;obtain⟨_,A,c,_,h3⟩:=h2;obtain⟨i,F⟩:=List.getElem?_of_mem g;obtain⟨b,o,_,_,h5⟩:=h3 (by have:=(List.getElem?_eq_some_iff.1 F).1;omega);obtain⟨C,_,_,h8⟩:=h5 i x F;exact ih x g C h8
end Go.Proofs.YtdjfpcmlffekkaaGreatDoor
