/- Parts of a proof: TextF. -/
import Derived.Lib.ItoaMem
import Derived.Test.YtmpbepjjbaeebaaGreatDoorPackS9
import Derived.Test.YtmpbepjjbaeebaaGreatDoorPackS13
set_option maxHeartbeats 8000000
set_option maxRecDepth 100000
set_option linter.unusedVariables false
set_option linter.unusedSimpArgs false
namespace Go.Proofs.YtmpbepjjbaeebaaGreatDoor
open Go
def digB (c:UInt8):Bool:=decide (48<=c.toNat) && decide (c.toNat<=57)
theorem za3 {n:Nat} (h:n < 10):digB (UInt8.ofNat (48+n))= true:=by
 have:∀ k:Fin 10,digB (UInt8.ofNat (48+k.val))= true:=by decide
 exact this ⟨n,h⟩
theorem zdD (n:Nat):∀ c∈Lib.decDigits n,digB c= true:=by
 induction n using Nat.strongRecOn with
 |ind n ih=>
  rw[Lib.decDigits]
  split
  ·rename_i h
   intro c hc
   rw[List.mem_singleton] at hc
   subst hc;exact za3 h
  ·rename_i h
   intro c hc
   rcases List.mem_append.1 hc with hc|hc
   ·exact ih (n / 10) (by omega) c hc
   ·rw[List.mem_singleton] at hc
    subst hc;exact za3 (by omega)
theorem z9U (n:Nat):Lib.decDigits n≠[]:=by
 rw[Lib.decDigits];split<;>simp
theorem zcp {n:Nat} (h: ¬ n < 10):Lib.decDigits n= Lib.decDigits (n / 10) ++ [UInt8.ofNat (48+n % 10)]:=by
 rw[Lib.decDigits,dif_neg h]
theorem z5B (n:Int):(0<=n/\Lib.itoa n= Lib.decDigits n.toNat)\/(n < 0/\Lib.itoa n= 45::Lib.decDigits n.natAbs):=by
 unfold Lib.itoa
 by_cases h:n < 0
 ·rw[if_pos h];exact .inr ⟨h,rfl⟩
 ·rw[if_neg h];exact .inl ⟨by omega,rfl⟩
theorem z7L (n:Nat) (x:List UInt8):∃ c t,Lib.decDigits n ++ x= c::t/\digB c= true:=by
 cases h:Lib.decDigits n with
 |nil=>exact(z9U n h).elim
 |cons c t=>exact⟨c,t ++ x,rfl,zdD n c (by rw[h];exact List.mem_cons_self ..)⟩
theorem zbW {r:Nat}:magF r= 0↔r= 0:=by
 unfold magF
 by_cases h:r < 4503599627370496
 ·rw[if_pos h]
 ·rw[if_neg h];omega
theorem zcj {r:Nat}:valF r= 0↔r= 0:=by
 unfold valF
 have:=Nat.two_pow_pos (expF r+1074).toNat
 rw[Nat.mul_eq_zero,zbW]
 omega
theorem zb6 {f:Nat} (hf:f < 2 ^ 64) (h:f % 9223372036854775808= 9218868437227405312):Ieee.double.read f= .infinity (decide (9223372036854775808<=f)):=by
 have hd:f= 9218868437227405312\/f= 18442240474082181120:=by omega
 rcases hd with rfl|rfl<;>decide +kernel
theorem z1R {f:Nat} (hf:f < 2 ^ 64):nanD (dat f)≠0↔9218868437227405312 < f % 9223372036854775808:=by
 show nanD (Ieee.double.read f)≠0↔_
 rcases Nat.lt_trichotomy (f % 9223372036854775808) 9218868437227405312 with h|h|h
 ·rw[z3n hf h];exact⟨fun e=>(e rfl).elim,fun e=>by omega⟩
 ·rw[zb6 hf h];exact⟨fun e=>(e rfl).elim,fun e=>by omega⟩
 ·obtain⟨s,t,e⟩:=zcK hf h
  rw[e];exact⟨fun _=>h,fun _=>Int.one_ne_zero⟩
theorem zce {f:Nat} (hf:f < 2 ^ 64):rankZ f= if f= 9223372036854775808 then -1 else 0:=by
 unfold rankZ
 by_cases h:f= 9223372036854775808
 ·subst h;rw[if_pos rfl,if_pos (by decide +kernel)]
 ·rw[if_neg h,if_neg]
  rintro⟨h1,h2⟩
  rcases z50 hf h1 with h3|h3
  ·exact h2 h3
  ·exact h h3
theorem zdS {f:Nat} (hf:f < 2 ^ 64) (h:f % 9223372036854775808 < 9218868437227405312):
  valD (dat f)=(if 9223372036854775808<=f then -((valF (f % 9223372036854775808):Nat):Int) else(valF (f % 9223372036854775808):Nat))/\clsD (dat f)= 0:=by
 show valD (Ieee.double.read f)= _/\clsD (Ieee.double.read f)= 0
 rw[z3n hf h]
 refine⟨?_,rfl⟩
 show Ieee.signed _ _ (expF (f % 9223372036854775808)+1074).toNat= _
 unfold Ieee.signed valF
 by_cases hs:9223372036854775808<=f
 ·simp[hs,Nat.shiftLeft_eq]
 ·simp[hs,Nat.shiftLeft_eq]
def keyF (f:Nat):Option (Bool × Option (Nat × Int)):=
 if 9218868437227405312 < f % 9223372036854775808 then none else
 some (decide (9223372036854775808<=f),if f % 9223372036854775808= 9218868437227405312 then none else some (z05 (f % 9223372036854775808)))
def bodyF:Option (Nat × Int)->List UInt8
 |none=>[105,110,102]
 |some (m,e)=>Lib.decDigits m ++ (112::Lib.itoa e)
theorem zav (f:Nat):textF f= match keyF f with
  |none=>[110,97,110]
  |some (s,p)=>(if s= true then[45] else[]) ++ bodyF p:=by
 unfold textF keyF
 by_cases h1:9218868437227405312 < f % 9223372036854775808
 ·rw[if_pos h1,if_pos h1]
 ·rw[if_neg h1,if_neg h1]
  by_cases h3:f < 9223372036854775808
  ·by_cases h2:f % 9223372036854775808= 9218868437227405312
   ·simp[h2,h3,show ¬ 9223372036854775808<=f by omega,bodyF]
   ·simp[h2,h3,show ¬ 9223372036854775808<=f by omega,bodyF]
  ·by_cases h2:f % 9223372036854775808= 9218868437227405312
   ·simp[h2,h3,show 9223372036854775808<=f by omega,bodyF]
   ·simp[h2,h3,show 9223372036854775808<=f by omega,bodyF]
theorem zab (p:Option (Nat × Int)) (x:List UInt8):∃ c t,bodyF p ++ x= c::t/\(digB c= true\/c= 105):=by
 cases p with
 |none=>exact⟨105,_,rfl,.inr rfl⟩
 |some q=>
  obtain⟨c,t,h1,h2⟩:=z7L q.1 ((112::Lib.itoa q.2) ++ x)
  exact⟨c,t,by rw[← h1];simp[bodyF],.inl h2⟩
end Go.Proofs.YtmpbepjjbaeebaaGreatDoor
