/- Parts of a proof: TextF. -/
import Derived.Test.YtpmjcbjdcjjplaaGreatDoorPackS10
import Derived.Test.YtpmjcbjdcjjplaaGreatDoorPackS19
set_option maxHeartbeats 8000000
set_option maxRecDepth 100000
set_option linter.unusedVariables false
set_option linter.unusedSimpArgs false
namespace Go.Proofs.YtpmjcbjdcjjplaaGreatDoor
open Go
def digB (c:UInt8):Bool:=decide (48<=c.toNat) && decide (c.toNat<=57)
theorem zc9 {n:Nat} (h:n < 10):digB (UInt8.ofNat (48+n))= true:=by
 have:∀ k:Fin 10,digB (UInt8.ofNat (48+k.val))= true:=by decide
 exact this ⟨n,h⟩
theorem zfT (n:Nat):∀ c∈Lib.decDigits n,digB c= true:=by
 induction n using Nat.strongRecOn with
 |ind n ih=>
  rw[Lib.decDigits];split
  ·rename_i h
   intro c g;rw[List.mem_singleton] at g;subst g;exact zc9 h
  ·rename_i h
   intro c g;rcases List.mem_append.1 g with g|g
   ·exact ih (n / 10) (by omega) c g
   ·rw[List.mem_singleton] at g
    subst g;exact zc9 (by omega)
theorem zc6 (n:Nat):Lib.decDigits n≠[]:=by
 rw[Lib.decDigits];split<;>simp
theorem zeq {n:Nat} (h: ¬ n < 10):Lib.decDigits n= Lib.decDigits (n / 10) ++ [UInt8.ofNat (48+n % 10)]:=by
 rw[Lib.decDigits,dif_neg h]
theorem zaX (n:Int):(0<=n/\Lib.itoa n= Lib.decDigits n.toNat)\/(n < 0/\Lib.itoa n= 45::Lib.decDigits n.natAbs):=by
 unfold Lib.itoa;by_cases h:n < 0
 ·rw[if_pos h];exact .inr ⟨h,rfl⟩
 ·rw[if_neg h];exact .inl ⟨by omega,rfl⟩
theorem zep (n:Nat) (x:List UInt8):∃ c t,Lib.decDigits n ++ x= c::t/\digB c= true:=by
 cases h:Lib.decDigits n with
 |nil=>exact(zc6 n h).elim
 |cons c t=>exact⟨c,t ++ x,rfl,zfT n c (by rw[h];exact List.mem_cons_self ..)⟩
theorem zcT {f:Nat} (hf:f < 2 ^ 64) (h:f % 9223372036854775808= 9218868437227405312):Ieee.double.read f= .infinity (decide (9223372036854775808<=f)):=by
 have hd:f= 9218868437227405312\/f= 18442240474082181120:=by omega
 rcases hd with rfl|rfl<;>decide +kernel
theorem z2U {f:Nat} (hf:f < 2 ^ 64):nanD (dat f)≠0↔9218868437227405312 < f % 9223372036854775808:=by
 show nanD (Ieee.double.read f)≠0↔_;rcases Nat.lt_trichotomy (f % 9223372036854775808) 9218868437227405312 with h|h|h
 ·rw[z5C hf h];exact⟨fun e=>(e rfl).elim,fun e=>by omega⟩
 ·rw[zcT hf h];exact⟨fun e=>(e rfl).elim,fun e=>by omega⟩
 ·obtain⟨s,t,e⟩:=zff hf h
  rw[e];exact⟨fun _=>h,fun _=>Int.one_ne_zero⟩
def keyF (f:Nat):Option (Bool × Option (Nat × Int)):=
 if 9218868437227405312 < f % 9223372036854775808 then none else
 some (decide (9223372036854775808<=f),if f % 9223372036854775808= 9218868437227405312 then none else some (z12 (f % 9223372036854775808)))
def bodyF:Option (Nat × Int)->List UInt8
 |none=>[105,110,102]
 |some (m,e)=>Lib.decDigits m ++ (112::Lib.itoa e)
theorem zdv (f:Nat):textF f= match keyF f with
  |none=>[110,97,110]
  |some (s,p)=>(if s= true then[45] else[]) ++ bodyF p:=by
 unfold textF keyF;by_cases h1:9218868437227405312 < f % 9223372036854775808
 ·rw[if_pos h1,if_pos h1]
 ·rw[if_neg h1,if_neg h1]
  by_cases h3:f < 9223372036854775808
  ·by_cases h2:f % 9223372036854775808= 9218868437227405312
   ·simp[h2,h3,show ¬ 9223372036854775808<=f by omega,bodyF]
   ·simp[h2,h3,show ¬ 9223372036854775808<=f by omega,bodyF]
  ·by_cases h2:f % 9223372036854775808= 9218868437227405312
   ·simp[h2,h3,show 9223372036854775808<=f by omega,bodyF]
   ·simp[h2,h3,show 9223372036854775808<=f by omega,bodyF]
theorem zbT (p:Option (Nat × Int)) (x:List UInt8):∃ c t,bodyF p ++ x= c::t/\(digB c= true\/c= 105):=by
 cases p with
 |none=>exact⟨105,_,rfl,.inr rfl⟩
 |some q=>
  obtain⟨c,t,h1,h2⟩:=zep q.1 ((112::Lib.itoa q.2) ++ x);exact⟨c,t,by rw[← h1];simp[bodyF],.inl h2⟩
end Go.Proofs.YtpmjcbjdcjjplaaGreatDoor
