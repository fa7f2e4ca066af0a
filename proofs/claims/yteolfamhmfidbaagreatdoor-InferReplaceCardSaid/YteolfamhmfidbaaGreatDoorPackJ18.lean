/- Parts of a proof: TextF, KeyZ. -/
import Derived.Lib.ItoaMem
import Derived.Test.YteolfamhmfidbaaGreatDoorPackJ10
import Derived.Test.YteolfamhmfidbaaGreatDoorPackJ15
set_option maxHeartbeats 8000000
set_option maxRecDepth 100000
set_option linter.unusedVariables false
set_option linter.unusedSimpArgs false
namespace Go.Proofs.YteolfamhmfidbaaGreatDoor
section
open Go
def digB (c:UInt8):Bool:=decide (48<=c.toNat) && decide (c.toNat<=57)
theorem zcg {n:Nat} (h:n < 10):digB (UInt8.ofNat (48+n))= true:=by
 have:∀ k:Fin 10,digB (UInt8.ofNat (48+k.val))= true:=by decide
 exact this ⟨n,h⟩
theorem zfk (n:Nat):∀ c∈Lib.decDigits n,digB c= true:=by
 induction n using Nat.strongRecOn with
 |ind n ih=>
  rw[Lib.decDigits]
  split
  ·rename_i h
   intro c hc
   rw[List.mem_singleton] at hc
   subst hc;exact zcg h
  ·rename_i h
   intro c hc
   rcases List.mem_append.1 hc with hc|hc
   ·exact ih (n / 10) (by omega) c hc
   ·rw[List.mem_singleton] at hc
    subst hc;exact zcg (by omega)
theorem zbU (n:Nat):Lib.decDigits n≠[]:=by
 rw[Lib.decDigits];split<;>simp
theorem zeB {n:Nat} (h: ¬ n < 10):Lib.decDigits n= Lib.decDigits (n / 10) ++ [UInt8.ofNat (48+n % 10)]:=by
 rw[Lib.decDigits,dif_neg h]
theorem z5x (n:Int):(0<=n/\Lib.itoa n= Lib.decDigits n.toNat)\/(n < 0/\Lib.itoa n= 45::Lib.decDigits n.natAbs):=by
 unfold Lib.itoa
 by_cases h:n < 0
 ·rw[if_pos h];exact .inr ⟨h,rfl⟩
 ·rw[if_neg h];exact .inl ⟨by omega,rfl⟩
theorem z8B (n:Nat) (x:List UInt8):∃ c t,Lib.decDigits n ++ x= c::t/\digB c= true:=by
 cases h:Lib.decDigits n with
 |nil=>exact(zbU n h).elim
 |cons c t=>exact⟨c,t ++ x,rfl,zfk n c (by rw[h];exact List.mem_cons_self ..)⟩
theorem ze3 {r:Nat}:magF r= 0↔r= 0:=by
 unfold magF
 by_cases h:r < 4503599627370496
 ·rw[if_pos h]
 ·rw[if_neg h];omega
theorem z5a {r:Nat}:valF r= 0↔r= 0:=by
 unfold valF
 have:=Nat.two_pow_pos (expF r+1074).toNat
 rw[Nat.mul_eq_zero,ze3]
 omega
theorem z6T {f:Nat} (hf:f < 2 ^ 64) (h:f % 9223372036854775808= 9218868437227405312):Ieee.double.read f= .infinity (decide (9223372036854775808<=f)):=by
 have hd:f= 9218868437227405312\/f= 18442240474082181120:=by omega
 rcases hd with rfl|rfl<;>decide +kernel
theorem z0R {f:Nat} (hf:f < 2 ^ 64):nanD (dat f)≠0↔9218868437227405312 < f % 9223372036854775808:=by
 show nanD (Ieee.double.read f)≠0↔_
 rcases Nat.lt_trichotomy (f % 9223372036854775808) 9218868437227405312 with h|h|h
 ·rw[z3I hf h];exact⟨fun e=>(e rfl).elim,fun e=>by omega⟩
 ·rw[z6T hf h];exact⟨fun e=>(e rfl).elim,fun e=>by omega⟩
 ·obtain⟨s,t,e⟩:=zeq hf h
  rw[e];exact⟨fun _=>h,fun _=>Int.one_ne_zero⟩
theorem z4T {f:Nat} (hf:f < 2 ^ 64):rankZ f= if f= 9223372036854775808 then -1 else 0:=by
 unfold rankZ
 by_cases h:f= 9223372036854775808
 ·subst h;rw[if_pos rfl,if_pos (by decide +kernel)]
 ·rw[if_neg h,if_neg]
  rintro⟨h1,h2⟩
  rcases z4Y hf h1 with h3|h3
  ·exact h2 h3
  ·exact h h3
theorem z9F {f:Nat} (hf:f < 2 ^ 64) (h:f % 9223372036854775808 < 9218868437227405312):
  valD (dat f)=(if 9223372036854775808<=f then -((valF (f % 9223372036854775808):Nat):Int) else(valF (f % 9223372036854775808):Nat))/\clsD (dat f)= 0:=by
 show valD (Ieee.double.read f)= _/\clsD (Ieee.double.read f)= 0
 rw[z3I hf h]
 refine⟨?_,rfl⟩
 show Ieee.signed _ _ (expF (f % 9223372036854775808)+1074).toNat= _
 unfold Ieee.signed valF
 by_cases hs:9223372036854775808<=f
 ·simp[hs,Nat.shiftLeft_eq]
 ·simp[hs,Nat.shiftLeft_eq]
def keyF (f:Nat):Option (Bool × Option (Nat × Int)):=
 if 9218868437227405312 < f % 9223372036854775808 then none else
 some (decide (9223372036854775808<=f),if f % 9223372036854775808= 9218868437227405312 then none else some (zU (f % 9223372036854775808)))
def bodyF:Option (Nat × Int)->List UInt8
 |none=>[105,110,102]
 |some (m,e)=>Lib.decDigits m ++ (112::Lib.itoa e)
theorem zbx (f:Nat):textF f= match keyF f with
  |none=>[110,97,110]
  |some (s,p)=>(if s= true then[45] else[]) ++ bodyF p:=by
 unfold textF keyF
 by_cases h1:9218868437227405312 < f % 9223372036854775808
 ·rw[if_pos h1,if_pos h1]
 ·rw[if_neg h1,if_neg h1]
  by_cases h3:f < 9223372036854775808
  ·by_cases h2:f % 9223372036854775808= 9218868437227405312
   ·simp[h2,h3,show ¬ 9223372036854775808<=f by omega,bodyF]
   ·simp[h2,h3,show ¬ 9223372036854775808<=f by omega,bodyF]
  ·by_cases h2:f % 9223372036854775808= 9218868437227405312
   ·simp[h2,h3,show 9223372036854775808<=f by omega,bodyF]
   ·simp[h2,h3,show 9223372036854775808<=f by omega,bodyF]
theorem zbS (p:Option (Nat × Int)) (x:List UInt8):∃ c t,bodyF p ++ x= c::t/\(digB c= true\/c= 105):=by
 cases p with
 |none=>exact⟨105,_,rfl,.inr rfl⟩
 |some q=>
  obtain⟨c,t,h1,h2⟩:=z8B q.1 ((112::Lib.itoa q.2) ++ x)
  exact⟨c,t,by rw[← h1];simp[bodyF],.inl h2⟩
end
section
open Go Go.RowKit
theorem z71 (r:Nat):valF r= if r < 4503599627370496 then r else(4503599627370496+r % 4503599627370496) *2 ^ (r / 4503599627370496 - 1):=by
 by_cases h:r < 4503599627370496
 ·rw[if_pos h];exact z4q h
 ·rw[if_neg h]
  unfold valF magF expF
  rw[if_neg h,if_neg h]
  congr 2
  omega
theorem z74 (r:Nat):valF r < valF (r+1):=by
 rw[z71,z71]
 by_cases h:r+1 < 4503599627370496
 ·rw[if_pos (by omega),if_pos h];omega
 ·rw[if_neg h]
  by_cases h1:r < 4503599627370496
  ·have:r+1= 4503599627370496:=by omega
   rw[if_pos h1,this]
   show r <(4503599627370496+0) *2 ^ 0
   omega
  ·rw[if_neg h1]
   by_cases h2:r % 4503599627370496= 4503599627370495
   ·have e1:(r+1) % 4503599627370496= 0:=by omega
    have e2:(r+1) / 4503599627370496 - 1=(r / 4503599627370496 - 1)+1:=by omega
    rw[e1,e2,h2,Nat.pow_succ]
    have:=Nat.two_pow_pos (r / 4503599627370496 - 1)
    generalize 2 ^ (r / 4503599627370496 - 1)= p at*
    omega
   ·have e1:(r+1) % 4503599627370496= r % 4503599627370496+1:=by omega
    have e2:(r+1) / 4503599627370496= r / 4503599627370496:=by omega
    rw[e1,e2]
    exact Nat.mul_lt_mul_of_pos_right (by omega) (Nat.two_pow_pos _)
theorem zeD (r k:Nat):valF r < valF (r+k+1):=by
 induction k with
 |zero=>exact z74 r
 |succ k ih=>exact Nat.lt_trans ih (z74 _)
theorem z9M {r s:Nat} (h:r < s):valF r < valF s:=by
 obtain⟨k,rfl⟩:∃ k,s= r+k+1:=⟨s - r - 1,by omega⟩
 exact zeD r k
def keyZ (f:Nat):Int:=if 9218868437227405312 < f % 9223372036854775808 then 9223372036854775807 else if 9223372036854775808<=f then -1 - ((f:Int) - 9223372036854775808) else f
theorem zcW {f g:Nat} (hf:f < 2 ^ 64) (hg:g < 2 ^ 64):cmpF f g= cmpI (keyZ f) (keyZ g):=by
 have nf:=z0R hf
 have ng:=z0R hg
 have bf:=z2r (dat f)
 have bg:=z2r (dat g)
 have hn:=zY (nanD (dat f)) (nanD (dat g))
 have hk:=zY (keyZ f) (keyZ g)
 rw[z6l]
 unfold cmpF'
 by_cases h1:9218868437227405312 < f % 9223372036854775808
 ·have kf:keyZ f= 9223372036854775807:=by unfold keyZ;rw[if_pos h1]
  by_cases h2:9218868437227405312 < g % 9223372036854775808
  ·have kg:keyZ g= 9223372036854775807:=by unfold keyZ;rw[if_pos h2]
   have cf:=z4n _ (nf.2 h1)
   have cg:=z4n _ (ng.2 h2)
   have e1:nanD (dat f)= 1:=by have:=nf.2 h1;omega
   have e2:nanD (dat g)= 1:=by have:=ng.2 h2;omega
   rw[e1,e2,kf,kg,z1N _ (nf.2 h1),z1N _ (ng.2 h2)]
   unfold cmpD
   rw[cf.1,cf.2,cg.1,cg.2];decide
  ·have e1:nanD (dat f)= 1:=by have:=nf.2 h1;omega
   have e2:nanD (dat g)= 0:=by
    rcases bg with h|h
    ·exact h
    ·exact(h2 (ng.1 (by omega))).elim
   have kg:keyZ g < 9223372036854775807:=by unfold keyZ;rw[if_neg h2];split<;>omega
   rw[e1,e2] at hn ⊢
   rw[if_pos (by omega)]
   omega
 ·by_cases h2:9218868437227405312 < g % 9223372036854775808
  ·have kg:keyZ g= 9223372036854775807:=by unfold keyZ;rw[if_pos h2]
   have e2:nanD (dat g)= 1:=by have:=ng.2 h2;omega
   have e1:nanD (dat f)= 0:=by
    rcases bf with h|h
    ·exact h
    ·exact(h1 (nf.1 (by omega))).elim
   have kf:keyZ f < 9223372036854775807:=by unfold keyZ;rw[if_neg h1];split<;>omega
   rw[e1,e2] at hn ⊢
   rw[if_pos (by omega)]
   omega
  ·have e1:nanD (dat f)= 0:=by
    rcases bf with h|h
    ·exact h
    ·exact(h1 (nf.1 (by omega))).elim
   have e2:nanD (dat g)= 0:=by
    rcases bg with h|h
    ·exact h
    ·exact(h2 (ng.1 (by omega))).elim
   rw[e1,e2]
   rw[if_neg (by decide)]
   have kf:(9223372036854775808<=f/\keyZ f= -1 - ((f:Int) - 9223372036854775808))\/(¬ 9223372036854775808<=f/\keyZ f= f):=by
    unfold keyZ;rw[if_neg h1]
    by_cases hs:9223372036854775808<=f
    ·exact .inl ⟨hs,if_pos hs⟩
    ·exact .inr ⟨hs,if_neg hs⟩
   have kg:(9223372036854775808<=g/\keyZ g= -1 - ((g:Int) - 9223372036854775808))\/(¬ 9223372036854775808<=g/\keyZ g= g):=by
    unfold keyZ;rw[if_neg h2]
    by_cases hs:9223372036854775808<=g
    ·exact .inl ⟨hs,if_pos hs⟩
    ·exact .inr ⟨hs,if_neg hs⟩
   have side:∀ {q:Nat},q < 2 ^ 64->¬ 9218868437227405312 < q % 9223372036854775808->
     (q % 9223372036854775808= 9218868437227405312/\valD (dat q)= 0/\clsD (dat q)= if 9223372036854775808<=q then -1 else 1)\/
     (q % 9223372036854775808 < 9218868437227405312/\clsD (dat q)= 0/\valD (dat q)= if 9223372036854775808<=q then -((valF (q % 9223372036854775808):Nat):Int) else(valF (q % 9223372036854775808):Nat)):=by
    intro q hq hl
    rcases Nat.lt_or_ge (q % 9223372036854775808) 9218868437227405312 with h|h
    ·obtain⟨a,b⟩:=z9F hq h
     exact .inr ⟨h,b,a⟩
    ·have he:q % 9223372036854775808= 9218868437227405312:=by omega
     have hr:dat q= .infinity (decide (9223372036854775808<=q)):=z6T hq he
     refine .inl ⟨he,by rw[hr];rfl,?_⟩
     rw[hr]
     by_cases hs:9223372036854775808<=q<;>simp[hs,clsD]
   have sf:=side hf h1
   have sg:=side hg h2
   have rf:=z4T hf
   have rg:=z4T hg
   have zf:=z5a (r:=f % 9223372036854775808)
   have zg:=z5a (r:=g % 9223372036854775808)
   have hm:(f % 9223372036854775808 < g % 9223372036854775808/\valF (f % 9223372036854775808) < valF (g % 9223372036854775808))\/(g % 9223372036854775808 < f % 9223372036854775808/\valF (g % 9223372036854775808) < valF (f % 9223372036854775808))\/
     (f % 9223372036854775808= g % 9223372036854775808/\valF (f % 9223372036854775808)= valF (g % 9223372036854775808)):=by
    rcases Nat.lt_trichotomy (f % 9223372036854775808) (g % 9223372036854775808) with h|h|h
    ·exact .inl ⟨h,z9M h⟩
    ·exact .inr (.inr ⟨h,by rw[h]⟩)
    ·exact .inr (.inl ⟨h,z9M h⟩)
   have hc:=zY (clsD (dat f)) (clsD (dat g))
   have hv:=zY (valD (dat f)) (valD (dat g))
   have hr:=zY (rankZ f) (rankZ g)
   unfold cmpD
   clear nf ng bf bg hn e1 e2 side
   generalize clsD (dat f)= qf at*
   generalize clsD (dat g)= qg at*
   generalize valD (dat f)= vf at*
   generalize valD (dat g)= vg at*
   generalize rankZ f= af at*
   generalize rankZ g= ag at*
   have z1:=zf.1
   have z2:=zf.2
   have z3:=zg.1
   have z4:=zg.2
   clear zf zg
   generalize valF (f % 9223372036854775808)= x at*
   generalize valF (g % 9223372036854775808)= y at*
   generalize keyZ f= uf at*
   generalize keyZ g= ug at*
   generalize cmpI qf qg= c1 at*
   generalize cmpI vf vg= c2 at*
   generalize cmpI af ag= c3 at*
   generalize cmpI uf ug= c4 at*
   have rf2:(f= 9223372036854775808/\af= -1)\/(f≠9223372036854775808/\af= 0):=by
    by_cases h:f= 9223372036854775808
    ·exact .inl ⟨h,by rw[rf,if_pos h]⟩
    ·exact .inr ⟨h,by rw[rf,if_neg h]⟩
   have rg2:(g= 9223372036854775808/\ag= -1)\/(g≠9223372036854775808/\ag= 0):=by
    by_cases h:g= 9223372036854775808
    ·exact .inl ⟨h,by rw[rg,if_pos h]⟩
    ·exact .inr ⟨h,by rw[rg,if_neg h]⟩
   have goal:(if(if c1≠0 then c1 else c2)≠0 then(if c1≠0 then c1 else c2) else c3)= if c1≠0 then c1 else if c2≠0 then c2 else c3:=by
    by_cases h:c1≠0
    ·rw[if_pos h,if_pos h,if_pos h]
    ·rw[if_neg h,if_neg h]
   rw[goal]
   clear goal rf rg
   rcases kf with ⟨s1,kf⟩|⟨s1,kf⟩<;>rcases kg with ⟨s2,kg⟩|⟨s2,kg⟩<;>simp only[s1,s2,if_true,if_false] at sf sg<;>
    rcases sf with ⟨p1,p2,p3⟩|⟨p1,p2,p3⟩<;>rcases sg with ⟨q1,q2,q3⟩|⟨q1,q2,q3⟩<;>(repeat' split)<;>omega
end
end Go.Proofs.YteolfamhmfidbaaGreatDoor
