/- Parts of a proof: EvalP, TimesP, BitsP. -/
import Derived.Test.YtpmjcbjdcjjplaaGreatDoorPackS24
set_option maxHeartbeats 8000000
set_option maxRecDepth 100000
set_option linter.unusedVariables false
set_option linter.unusedSimpArgs false
namespace Go.Proofs.YtpmjcbjdcjjplaaGreatDoor
section
open Go Go.RowKit
def vB (b:Bool):VT:= .mk 1 (if b= true then 1 else 0) 0 ⟨#[]⟩ [] []
def vI (n:Int):VT:= .mk 2 n 0 ⟨#[]⟩ [] []
def vF (f:Nat):VT:= .mk 3 0 f ⟨#[]⟩ [] []
def vS (s:ByteArray):VT:= .mk 4 0 0 s [] []
def v0:VT:= .mk 0 0 0 ⟨#[]⟩ [] []
abbrev Res:=Except Int VT
def fopV (op:BinOp) (a b:Nat):Nat:=match floatBits op .f64 a b with
 |some r=>zu r
 |none=>9221120237041090560
theorem z59 (f:Nat):zu (zu f)= zu f:=by
 have h:nanB 9221120237041090560= true:=by decide +kernel
 unfold zu;by_cases h1:nanB f= true
 ·rw[if_pos h1,if_pos h]
 ·rw[if_neg h1,if_neg h1]
theorem z36 (op:BinOp) (a b:Nat):zu (fopV op a b)= fopV op a b:=by
 unfold fopV;split
 ·exact z59 _
 ·have h:nanB 9221120237041090560= true:=by decide +kernel
  unfold zu;rw[if_pos h]
def okI (n:Int):Except Int Int:=if -9223372036854775808<=n/\n<=9223372036854775807 then .ok n else .error 7
def z1D (k a b:Int):Except Int Int:=
 if k= 5 then okI (a+b) else if k= 6 then okI (a - b) else if k= 7 then okI (a*b)
 else if b= 0 then .error 8 else if k= 9 then .ok (a.tmod b) else okI (a.tdiv b)
def z1a (k:Int) (a b:Nat):Except Int Nat:=
 if k= 5 then .ok (fopV .add a b) else if k= 6 then .ok (fopV .sub a b) else if k= 7 then .ok (fopV .mul a b) else if k= 8 then .ok (fopV .quo a b) else .error 6
def z2w (f:Nat):Nat:=FloatKind.f64.encode ((FloatKind.f64.decode f).integral .zero)
def z22 (f:Nat):Option Int:=if nanB f= true then none else
 if((FloatKind.f64.format.order (z2w f) 14114281232179134464 ==some .gt || FloatKind.f64.format.order (z2w f) 14114281232179134464 ==some .eq) && FloatKind.f64.format.order (z2w f) 4890909195324358656 ==some .lt)= true then floatToIntVal .f64 (z2w f) .i64 else none
def szd (v:VT):Res:=if zB v= true then .ok v else .error 3
def fLess (a b:Nat):Bool:=FloatKind.f64.format.order a b ==some .lt
def fEql (a b:Nat):Bool:=FloatKind.f64.format.order a b ==some .eq
def lessZ (eq:Bool) (a b:VT):Except Int Bool:=match a,b with
 | .mk k n f s ns its,.mk k' n' f' s' ns' its'=>
  if k= 3 then .ok (fLess f f' ||(eq && fEql f f'))
  else if k= 2\/k= 4 then .ok (decide (ordV (.mk k n f s ns its) (.mk k' n' f' s' ns' its') < 0) ||(eq && (ordV (.mk k n f s ns its) (.mk k' n' f' s' ns' its') ==0)))
  else .error 6
def binV (k:Int):VT->VT->Res
 | .mk ka na fa sa nsa ia,.mk kb nb fb sb nsb ib=>
  if k= 19 then
   if ka= 5/\kb= 2 then(if 0<=nb/\nb <(ia.length:Int) then .ok (ia.getD nb.toNat v0) else .error 9) else .error 6
  else if ka≠kb then .error 6
  else if k= 10 then .ok (vB (eqV (.mk ka na fa sa nsa ia) (.mk kb nb fb sb nsb ib)))
  else if k= 11\/k= 12 then(lessZ (k ==12) (.mk ka na fa sa nsa ia) (.mk kb nb fb sb nsb ib)).map vB
  else if ka= 2 then(z1D k na nb).map vI
  else if ka= 3 then(z1a k fa fb).map vF
  else if k= 5/\(ka= 4\/ka= 5) then szd (.mk ka 0 0 (sa ++ sb) [] (ia ++ ib))
  else .error 6
theorem z63 (x:ByteArray):∀ (zs:List ByteArray) (i:Nat),Lib.idxFromS zs x i= -1\/((i:Int)<=Lib.idxFromS zs x i/\Lib.idxFromS zs x i <((i+zs.length:Nat):Int))
 |[],i=> .inl rfl
 |z::zs,i=>by
  unfold Lib.idxFromS
  split
  ·exact .inr ⟨by omega,by rw[List.length_cons];omega⟩
  ·rcases z63 x zs (i+1) with h|h
   ·exact .inl h
   ·exact .inr ⟨by omega,by rw[List.length_cons];omega⟩
theorem z38 (zs:List ByteArray) (x:ByteArray):Lib.idxOfS zs x= -1\/(0<=Lib.idxOfS zs x/\Lib.idxOfS zs x <(zs.length:Int)):=by
 have:=z63 x zs 0;unfold Lib.idxOfS;omega
def unV (k:Int) (s:ByteArray):VT->Res
 | .mk kv n f sv ns its=>
  if k= 18 then(if kv≠6 then .error 6 else if Lib.idxOfS ns s= -1 then .error 10 else .ok (its.getD (Lib.idxOfS ns s).toNat v0))
  else if k= 4 then(if kv= 1 then .ok (vB (n ==0)) else .error 6)
  else if k= 21 then(if kv= 2 then .ok (vF (zu (floatOfInt .f64 n))) else .error 6)
  else if k= 22 then(if kv= 3 then(match z22 f with|some m=> .ok (vI m)|none=> .error 3) else .error 6)
  else if k= 23 then(if kv= 4 then .ok (.mk kv n f sv ns its) else if kv= 1\/kv= 2\/kv= 3 then .ok (vS ⟨(textV (.mk kv n f sv ns its)).toArray⟩) else .error 6)
  else if k= 20 then(if kv= 5\/kv= 4 then .ok (vI ((its.length:Int)+sv.size)) else .error 6)
  else if kv= 3 then .ok (vF (zu (fNeg f)))
  else if kv= 2 then(if n= -9223372036854775808 then .error 7 else .ok (vI (-n)))
  else .error 6
where fNeg (f:Nat):Nat:=f ^^^ 9223372036854775808
def boolR:Res->Except Int Bool
 | .error e=> .error e
 | .ok (.mk k n _ _ _ _)=>if k= 1 then .ok (n ==1) else .error 6
def seqR:List Res->Except Int (List VT)
 |[]=> .ok []
 | .error e::_=> .error e
 | .ok v::r=>match seqR r with
  | .error e=> .error e
  | .ok l=> .ok (v::l)
def lazyR (k:Int) (rs:List Res):Res:=
 match boolR (rs.getD 0 (.error 0)) with
 | .error e=> .error e
 | .ok b=>
  if k= 15 then(if b= true then rs.getD 1 (.error 0) else rs.getD 2 (.error 0))
  else if(k= 13/\b= false)\/(k= 14/\b= true) then .ok (vB b)
  else(boolR (rs.getD 1 (.error 0))).map vB
def nameR (E:List VarT) (V:List VT) (s:ByteArray):Res:=
 if findV E s= -1 then .error 11 else match V[(findV E s).toNat]? with
  |some v=> .ok (z01 v)
  |none=> .error 11
def combR (k:Int) (s:ByteArray) (ns:List ByteArray):List VT->Res
 |l=>if k= 16 then szd (.mk 5 0 0 ⟨#[]⟩ [] l) else if k= 17 then szd (.mk 6 0 0 ⟨#[]⟩ ns l)
  else match l with
   |[a]=>unV k s a
   |a::b::_=>binV k a b
   |[]=> .error 0
mutual
def evalE (E:List VarT) (V:List VT):ET->Res
 | .mk k s v ns its=>
  if k= 1 then .ok (z01 v)
  else if k= 2 then nameR E V s
  else if k= 13\/k= 14\/k= 15 then lazyR k (zC E V its)
  else match seqR (zC E V its) with
   | .error e=> .error e
   | .ok l=>combR k s ns l
def zC (E:List VarT) (V:List VT):List ET->List Res
 |[]=>[]
 |a::l=>evalE E V a::zC E V l
end
def evalT (t:ET) (E:List VarT) (V:List VT):Res:=if(V.all zB && zZ t)= true then evalE E V t else .error 2
def resV:Res->VT × Int
 | .ok v=>(v,0)
 | .error e=>(v0,e)
end
section
open Go Go.RowKit
theorem z4U {n:Int} (h: -9223372036854775808<=n/\n<=9223372036854775807):okI n= .ok n:=by unfold okI;rw[if_pos h]
theorem z8P {n:Int} (h: ¬ (-9223372036854775808<=n/\n<=9223372036854775807)):okI n= .error 7:=by unfold okI;rw[if_neg h]
theorem za3 (a b:Int):(a*b).natAbs= a.natAbs*b.natAbs:=Int.natAbs_mul a b
theorem z8M (a b:Int):(a < 0/\b < 0->0<=a*b)/\(0<=a/\0<=b->0<=a*b)/\(a < 0/\0<=b->a*b<=0)/\(0<=a/\b < 0->a*b<=0):=by
 refine⟨fun h=> ?_,fun h=>Int.mul_nonneg h.1 h.2,fun h=> ?_,fun h=> ?_⟩
 ·exact Int.mul_nonneg_of_nonpos_of_nonpos (by omega) (by omega)
 ·exact Int.mul_nonpos_of_nonpos_of_nonneg (by omega) h.2
 ·exact Int.mul_nonpos_of_nonneg_of_nonpos h.1 (by omega)
theorem zf4 {a b:Int} (h:(a < 0)↔(b < 0)):a*b=((a.natAbs*b.natAbs:Nat):Int):=by
 have h1:=za3 a b;obtain⟨s1,s2,_,_⟩:=z8M a b;by_cases ha:a < 0
 ·have:=s1 ⟨ha,h.1 ha⟩;omega
 ·have:=s2 ⟨by omega,by have:=mt h.2 ha;omega⟩;omega
theorem zcD {a b:Int} (h: ¬ ((a < 0)↔(b < 0))):a*b= -((a.natAbs*b.natAbs:Nat):Int):=by
 have h1:=za3 a b;obtain⟨_,_,s3,s4⟩:=z8M a b;by_cases ha:a < 0
 ·have g: ¬ b < 0:=fun g=>h ⟨fun _=>g,fun _=>ha⟩
  have:=s3 ⟨ha,by omega⟩;omega
 ·have g:b < 0:=by
   by_cases g:b < 0
   ·exact g
   ·exact absurd ⟨fun k=>absurd k ha,fun k=>absurd k g⟩ h
  have:=s4 ⟨by omega,g⟩;omega
theorem z4y {a b:Int} (h:(a < 0)↔(b < 0)):okI (a*b)= if a.natAbs*b.natAbs<=9223372036854775807 then .ok ((a.natAbs*b.natAbs:Nat):Int) else .error 7:=by
 rw[zf4 h];unfold okI;by_cases hp:a.natAbs*b.natAbs<=9223372036854775807
 ·rw[if_pos hp,if_pos ⟨by omega,by omega⟩]
 ·rw[if_neg hp,if_neg (by omega)]
theorem z4c {a b:Int} (h: ¬ ((a < 0)↔(b < 0))):okI (a*b)= if a.natAbs*b.natAbs<=9223372036854775808 then .ok (-((a.natAbs*b.natAbs:Nat):Int)) else .error 7:=by
 rw[zcD h];unfold okI;by_cases hp:a.natAbs*b.natAbs<=9223372036854775808
 ·rw[if_pos hp,if_pos ⟨by omega,by omega⟩]
 ·rw[if_neg hp,if_neg (by omega)]
end
section
open Go Go.RowKit
theorem wrapI (n:Int):IntKind.i64.wrap n=(n+9223372036854775808) % 18446744073709551616 - 9223372036854775808:=IntKind.wrap_i64 n
theorem zgm (v:BitVec 64):(0<=IntKind.i64.wrap (v.toNat:Int))↔v.msb= false:=by
 have h:=v.isLt;rw[wrapI,BitVec.msb_eq_decide,decide_eq_false_iff_not];omega
theorem z4T {a:Int} (h: -9223372036854775808<=a/\a<=9223372036854775807):(BitVec.ofInt 64 a).msb= decide (a < 0):=by
 rw[BitVec.msb_eq_decide,BitVec.toNat_ofInt];by_cases h0:a < 0
 ·rw[decide_eq_true h0,decide_eq_true_eq];omega
 ·rw[decide_eq_false h0,decide_eq_false_iff_not];omega
theorem z6b (v:BitVec 64):BitVec.ofInt 64 (IntKind.i64.wrap (v.toNat:Int))= v:=by
 have h:=v.isLt;apply BitVec.eq_of_toNat_eq;rw[BitVec.toNat_ofInt,wrapI];omega
theorem za4 {a b c d:Int} (ha: -9223372036854775808<=a/\a<=9223372036854775807) (hb: -9223372036854775808<=b/\b<=9223372036854775807) (hc: -9223372036854775808<=c/\c<=9223372036854775807) (hd: -9223372036854775808<=d/\d<=9223372036854775807):
  (0<=bits .and .i64 (bits .xor .i64 a b) (bits .xor .i64 c d))↔¬ ((a < 0↔¬ b < 0)/\(c < 0↔¬ d < 0)):=by
 show 0<=IntKind.i64.wrap ((BitVec.ofInt 64 (IntKind.i64.wrap ((BitVec.ofInt 64 a ^^^ BitVec.ofInt 64 b).toNat:Int)) &&& BitVec.ofInt 64 (IntKind.i64.wrap ((BitVec.ofInt 64 c ^^^ BitVec.ofInt 64 d).toNat:Int))).toNat:Int)↔_;rw[z6b,z6b,zgm,BitVec.msb_and,BitVec.msb_xor,BitVec.msb_xor,z4T ha,z4T hb,z4T hc,z4T hd];by_cases h1:a < 0<;>by_cases h2:b < 0<;>by_cases h3:c < 0<;>by_cases h4:d < 0<;>simp[h1,h2,h3,h4]
theorem zgq {a b:Int} (ha: -9223372036854775808<=a/\a<=9223372036854775807) (hb: -9223372036854775808<=b/\b<=9223372036854775807):
  (0<=bits .and .i64 (bits .xor .i64 a (wrap64 (a+b))) (bits .xor .i64 b (wrap64 (a+b))))↔(-9223372036854775808<=a+b/\a+b<=9223372036854775807):=by
 have A:wrap64 (a+b)= IntKind.i64.wrap (a+b):=by rw[wrapI];unfold wrap64;omega
 have g: -9223372036854775808<=wrap64 (a+b)/\wrap64 (a+b)<=9223372036854775807:=by rw[A,wrapI];omega
 rw[za4 ha g hb g];rw[A,wrapI] at*;omega
theorem zes {a b:Int} (ha: -9223372036854775808<=a/\a<=9223372036854775807) (hb: -9223372036854775808<=b/\b<=9223372036854775807):
  (0<=bits .and .i64 (bits .xor .i64 a b) (bits .xor .i64 a (wrap64 (a - b))))↔(-9223372036854775808<=a - b/\a - b<=9223372036854775807):=by
 have g:wrap64 (a - b)= IntKind.i64.wrap (a - b):=by rw[wrapI];unfold wrap64;omega
 have A: -9223372036854775808<=wrap64 (a - b)/\wrap64 (a - b)<=9223372036854775807:=by rw[g,wrapI];omega
 rw[za4 ha hb ha A];rw[g,wrapI] at*;omega
end
end Go.Proofs.YtpmjcbjdcjjplaaGreatDoor
