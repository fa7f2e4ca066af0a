/- Parts of a proof: VCmp, VFlt, VRow, VRow2, VOrd, VEq, VRowP, KeepS, IOwn, IRepl, SameE. -/
import Derived.Test.YteolfamhmfidbaaGreatDoorPackJ3
import Derived.Test.YteolfamhmfidbaaGreatDoorPackJ7
import Derived.Test.YteolfamhmfidbaaGreatDoorPackJ8
import Derived.Test.YteolfamhmfidbaaGreatDoorPackJ9
set_option maxHeartbeats 8000000
set_option maxRecDepth 100000
set_option linter.unusedVariables false
set_option linter.unusedSimpArgs false
namespace Go.Proofs.YteolfamhmfidbaaGreatDoor
section
open Go Go.RowKit
theorem cmpi (a b:Int) (w:World):Calls Tryz.prog 190 #[.int .i64 a,.int .i64 b] w fun e w'=>e= .returned (.int .i64 (cmpI a b))/\w'= w:=by
 rcases Int.lt_trichotomy a b with h|h|h
 ·have hr:cmpI a b= -1:=by unfold cmpI;rw[if_pos h]
  rw[hr]
  go_enter Tryz.func190,Tryz.ntmps190
  go_wp2_with (go_in)
  go_ret
  exact⟨rfl,rfl⟩
 ·subst h
  rw[z2A rfl]
  go_enter Tryz.func190,Tryz.ntmps190
  go_wp2_with (go_in)
  go_ret
  exact⟨rfl,rfl⟩
 ·have hr:cmpI a b= 1:=by unfold cmpI;rw[if_neg (by omega),if_pos h]
  have hn: ¬ a < b:=by omega
  rw[hr]
  go_enter Tryz.func190,Tryz.ntmps190
  go_wp2_with (go_in)
  go_ret
  exact⟨rfl,rfl⟩
theorem cmp64 (a b:Int) (w:World):Calls Tryz.prog 186 #[.int .i64 a,.int .i64 b] w fun e w'=>e= .returned (.int .i64 (cmpI a b))/\w'= w:=by
 rcases Int.lt_trichotomy a b with h|h|h
 ·have hr:cmpI a b= -1:=by unfold cmpI;rw[if_pos h]
  rw[hr]
  go_enter Tryz.func186,Tryz.ntmps186
  go_wp2_with (go_in)
  go_ret
  exact⟨rfl,rfl⟩
 ·subst h
  rw[z2A rfl]
  go_enter Tryz.func186,Tryz.ntmps186
  go_wp2_with (go_in)
  go_ret
  exact⟨rfl,rfl⟩
 ·have hr:cmpI a b= 1:=by unfold cmpI;rw[if_neg (by omega),if_pos h]
  have hn: ¬ a < b:=by omega
  rw[hr]
  go_enter Tryz.func186,Tryz.ntmps186
  go_wp2_with (go_in)
  go_ret
  exact⟨rfl,rfl⟩
theorem zbC (a b:ByteArray) (w:World):Calls Tryz.prog 187 #[.string a,.string b] w fun e w'=>e= .returned (.int .i64 (cmpS a b))/\w'= w:=Tryz.strings_Compare a b w
theorem toList_eq (a:ByteArray):a.toList= a.data.toList:=ByteArray.toList_eq a
theorem z3g:∀ a b:List UInt8,(Op.bytesLess a b= true↔Lib.compareBytes a b= -1)/\((a ==b)= true↔Lib.compareBytes a b= 0)
 |[],[]=>by decide
 |[],_::_=>by simp[Op.bytesLess,Lib.compareBytes]
 |_::_,[]=>by simp[Op.bytesLess,Lib.compareBytes]
 |a::l,b::r=>by
  obtain⟨h1,h2⟩:=z3g l r
  unfold Op.bytesLess Lib.compareBytes
  rcases z3P a b with h|h|h
  ·have:a≠b:=fun e=>by subst e;exact UInt8.lt_irrefl a h
   simp[h,this]
  ·subst h
   simp[UInt8.lt_irrefl]
   exact⟨h1,by rw[← beq_iff_eq (a:=l)];exact h2⟩
  ·have h3:=UInt8.lt_asymm h
   have:a≠b:=fun e=>by subst e;exact UInt8.lt_irrefl a h
   simp[h,h3,this]
theorem z18:∀ a b:List UInt8,Lib.compareBytes a b= -1\/Lib.compareBytes a b= 0\/Lib.compareBytes a b= 1
 |[],[]=> .inr (.inl rfl)
 |[],_::_=> .inl rfl
 |_::_,[]=> .inr (.inr rfl)
 |a::l,b::r=>by
  unfold Lib.compareBytes
  split
  ·exact .inl rfl
  ·split
   ·exact .inr (.inr rfl)
   ·exact z18 l r
theorem cmps (a b:ByteArray) (w:World):Calls Tryz.prog 215 #[.string a,.string b] w fun e w'=>e= .returned (.int .i64 (cmpS a b))/\w'= w:=by
 obtain⟨h1,h2⟩:=z3g a.data.toList b.data.toList
 have h3:=z18 a.data.toList b.data.toList
 rw[← toList_eq,← toList_eq] at h1 h2 h3
 have hc:cmpS a b= Lib.compareBytes a.toList b.toList:=by unfold cmpS;rw[toList_eq,toList_eq]
 rw[hc]
 rcases h3 with h|h|h
 ·rw[h]
  have t1:Op.bytesLess a.toList b.toList= true:=h1.2 h
  clear h1 h2 hc h
  go_enter Tryz.func215,Tryz.ntmps215
  go_wp2_with (go_in)
  go_ret
  exact⟨rfl,rfl⟩
 ·rw[h]
  have t1:Op.bytesLess a.toList b.toList= false:=by rw[Bool.eq_false_iff];intro e;have:=h1.1 e;omega
  have t2:(a.toList ==b.toList)= true:=h2.2 h
  clear h1 h2 hc h
  go_enter Tryz.func215,Tryz.ntmps215
  go_wp2_with (go_in)
  go_ret
  exact⟨rfl,rfl⟩
 ·rw[h]
  have t1:Op.bytesLess a.toList b.toList= false:=by rw[Bool.eq_false_iff];intro e;have:=h1.1 e;omega
  have t2:(a.toList ==b.toList)= false:=by rw[Bool.eq_false_iff];intro e;have:=h2.1 e;omega
  clear h1 h2 hc h
  go_enter Tryz.func215,Tryz.ntmps215
  go_wp2_with (go_in)
  go_ret
  exact⟨rfl,rfl⟩
end
section
open Go Go.RowKit
theorem wf64 {a:Nat} (h:(Lit.float .f64 a).wf= true):a < 2 ^ 64:=by
 simpa [Lit.wf] using h
open Ieee in
theorem z4Y {a:Nat} (h:a < 2 ^ 64) (he:(fOrd a 0 ==some .eq)= true):a= 0\/a= 2 ^ 63:=by
 rw[beq_iff_eq,z2T] at he
 have h0:dat 0= .number false 0 (-1074):=by decide +kernel
 have hs:FloatKind.f64.format.signWeight= 2 ^ 63:=by decide +kernel
 have hb:FloatKind.f64.format.binade= 2 ^ 52:=by decide +kernel
 rw[h0] at he
 unfold dat Format.read at he
 dsimp only at he
 rw[hs,hb] at he
 have key:∀ (s:Bool) (m:Nat) (i:Int), -1074<=i->Datum.order (.number s m i) (.number false 0 (-1074))= some .eq->m= 0:=by
  intro s m i hi h
  have:=(z1V (.number s m i) (.number false 0 (-1074)) hi (by show(-1074:Int)<= -1074;omega) rfl rfl).2.1.1 h
  unfold cmpD at this
  rw[if_neg (by simp[clsD,cmpI])] at this
  have h2:=zY (valD (.number s m i)) (valD (.number false 0 (-1074)))
  have h3:valD (.number s m i)= 0:=by
   have:valD (.number false 0 (-1074))= 0:=by decide +kernel
   omega
  have h4:(m <<<(i+1074).toNat:Nat)= 0:=by
   have h5:signed s m (i+1074).toNat= 0:=h3
   unfold signed at h5
   cases s<;>simp at h5<;>simpa using h5
  rw[Nat.shiftLeft_eq] at h4
  rcases Nat.mul_eq_zero.1 h4 with h|h
  ·exact h
  ·have:0 < 2 ^ (i+1074).toNat:=Nat.two_pow_pos _
   omega
 have hp:FloatKind.f64.format.leastPlace= -1074:=by decide +kernel
 split at he
 ·have:=key _ _ _ (by rw[hp];omega) he
  omega
 ·split at he
  ·have:=key _ _ _ (by rw[hp];omega) he
   omega
  ·split at he
   ·exfalso
    revert he
    cases (a / 2 ^ 63 % 2 ==1)<;>simp[Datum.order]
   ·simp[Datum.order] at he
def nanI (a:Nat):Int:=if nanB a= true then 1 else 0
theorem z8D (a:Nat) (ha:a < 2 ^ 64) (w:World):Calls Tryz.prog 177 #[.float .f64 a] w fun e w'=>e= .returned (.tuple #[.int .i64 (nanI a),.int .i64 (rankZ a)])/\w'= w:=by
 have hn0:nanB a=(FloatKind.f64.format.order a a !=some .eq):=rfl
 cases hn:nanB a with
 |true=>
  have hz:rankZ a= 0:=z1N a (by have:=z0N a;rw[hn] at this;simpa using this.symm)
  have hi:nanI a= 1:=by unfold nanI;rw[hn];rfl
  rw[hz,hi]
  have t1:(FloatKind.f64.format.order a a !=some .eq)= true:=hn0.symm.trans hn
  clear hn0 hn hz hi
  go_enter Tryz.func177,Tryz.ntmps177
  go_wp2
  go_ret2
  exact⟨rfl,rfl⟩
 |false=>
  have hi:nanI a= 0:=by unfold nanI;rw[hn];rfl
  rw[hi]
  have t1:(FloatKind.f64.format.order a a !=some .eq)= false:=hn0.symm.trans hn
  clear hn0 hn hi
  by_cases h0:(fOrd a 0 ==some .eq)= true
  ·rcases z4Y ha h0 with rfl|rfl
   ·have hz:rankZ 0= 0:=by unfold rankZ;simp
    rw[hz]
    have t2:(FloatKind.f64.format.order 0 0 ==some .eq)= true:=by decide +kernel
    have hq:∀ (t:TypeId) (w:World),(binOp .quo t (.float .f64 4607182418800017408) (.float .f64 0)).run Tryz.prog w= .ok (.float .f64 9218868437227405312) w:=fun t w=>run_float_arith w .quo t .f64 _ _ _ (by decide +kernel)
    have t3:(FloatKind.f64.format.order 9218868437227405312 0 ==some .lt)= false:=by decide +kernel
    clear h0 hz ha
    go_enter Tryz.func177,Tryz.ntmps177
    go_wp2
    go_ret2
    exact⟨rfl,rfl⟩
   ·have hz:rankZ (2 ^ 63)= -1:=by unfold rankZ;rw[if_pos ⟨h0,by decide⟩]
    rw[hz]
    have e63:(2 ^ 63:Nat)= 9223372036854775808:=by decide
    rw[e63] at t1 h0 ⊢
    have t2:(FloatKind.f64.format.order 9223372036854775808 0 ==some .eq)= true:=h0
    have hq:∀ (t:TypeId) (w:World),(binOp .quo t (.float .f64 4607182418800017408) (.float .f64 9223372036854775808)).run Tryz.prog w= .ok (.float .f64 18442240474082181120) w:=fun t w=>run_float_arith w .quo t .f64 _ _ _ (by decide +kernel)
    have t3:(FloatKind.f64.format.order 18442240474082181120 0 ==some .lt)= true:=by decide +kernel
    clear h0 hz ha
    go_enter Tryz.func177,Tryz.ntmps177
    go_wp2
    go_ret2
    exact⟨rfl,rfl⟩
  ·have hz:rankZ a= 0:=by unfold rankZ;rw[if_neg (fun h=>h0 h.1)]
   have t2:(FloatKind.f64.format.order a 0 ==some .eq)= false:=by rw[Bool.eq_false_iff];exact h0
   rw[hz]
   clear h0 hz
   go_enter Tryz.func177,Tryz.ntmps177
   go_wp2
   go_ret2
   exact⟨rfl,rfl⟩
theorem z2j {a:Nat} {b:Bool} (h:nanB a= b):nanI a= if b= true then 1 else 0:=by unfold nanI;rw[h]
theorem z0E (a b:Nat) (ha:a < 2 ^ 64) (hb:b < 2 ^ 64) (w:World):Calls Tryz.prog 132 #[.float .f64 a,.float .f64 b] w fun e w'=>e= .returned (.int .i64 (cmpF a b))/\w'= w:=by
 have HA:=I (fun w=>z8D a ha w)
 have HB:=I (fun w=>z8D b hb w)
 clear ha hb
 cases hn:nanB a with
 |true=>
  rw[z2j hn] at HA
  cases hm:nanB b with
  |true=>
   rw[z2j hm] at HB
   have hr:cmpF a b= 0:=by unfold cmpF;rw[hn,hm];rfl
   rw[hr]
   clear hn hm hr
   simp only[if_true] at HA HB
   go_enter Tryz.func132,Tryz.ntmps132
   go_wp2_with (first|(go_at_call 177;with_reducible refine(HA.o _).mono ?_;rintro e z ⟨rfl,rfl⟩)|(go_at_call 177;with_reducible refine(HB.o _).mono ?_;rintro e z ⟨rfl,rfl⟩))
   go_ret
   exact⟨rfl,rfl⟩
  |false=>
   rw[z2j hm] at HB
   have hr:cmpF a b= 1:=by unfold cmpF;rw[hn,hm];rfl
   rw[hr]
   clear hn hm hr
   simp only[if_true,Bool.false_eq_true,if_false] at HA HB
   go_enter Tryz.func132,Tryz.ntmps132
   go_wp2_with (first|(go_at_call 177;with_reducible refine(HA.o _).mono ?_;rintro e z ⟨rfl,rfl⟩)|(go_at_call 177;with_reducible refine(HB.o _).mono ?_;rintro e z ⟨rfl,rfl⟩))
   go_ret
   exact⟨rfl,rfl⟩
 |false=>
  rw[z2j hn] at HA
  cases hm:nanB b with
  |true=>
   rw[z2j hm] at HB
   have hr:cmpF a b= -1:=by unfold cmpF;rw[hn,hm];rfl
   rw[hr]
   clear hn hm hr
   simp only[if_true,Bool.false_eq_true,if_false] at HA HB
   go_enter Tryz.func132,Tryz.ntmps132
   go_wp2_with (first|(go_at_call 177;with_reducible refine(HA.o _).mono ?_;rintro e z ⟨rfl,rfl⟩)|(go_at_call 177;with_reducible refine(HB.o _).mono ?_;rintro e z ⟨rfl,rfl⟩))
   go_ret
   exact⟨rfl,rfl⟩
  |false=>
   rw[z2j hm] at HB
   simp only[Bool.false_eq_true,if_false] at HA HB
   have hr:cmpF a b= if(fOrd a b ==some .lt)= true\/(fOrd a b ==some .eq)= true/\rankZ a < rankZ b then -1
     else if(fOrd a b ==some .gt)= true\/(fOrd a b ==some .eq)= true/\rankZ b < rankZ a then 1 else 0:=by unfold cmpF;rw[hn,hm];rfl
   clear hn hm
   rcases ho:fOrd a b with _|⟨_|_|_⟩
   ·have hr2:cmpF a b= 0:=by rw[hr,ho];rfl
    rw[hr2]
    clear hr hr2
    have t1:(FloatKind.f64.format.order a b ==some .lt)= false:=by rw[show FloatKind.f64.format.order a b= _ from ho];rfl
    have t2:(FloatKind.f64.format.order a b ==some .eq)= false:=by rw[show FloatKind.f64.format.order a b= _ from ho];rfl
    have t3:(FloatKind.f64.format.order a b ==some .gt)= false:=by rw[show FloatKind.f64.format.order a b= _ from ho];rfl
    clear ho
    go_enter Tryz.func132,Tryz.ntmps132
    go_wp2_with (first|(go_at_call 177;with_reducible refine(HA.o _).mono ?_;rintro e z ⟨rfl,rfl⟩)|(go_at_call 177;with_reducible refine(HB.o _).mono ?_;rintro e z ⟨rfl,rfl⟩))
    go_ret
    exact⟨rfl,rfl⟩
   ·have hr2:cmpF a b=(-1):=by rw[hr,ho];rfl
    rw[hr2]
    clear hr hr2
    have t1:(FloatKind.f64.format.order a b ==some .lt)= true:=by rw[show FloatKind.f64.format.order a b= _ from ho];rfl
    have t2:(FloatKind.f64.format.order a b ==some .eq)= false:=by rw[show FloatKind.f64.format.order a b= _ from ho];rfl
    have t3:(FloatKind.f64.format.order a b ==some .gt)= false:=by rw[show FloatKind.f64.format.order a b= _ from ho];rfl
    clear ho
    go_enter Tryz.func132,Tryz.ntmps132
    go_wp2_with (first|(go_at_call 177;with_reducible refine(HA.o _).mono ?_;rintro e z ⟨rfl,rfl⟩)|(go_at_call 177;with_reducible refine(HB.o _).mono ?_;rintro e z ⟨rfl,rfl⟩))
    go_ret
    exact⟨rfl,rfl⟩
   ·rcases Int.lt_trichotomy (rankZ a) (rankZ b) with hz|hz|hz
    ·have hr2:cmpF a b=(-1):=by rw[hr,ho];simp[hz]
     rw[hr2]
     clear hr hr2
     have t1:(FloatKind.f64.format.order a b ==some .lt)= false:=by rw[show FloatKind.f64.format.order a b= _ from ho];rfl
     have t2:(FloatKind.f64.format.order a b ==some .eq)= true:=by rw[show FloatKind.f64.format.order a b= _ from ho];rfl
     have t3:(FloatKind.f64.format.order a b ==some .gt)= false:=by rw[show FloatKind.f64.format.order a b= _ from ho];rfl
     clear ho
     have hz2: ¬ rankZ b < rankZ a:=by omega
     go_enter Tryz.func132,Tryz.ntmps132
     go_wp2_with (first|(go_at_call 177;with_reducible refine(HA.o _).mono ?_;rintro e z ⟨rfl,rfl⟩)|(go_at_call 177;with_reducible refine(HB.o _).mono ?_;rintro e z ⟨rfl,rfl⟩))
     go_ret
     exact⟨rfl,rfl⟩
    ·have hr2:cmpF a b= 0:=by rw[hr,ho];simp[hz]
     rw[hr2]
     clear hr hr2
     have t1:(FloatKind.f64.format.order a b ==some .lt)= false:=by rw[show FloatKind.f64.format.order a b= _ from ho];rfl
     have t2:(FloatKind.f64.format.order a b ==some .eq)= true:=by rw[show FloatKind.f64.format.order a b= _ from ho];rfl
     have t3:(FloatKind.f64.format.order a b ==some .gt)= false:=by rw[show FloatKind.f64.format.order a b= _ from ho];rfl
     clear ho
     rw[hz] at HA
     have hz2: ¬ rankZ b < rankZ b:=Int.lt_irrefl _
     go_enter Tryz.func132,Tryz.ntmps132
     go_wp2_with (first|(go_at_call 177;with_reducible refine(HA.o _).mono ?_;rintro e z ⟨rfl,rfl⟩)|(go_at_call 177;with_reducible refine(HB.o _).mono ?_;rintro e z ⟨rfl,rfl⟩))
     go_ret
     exact⟨rfl,rfl⟩
    ·have hr2:cmpF a b= 1:=by rw[hr,ho];simp[show ¬ rankZ a < rankZ b by omega,hz]
     rw[hr2]
     clear hr hr2
     have t1:(FloatKind.f64.format.order a b ==some .lt)= false:=by rw[show FloatKind.f64.format.order a b= _ from ho];rfl
     have t2:(FloatKind.f64.format.order a b ==some .eq)= true:=by rw[show FloatKind.f64.format.order a b= _ from ho];rfl
     have t3:(FloatKind.f64.format.order a b ==some .gt)= false:=by rw[show FloatKind.f64.format.order a b= _ from ho];rfl
     clear ho
     have hz2: ¬ rankZ a < rankZ b:=by omega
     go_enter Tryz.func132,Tryz.ntmps132
     go_wp2_with (first|(go_at_call 177;with_reducible refine(HA.o _).mono ?_;rintro e z ⟨rfl,rfl⟩)|(go_at_call 177;with_reducible refine(HB.o _).mono ?_;rintro e z ⟨rfl,rfl⟩))
     go_ret
     exact⟨rfl,rfl⟩
   ·have hr2:cmpF a b= 1:=by rw[hr,ho];rfl
    rw[hr2]
    clear hr hr2
    have t1:(FloatKind.f64.format.order a b ==some .lt)= false:=by rw[show FloatKind.f64.format.order a b= _ from ho];rfl
    have t2:(FloatKind.f64.format.order a b ==some .eq)= false:=by rw[show FloatKind.f64.format.order a b= _ from ho];rfl
    have t3:(FloatKind.f64.format.order a b ==some .gt)= true:=by rw[show FloatKind.f64.format.order a b= _ from ho];rfl
    clear ho
    go_enter Tryz.func132,Tryz.ntmps132
    go_wp2_with (first|(go_at_call 177;with_reducible refine(HA.o _).mono ?_;rintro e z ⟨rfl,rfl⟩)|(go_at_call 177;with_reducible refine(HB.o _).mono ?_;rintro e z ⟨rfl,rfl⟩))
    go_ret
    exact⟨rfl,rfl⟩
end
section
open Go Go.RowKit
section
variable {α:Type} {f:α->α->Int} {l r:List α} {k:Nat} {x y:α}
theorem z0j (h:l[k]?= some x):l.drop k= x::l.drop (k+1):=by
 obtain⟨h1,h2⟩:=List.getElem?_eq_some_iff.1 h
 rw[← h2];exact List.drop_eq_getElem_cons h1
theorem z3i (hx:l[k]?= some x) (hy:r[k]?= some y):listC f (l.drop k) (r.drop k)= if f x y≠0 then f x y else listC f (l.drop (k+1)) (r.drop (k+1)):=by
 rw[z0j hx,z0j hy];rfl
theorem z3f (hx:l[k]?= some x) (hr:r.length<=k):listC f (l.drop k) (r.drop k)= 1:=by
 rw[z0j hx,List.drop_eq_nil_of_le hr];rfl
theorem z4f (hl:l.length<=k) (hr:k < r.length):listC f (l.drop k) (r.drop k)= -1:=by
 rw[List.drop_eq_nil_of_le hl,List.drop_eq_getElem_cons hr];rfl
theorem z3z (hl:l.length<=k) (hr:r.length<=k):listC f (l.drop k) (r.drop k)= 0:=by
 rw[List.drop_eq_nil_of_le hl,List.drop_eq_nil_of_le hr];rfl
end
theorem z1o {w:World} {B:Nat} {A:Option Addr} {n c:Nat} {l:List ByteArray} (h:SlAt w B 1 StrR (.slice A n c) l):n= l.length/\l.length<=9223372036854775807/\(0 < l.length->∃ b o,A= some ⟨b,o,none⟩/\b < B/\∀ (i:Nat) x,l[i]?= some x->w.cell? ⟨b,o+i,none⟩= some (.string x)/\x.size<=maxLen):=by
 obtain⟨h0,A',c',h1,h2⟩:=h
 injection h1 with h1 h3 h4
 subst h1 h3
 refine⟨rfl,h0,fun hp=> ?_⟩
 obtain⟨b,o,rfl,hb,h5⟩:=h2 hp
 refine⟨b,o,rfl,hb,fun i x hx=> ?_⟩
 obtain⟨cs,h6,h7,h8,h9⟩:=h5 i x hx
 subst h8
 have:=h7 0 (.string x) rfl
 rw[Nat.mul_one,Nat.add_zero] at this
 exact⟨this,h9⟩
theorem z7j (u v:Value) (l r:List ByteArray) (B:Nat) (w:World) (hu:SlAt w B 1 StrR u l) (hv:SlAt w B 1 StrR v r):
  Calls Tryz.prog 188 #[u,v] w fun e w'=>e= .returned (.int .i64 (listC cmpS l r))/\w'= w:=by
 obtain⟨_,A,ca,rfl,_⟩:=id hu
 obtain⟨_,D,cb,rfl,_⟩:=id hv
 obtain⟨_,hl,ha⟩:=z1o hu
 obtain⟨_,hr,hb⟩:=z1o hv
 have HA:=I ha
 have HB:=I hb
 have HS:=I (fun k x y=>z3i (f:=cmpS) (l:=l) (r:=r) (k:=k) (x:=x) (y:=y))
 have HL:=I (fun k x=>z3f (f:=cmpS) (l:=l) (r:=r) (k:=k) (x:=x))
 have HE:=I (fun k=>z4f (f:=cmpS) (l:=l) (r:=r) (k:=k))
 have HT:=I (fun k=>z3z (f:=cmpS) (l:=l) (r:=r) (k:=k))
 have H0:Hid (listC cmpS (l.drop 0) (r.drop 0)= listC cmpS l r):=I rfl
 have hl2:(l.length:Int)<=9223372036854775807:=by omega
 have hr2:(r.length:Int)<=9223372036854775807:=by omega
 clear ha hb hu hv
 generalize listC cmpS l r= res at*
 go_enter Tryz.func188,Tryz.ntmps188
 go_wp2
 go_loopg [11] l.length (fun q x u=>∃ k:Nat,k+q= l.length/\x= .int .i64 k/\u= w/\listC cmpS (l.drop k) (r.drop k)= res)
 case atStart=>exact⟨0,by omega,rfl,rfl,H0.o⟩
 case round=>
  obtain⟨k,hk,rfl,rfl,hres⟩:=hrel
  have HR:=I hres
  clear hres
  cases gk with
  |zero=>
   obtain rfl:k= l.length:=by omega
   have hge: ¬ ((l.length:Int) <(l.length:Int)):=by omega
   by_cases hlr:l.length < r.length
   ·have HV:=I ((HR.o).symm.trans (HE.o l.length (Nat.le_refl _) hlr))
    have t1:(l.length:Int) <(r.length:Int):=by omega
    clear HR hlr
    go_wp2
    go_ret
    exact⟨zt HV.o.symm,rfl⟩
   ·have HV:=I ((HR.o).symm.trans (HT.o l.length (Nat.le_refl _) (by omega)))
    have t1: ¬ ((l.length:Int) <(r.length:Int)):=by omega
    clear HR hlr
    go_wp2
    go_ret
    exact⟨zt HV.o.symm,rfl⟩
  |succ q=>
   have hlt:(k:Int) <(l.length:Int):=by omega
   obtain⟨x,hx⟩:∃ x,l[k]?= some x:=⟨_,List.getElem?_eq_getElem (by omega)⟩
   obtain⟨b1,o1,rfl,_,c1⟩:=HA.o (by omega)
   have d1:=(c1 k x hx).1
   clear c1
   by_cases hkr:k < r.length
   ·obtain⟨y,hy⟩:∃ y,r[k]?= some y:=⟨_,List.getElem?_eq_getElem hkr⟩
    obtain⟨b2,o2,rfl,_,c2⟩:=HB.o (by omega)
    have d2:=(c2 k y hy).1
    have hlt2:(k:Int) <(r.length:Int):=by omega
    have HV:=I ((HR.o).symm.trans (HS.o k x y hx hy))
    have HC:=I (fun w=>cmps x y w)
    clear c2 hx hy hkr
    generalize cmpS x y= cv at*
    by_cases hc:cv= 0
    ·subst hc
     have HV2:=I (HV.o.trans (if_neg (fun h=>h rfl)))
     clear HV
     go_wp2_with (go_at_call 215;refine(HC.o _).mono ?_;rintro e z ⟨rfl,rfl⟩)
     go_roundg q
     case measure=>omega
     case rel=>exact⟨k+1,by omega,by go_num,rfl,HV2.o.symm⟩
    ·have HV2:=I (HV.o.trans (if_pos hc))
     have t2:(cv !=0)= true:=by simpa using hc
     clear HV hc
     go_wp2_with (go_at_call 215;refine(HC.o _).mono ?_;rintro e z ⟨rfl,rfl⟩)
     go_ret
     exact⟨zt HV2.o.symm,rfl⟩
   ·have HV:=I ((HR.o).symm.trans (HL.o k x hx (by omega)))
    have hge:(r.length:Int)<=(k:Int):=by omega
    clear HR hkr hx
    go_wp2
    go_ret
    exact⟨zt HV.o.symm,rfl⟩
def or3 (a b c:Int):Int:=if a≠0 then a else if b≠0 then b else c
theorem zgx (p:Nat) (a b c:Int) (w:World) (h0:w.cell? ⟨p,0,none⟩= some (.int .i64 a)) (h1:w.cell? ⟨p,1,none⟩= some (.int .i64 b)) (h2:w.cell? ⟨p,2,none⟩= some (.int .i64 c)):
  Calls Tryz.prog 189 #[.slice (some ⟨p,0,none⟩) 3 3] w fun e w'=>e= .returned (.int .i64 (or3 a b c))/\w'= w:=by
 have H:Hid (∀ k:Nat,k < 3->w.cell? ⟨p,k,none⟩= some (.int .i64 (if k= 0 then a else if k= 1 then b else c))):=I fun k hk=>by
  match k,hk with
  |0,_=>exact h0
  |1,_=>exact h1
  |2,_=>exact h2
 have HR:Hid (or3 a b c= or3 a b c):=I rfl
 clear h0 h1 h2
 go_enter Tryz.func189,Tryz.ntmps189
 go_wp2
 go_loopg [8] 3 (fun q x u=>∃ k:Nat,k+q= 3/\x= .int .i64 k/\u= w/\∀ j,j < k->(if j= 0 then a else if j= 1 then b else c)= 0)
 case atStart=>exact⟨0,rfl,rfl,rfl,fun j hj=>absurd hj (Nat.not_lt_zero j)⟩
 case round=>
  obtain⟨k,hk,rfl,rfl,hz⟩:=hrel
  have HZ:=I hz
  clear hz
  cases gk with
  |zero=>
   have hge: ¬ ((k:Int) < 3):=by omega
   go_wp2
   go_ret
   refine⟨zt ?_,rfl⟩
   have e0:=HZ.o 0 (by omega)
   have e1:=HZ.o 1 (by omega)
   have e2:=HZ.o 2 (by omega)
   simp at e0 e1 e2
   unfold or3
   simp[e0,e1,e2]
  |succ q=>
   have hlt:(k:Int) < 3:=by omega
   have dk:=H.o k (by omega)
   have HV:Hid ((if k= 0 then a else if k= 1 then b else c)≠0->(if k= 0 then a else if k= 1 then b else c)= or3 a b c):=I fun hne=>by
    have e0:=HZ.o 0
    have e1:=HZ.o 1
    unfold or3
    have h3:k= 0\/k= 1\/k= 2:=by omega
    rcases h3 with rfl|rfl|rfl
    ·simp at hne ⊢;simp[hne]
    ·have:=e0 (by omega);simp at this hne ⊢;simp[this,hne]
    ·have:=e0 (by omega);have h4:=e1 (by omega);simp at this h4 hne ⊢;simp[this,h4]
   generalize hg:(if k= 0 then a else if k= 1 then b else c)= cv at*
   by_cases hc:cv= 0
   ·have t1:(cv !=0)= false:=by simp[hc]
    go_wp2
    go_roundg q
    case measure=>omega
    case rel=>exact⟨k+1,by omega,by go_num,rfl,fun j hj=>by
     by_cases e:j= k
     ·rw[e,hg];exact hc
     ·exact HZ.o j (by omega)⟩
   ·have t1:(cv !=0)= true:=by simpa using hc
    have HV2:=I (HV.o hc)
    clear hc
    go_wp2
    go_ret
    exact⟨zt HV2.o,rfl⟩
def leafK (k:Int):Bool:=decide (1<=k) && decide (k<=4)
theorem z7J (k:Int) (w:World):Calls Tryz.prog 143 #[.int .i64 k] w fun e w'=>e= .returned (.bool (leafK k))/\w'= w:=by
 unfold leafK
 by_cases h1:1<=k
 ·by_cases h2:k<=4
  ·have t1:decide (1<=k)= true:=decide_eq_true h1
   have t2:decide (k<=4)= true:=decide_eq_true h2
   rw[t1,t2]
   go_enter Tryz.func143,Tryz.ntmps143
   go_wp2
   go_ret
   exact⟨rfl,rfl⟩
  ·have t1:decide (1<=k)= true:=decide_eq_true h1
   have t2:decide (k<=4)= false:=decide_eq_false h2
   rw[t1,t2]
   go_enter Tryz.func143,Tryz.ntmps143
   go_wp2
   go_ret
   exact⟨rfl,rfl⟩
 ·have t1:decide (1<=k)= false:=decide_eq_false h1
  rw[t1]
  go_enter Tryz.func143,Tryz.ntmps143
  go_wp2
  go_ret
  exact⟨rfl,rfl⟩
end
section
open Go Go.RowKit
def rowV (k n n':Int) (f f':Nat) (s s':ByteArray) (ns ns':List ByteArray):Int:=
 if k= 1\/k= 2 then cmpI n n' else if k= 3 then cmpF f f' else if k= 4 then cmpS s s' else if k= 5 then 0 else if k= 6 then listC cmpS ns ns'
 else or3 (cmpI n n') (cmpS s s') (listC cmpS ns ns')
theorem z9y (k k' n n':Int) (f f':Nat) (s s':ByteArray) (ns ns':List ByteArray) (vn vn' vi vi':Value) (pa pb:Nat) (w:World)
  (ha:w.rangeAt pa 0 [.int .i64 k,.int .i64 n,.float .f64 f,.string s,vn,vi]) (hb:w.rangeAt pb 0 [.int .i64 k',.int .i64 n',.float .f64 f',.string s',vn',vi']) (hl:pa < w.heap.size/\pb < w.heap.size)
  (hf:f < 2 ^ 64) (hf':f' < 2 ^ 64) (hn:SlAt w w.heap.size 1 StrR vn ns) (hn':SlAt w w.heap.size 1 StrR vn' ns'):
  Calls Tryz.prog 142 #[.pointer (some ⟨pa,0,none⟩),.pointer (some ⟨pb,0,none⟩)] w fun e w'=>e= .returned (.int .i64 (rowV k n n' f f' s s' ns ns'))/\Below w.heap.size w w':=by
 have HL:=I hl
 have HA:=I ha
 have HB:=I hb
 have HN:=I hn
 have HN':=I hn'
 have HF:=I (And.intro hf hf')
 have d0:w.cell? ⟨pa,0,none⟩= some (.int .i64 k):=by have:=ha 0 _ rfl;simpa using this
 have d1:w.cell? ⟨pa,1,none⟩= some (.int .i64 n):=by have:=ha 1 _ rfl;simpa using this
 have e1:w.cell? ⟨pb,1,none⟩= some (.int .i64 n'):=by have:=hb 1 _ rfl;simpa using this
 have d2:w.cell? ⟨pa,2,none⟩= some (.float .f64 f):=by have:=ha 2 _ rfl;simpa using this
 have e2:w.cell? ⟨pb,2,none⟩= some (.float .f64 f'):=by have:=hb 2 _ rfl;simpa using this
 have d3:w.cell? ⟨pa,3,none⟩= some (.string s):=by have:=ha 3 _ rfl;simpa using this
 have e3:w.cell? ⟨pb,3,none⟩= some (.string s'):=by have:=hb 3 _ rfl;simpa using this
 have d4:w.cell? ⟨pa,4,none⟩= some vn:=by have:=ha 4 _ rfl;simpa using this
 have e4:w.cell? ⟨pb,4,none⟩= some vn':=by have:=hb 4 _ rfl;simpa using this
 clear ha hb hl hf hf' hn hn'
 by_cases k1:k= 1
 ·subst k1
  have HV:Hid (rowV 1 n n' f f' s s' ns ns'= cmpI n n'):=I rfl
  clear d2 e2 d3 e3 d4 e4
  go_enter Tryz.func142,Tryz.ntmps142
  go_wp2
  go_quiet ((go_at_call 186;exact Calls.quiet_of_same (cmp64 n n' _)))
  go_wp2
  go_ret
  exact⟨zt HV.o.symm,zr (Below.refl _ w) _⟩
 by_cases k2:k= 2
 ·subst k2
  have HV:Hid (rowV 2 n n' f f' s s' ns ns'= cmpI n n'):=I rfl
  clear d2 e2 d3 e3 d4 e4
  go_enter Tryz.func142,Tryz.ntmps142
  go_wp2
  go_quiet ((go_at_call 186;exact Calls.quiet_of_same (cmp64 n n' _)))
  go_wp2
  go_ret
  exact⟨zt HV.o.symm,zr (Below.refl _ w) _⟩
 by_cases k3:k= 3
 ·subst k3
  have HV:Hid (rowV 3 n n' f f' s s' ns ns'= cmpF f f'):=I rfl
  clear d1 e1 d3 e3 d4 e4
  go_enter Tryz.func142,Tryz.ntmps142
  go_wp2
  go_quiet ((go_at_call 132;exact Calls.quiet_of_same (z0E f f' HF.o.1 HF.o.2 _)))
  go_wp2
  go_ret
  exact⟨zt HV.o.symm,zr (Below.refl _ w) _⟩
 by_cases k4:k= 4
 ·subst k4
  have HV:Hid (rowV 4 n n' f f' s s' ns ns'= cmpS s s'):=I rfl
  clear d1 e1 d2 e2 d4 e4
  go_enter Tryz.func142,Tryz.ntmps142
  go_wp2
  go_quiet ((go_at_call 187;exact Calls.quiet_of_same (zbC s s' _)))
  go_wp2
  go_ret
  exact⟨zt HV.o.symm,zr (Below.refl _ w) _⟩
 by_cases k6:k= 6
 ·subst k6
  have HV:Hid (rowV 6 n n' f f' s s' ns ns'= listC cmpS ns ns'):=I rfl
  clear d1 e1 d2 e2 d3 e3
  go_enter Tryz.func142,Tryz.ntmps142
  go_wp2
  go_quiet ((go_at_call 188;exact Calls.quiet_of_same (z7j vn vn' ns ns' w.heap.size _ (HN.o.below (zr (Below.refl _ w) _) fun _ _ _ h=>h) (HN'.o.below (zr (Below.refl _ w) _) fun _ _ _ h=>h))))
  go_wp2
  go_ret
  exact⟨zt HV.o.symm,zr (Below.refl _ w) _⟩
 by_cases k5:k= 5
 ·subst k5
  have HV:Hid (rowV 5 n n' f f' s s' ns ns'= 0):=I rfl
  clear d1 e1 d2 e2 d3 e3 d4 e4
  go_enter Tryz.func142,Tryz.ntmps142
  go_wp2
  go_ret
  exact⟨zt HV.o.symm,Below.refl _ w⟩
 have HV:Hid (rowV k n n' f f' s s' ns ns'= or3 (cmpI n n') (cmpS s s') (listC cmpS ns ns')):=I (by unfold rowV;rw[if_neg (by omega),if_neg k3,if_neg k4,if_neg k5,if_neg k6])
 have t1:(k ==1)= false:=by simpa using k1
 have t2:(k ==2)= false:=by simpa using k2
 have t3:(k ==3)= false:=by simpa using k3
 have t4:(k ==4)= false:=by simpa using k4
 have t5:(k ==5)= false:=by simpa using k5
 have t6:(k ==6)= false:=by simpa using k6
 clear d1 e1 d2 e2 d3 e3 d4 e4 k1 k2 k3 k4 k5 k6
 go_enter Tryz.func142,Tryz.ntmps142
 go_upto_region 13 with (fail)
 clear d0 t1 t2 t3 t4 t5 t6
 refine zF [(0,true),(1,true),(2,true),(3,true),(4,true),(5,true),(6,true),(7,true),(9,true),(10,true),(11,true),(12,true),(13,true),(14,true),(15,true),(16,true),(18,true),(19,true),(20,true),(21,true),(22,true),(23,true),(24,true),(25,true),(8,false),(17,false),(26,false),(27,false),(28,false),(29,true)]
  (fun z=>Below w.heap.size w z) (by kernel_rfl) (by kernel_rfl) (by kernel_rfl) rfl (by intro c a d v w h;cases d<;>exact h) ?_
 have hs:Below w.heap.size w w.drew:=(Below.refl _ w).drew
 have HCA:Hid (∀ z,Below w.heap.size w z->∀ (i:Nat) v,([.int .i64 k,.int .i64 n,.float .f64 f,.string s,vn,vi]:List Value)[i]?= some v->z.cell? ⟨pa,i,none⟩= some v):=I fun z hz i v hv=>by have:=HA.o i v hv;rw[Nat.zero_add] at this;exact(hz.cell (p:=⟨pa,i,none⟩) HL.o.1).trans this
 have HCB:Hid (∀ z,Below w.heap.size w z->∀ (i:Nat) v,([.int .i64 k',.int .i64 n',.float .f64 f',.string s',vn',vi']:List Value)[i]?= some v->z.cell? ⟨pb,i,none⟩= some v):=I fun z hz i v hv=>by have:=HB.o i v hv;rw[Nat.zero_add] at this;exact(hz.cell (p:=⟨pb,i,none⟩) HL.o.2).trans this
 refine zh (some 57) (.pointer (some ⟨pa,0,none⟩)) _ _ rfl rfl rfl (by exact wA rfl) hs rfl ?_
 go_frame
 refine z8 (some 58) (.pointer (some ⟨pa,0,none⟩)) _ rfl rfl (by exact wA rfl) hs (fun z hz=>by go_simp) ?_
 go_frame
 refine z8 (some 59) (.pointer (some ⟨pa,1,none⟩)) _ rfl rfl (by exact wA rfl) hs (fun z hz=>by go_simp) ?_
 go_frame
 refine z8 (some 60) (.int .i64 n) _ rfl rfl (by exact wA rfl) hs (fun z hz=>by have dd:=HCA.o z hz 1 (.int .i64 n) rfl;go_simp) ?_
 go_frame
 refine zh (some 61) (.pointer (some ⟨pb,0,none⟩)) _ _ rfl rfl rfl (by exact wA rfl) hs rfl ?_
 go_frame
 refine z8 (some 62) (.pointer (some ⟨pb,0,none⟩)) _ rfl rfl (by exact wA rfl) hs (fun z hz=>by go_simp) ?_
 go_frame
 refine z8 (some 63) (.pointer (some ⟨pb,1,none⟩)) _ rfl rfl (by exact wA rfl) hs (fun z hz=>by go_simp) ?_
 go_frame
 refine z8 (some 64) (.int .i64 n') _ rfl rfl (by exact wA rfl) hs (fun z hz=>by have dd:=HCB.o z hz 1 (.int .i64 n') rfl;go_simp) ?_
 go_frame
 refine zh (some 66) (.pointer (some ⟨pa,0,none⟩)) _ _ rfl rfl rfl (by exact wA rfl) hs rfl ?_
 go_frame
 refine z8 (some 67) (.pointer (some ⟨pa,0,none⟩)) _ rfl rfl (by exact wA rfl) hs (fun z hz=>by go_simp) ?_
 go_frame
 refine z8 (some 68) (.pointer (some ⟨pa,3,none⟩)) _ rfl rfl (by exact wA rfl) hs (fun z hz=>by go_simp) ?_
 go_frame
 refine z8 (some 69) (.string s) _ rfl rfl (by exact wA rfl) hs (fun z hz=>by have dd:=HCA.o z hz 3 (.string s) rfl;go_simp) ?_
 go_frame
 refine zh (some 70) (.pointer (some ⟨pb,0,none⟩)) _ _ rfl rfl rfl (by exact wA rfl) hs rfl ?_
 go_frame
 refine z8 (some 71) (.pointer (some ⟨pb,0,none⟩)) _ rfl rfl (by exact wA rfl) hs (fun z hz=>by go_simp) ?_
 go_frame
 refine z8 (some 72) (.pointer (some ⟨pb,3,none⟩)) _ rfl rfl (by exact wA rfl) hs (fun z hz=>by go_simp) ?_
 go_frame
 refine z8 (some 73) (.string s') _ rfl rfl (by exact wA rfl) hs (fun z hz=>by have dd:=HCB.o z hz 3 (.string s') rfl;go_simp) ?_
 go_frame
 refine zh (some 75) (.pointer (some ⟨pa,0,none⟩)) _ _ rfl rfl rfl (by exact wA rfl) hs rfl ?_
 go_frame
 refine z8 (some 76) (.pointer (some ⟨pa,0,none⟩)) _ rfl rfl (by exact wA rfl) hs (fun z hz=>by go_simp) ?_
 go_frame
 refine z8 (some 77) (.pointer (some ⟨pa,4,none⟩)) _ rfl rfl (by exact wA rfl) hs (fun z hz=>by go_simp) ?_
 go_frame
 refine z8 (some 78) vn _ rfl rfl (by exact wA rfl) hs (fun z hz=>by have dd:=HCA.o z hz 4 vn rfl;go_simp) ?_
 go_frame
 refine zh (some 79) (.pointer (some ⟨pb,0,none⟩)) _ _ rfl rfl rfl (by exact wA rfl) hs rfl ?_
 go_frame
 refine z8 (some 80) (.pointer (some ⟨pb,0,none⟩)) _ rfl rfl (by exact wA rfl) hs (fun z hz=>by go_simp) ?_
 go_frame
 refine z8 (some 81) (.pointer (some ⟨pb,4,none⟩)) _ rfl rfl (by exact wA rfl) hs (fun z hz=>by go_simp) ?_
 go_frame
 refine z8 (some 82) vn' _ rfl rfl (by exact wA rfl) hs (fun z hz=>by have dd:=HCB.o z hz 4 vn' rfl;go_simp) ?_
 go_frame
 refine zx (some 65) 186 Tryz.func186 (by kernel_rfl) (by kernel_rfl) [.int .i64 n,.int .i64 n'] _ _ _ rfl rfl rfl (by exact wA rfl) rfl ?_
 refine(cmp64 n n' _).mono ?_
 rintro e z1 ⟨rfl,rfl⟩
 refine⟨.int .i64 (cmpI n n'),rfl,hs,?_⟩
 go_frame
 refine zx (some 74) 187 Tryz.func187 (by kernel_rfl) (by kernel_rfl) [.string s,.string s'] _ _ _ rfl rfl rfl (by exact wA rfl) rfl ?_
 refine(zbC s s' _).mono ?_
 rintro e z1 ⟨rfl,rfl⟩
 refine⟨.int .i64 (cmpS s s'),rfl,hs,?_⟩
 go_frame
 refine zx (some 83) 188 Tryz.func188 (by kernel_rfl) (by kernel_rfl) [vn,vn'] _ _ _ rfl rfl rfl (by exact wA rfl) rfl ?_
 refine(z7j vn vn' ns ns' w.heap.size _ (HN.o.below hs fun _ _ _ h=>h) (HN'.o.below hs fun _ _ _ h=>h)).mono ?_
 rintro e z1 ⟨rfl,rfl⟩
 refine⟨.int .i64 (listC cmpS ns ns'),rfl,hs,?_⟩
 go_frame
 generalize cmpI n n'= r1 at*
 generalize cmpS s s'= r2 at*
 generalize listC cmpS ns ns'= r3 at*
 have hs2:Below w.heap.size w (w.drew.alloc (.cells #[.int .i64 r1,.int .i64 r2,.int .i64 r3] 3)):=hs.alloc hs.size _
 have hce:=z0l w.drew [.int .i64 r1,.int .i64 r2,.int .i64 r3] 3
 refine z1y (some 84) (.slice (some ⟨w.drew.heap.size,0,none⟩) 3 3) (w.drew.alloc (.cells #[.int .i64 r1,.int .i64 r2,.int .i64 r3] 3)) _ rfl rfl (by exact wA rfl) (by go_simp) hs2 ?_
 go_frame
 refine zx (some 85) 189 Tryz.func189 (by kernel_rfl) (by kernel_rfl) [.slice (some ⟨w.drew.heap.size,0,none⟩) 3 3] _ _ _ rfl rfl rfl (by exact wA rfl) rfl ?_
 refine(zgx _ r1 r2 r3 _ (hce 0 _ rfl) (hce 1 _ rfl) (hce 2 _ rfl)).mono ?_
 rintro e z1 ⟨rfl,rfl⟩
 refine⟨.int .i64 (or3 r1 r2 r3),rfl,hs2,?_⟩
 go_frame
 refine z21 (some 4) (.int .i64 (or3 r1 r2 r3)) _ _ rfl rfl rfl (by exact wA rfl) hs2 rfl ?_
 go_frame
 refine z0a ?_
 have HBF:=I hs2
 clear hs hs2 hce
 go_wp2
 go_ret
 exact⟨zt HV.o.symm,HBF.o⟩
end
section
open Go Go.RowKit
mutual
def ordV:VT->VT->Int
 | .mk k n f s ns its,.mk k' n' f' s' ns' its'=>
  if cmpI k k'≠0 then cmpI k k' else if rowV k n n' f f' s s' ns ns'≠0\/leafK k= true then rowV k n n' f f' s s' ns ns' else ordL its its'
def ordL:List VT->List VT->Int
 |[],[]=>0
 |[],_::_=> -1
 |_::_,[]=>1
 |a::l,b::r=>if ordV a b≠0 then ordV a b else ordL l r
end
theorem z4B:∀ l r:List VT,ordL l r= listC ordV l r
 |[],[]=>by simp[ordL,listC]
 |[],_::_=>by simp[ordL,listC]
 |_::_,[]=>by simp[ordL,listC]
 |a::l,b::r=>by
  rw[ordL,listC,z4B l r]
theorem zk {w:World} {B:Nat} {cs:List Value} {t:VT} (h:ValAt w B cs t):cs.length= 6/\∀ u∈cs,u.oneCell'= true:=by
 cases t with
 |mk k n f s ns its=>
  obtain⟨vn,vi,rfl,_,_,_,_,h1,_,h2⟩:=h.inv
  obtain⟨_,A,c,rfl,_⟩:=h1
  obtain⟨_,A',c',rfl,_⟩:=h2
  refine⟨rfl,fun u hu=> ?_⟩
  simp only[List.mem_cons,List.not_mem_nil,or_false] at hu
  rcases hu with rfl|rfl|rfl|rfl|rfl|rfl<;>rfl
theorem ValAt.next {w w':World} {cs:List Value} {t:VT} (h:ValAt w w.heap.size cs t) (hb:Below w.heap.size w w'):ValAt w' w'.heap.size cs t:=(h.under hb).more hb.size
theorem z0K {w:World} {v:Value} {l:List VT} (h:SlAt w w.heap.size 6 (ValAt w w.heap.size) v l):∃ A c,v= .slice A l.length c/\l.length<=9223372036854775807/\
  (0 < l.length->∃ b o,A= some ⟨b,o,none⟩/\b < w.heap.size/\∀ (i:Nat) x,l[i]?= some x->∃ cs:List Value,w.rangeAt b (o+i*6) cs/\ValAt w w.heap.size cs x):=by
 obtain⟨h0,A,c,h1,h2⟩:=h
 refine⟨A,c,h1,h0,fun hp=> ?_⟩
 obtain⟨b,o,h3,h4,h5⟩:=h2 hp
 refine⟨b,o,h3,h4,fun i x hx=> ?_⟩
 obtain⟨cs,_,h7,h8⟩:=h5 i x hx
 exact⟨cs,h7,h8⟩
def z6g (r:Int) (w:World) (e:Ending) (w':World):Prop:=e= .returned (.int .i64 r)/\Below w.heap.size w w'
theorem ze2 (l r:List VT) (u v:Value) (w:World) (hu:SlAt w w.heap.size 6 (ValAt w w.heap.size) u l) (hv:SlAt w w.heap.size 6 (ValAt w w.heap.size) v r)
  (hF:∀ x∈l,∀ y cs cs' z,ValAt z z.heap.size cs x->ValAt z z.heap.size cs' y->Calls Tryz.prog 146 #[.agg ⟨cs⟩,.agg ⟨cs'⟩] z (z6g (ordV x y) z)):
  Calls Tryz.prog 191 #[u,v,.func (.func 146) #[] #[]] w (z6g (listC ordV l r) w):=by
 obtain⟨A,ca,rfl,hl,ha⟩:=z0K hu
 obtain⟨D,cb,rfl,hr,hb⟩:=z0K hv
 have HA:=I ha
 have HB:=I hb
 have HF:=I hF
 have HS:=I (fun k x y=>z3i (f:=ordV) (l:=l) (r:=r) (k:=k) (x:=x) (y:=y))
 have HL:=I (fun k x=>z3f (f:=ordV) (l:=l) (r:=r) (k:=k) (x:=x))
 have HE:=I (fun k=>z4f (f:=ordV) (l:=l) (r:=r) (k:=k))
 have HT:=I (fun k=>z3z (f:=ordV) (l:=l) (r:=r) (k:=k))
 have H0:Hid (listC ordV (l.drop 0) (r.drop 0)= listC ordV l r):=I rfl
 have hl2:(l.length:Int)<=9223372036854775807:=by omega
 have hr2:(r.length:Int)<=9223372036854775807:=by omega
 clear ha hb hu hv hF
 generalize listC ordV l r= res at*
 go_enter Tryz.func191,Tryz.ntmps191
 go_wp2
 go_loopg [13] l.length (fun q x u=>∃ k:Nat,k+q= l.length/\x= .int .i64 k/\Below w.heap.size w u/\listC ordV (l.drop k) (r.drop k)= res)
 case atStart=>exact⟨0,by omega,rfl,Below.refl _ _,H0.o⟩
 case round=>
  obtain⟨k,hk,rfl,hb,hres⟩:=hrel
  have HR:=I hres
  have HBK:=I hb
  clear hres hb
  cases gk with
  |zero=>
   obtain rfl:k= l.length:=by omega
   have hge: ¬ ((l.length:Int) <(l.length:Int)):=by omega
   by_cases hlr:l.length < r.length
   ·have HV:=I ((HR.o).symm.trans (HE.o l.length (Nat.le_refl _) hlr))
    have t1:(l.length:Int) <(r.length:Int):=by omega
    clear HR hlr
    go_wp2
    go_ret
    exact⟨zt HV.o.symm,HBK.o⟩
   ·have HV:=I ((HR.o).symm.trans (HT.o l.length (Nat.le_refl _) (by omega)))
    have t1: ¬ ((l.length:Int) <(r.length:Int)):=by omega
    clear HR hlr
    go_wp2
    go_ret
    exact⟨zt HV.o.symm,HBK.o⟩
  |succ q=>
   have hlt:(k:Int) <(l.length:Int):=by omega
   obtain⟨x,hx⟩:∃ x,l[k]?= some x:=⟨_,List.getElem?_eq_getElem (by omega)⟩
   obtain⟨b1,o1,rfl,hb1,c1⟩:=HA.o (by omega)
   obtain⟨cs,hcs,hvx⟩:=c1 k x hx
   have HR1:=I (za hcs HBK.o hb1)
   have HVX:=I (ValAt.next hvx HBK.o)
   have HCL:=I (zk hvx)
   have HMX:=I (List.mem_of_getElem? hx)
   have HKX:=I hx
   clear c1 hcs hvx hx
   go_upto_region 4 with (first|((with_reducible refine z7 27 _ rfl ?_ b1 (o1+k*6) cs _ rfl HR1.o Tryz.underlying27 rfl ?_ ?_);exact wA rfl;rw[HCL.o.1];kernel_rfl)|((with_reducible refine z0c 27 _ _ rfl ?hwb wr ?znb cs ?hwldb ?hzb ?hxb ?hyb ?hib ?h1b ?_);(case hwldb=>rfl);(case hxb=>rfl);(case hyb=>rfl);(case hwb=>exact wA rfl);(case hzb=>rw[HCL.o.1];rfl);(case hib=>rw[HCL.o.1];kernel_rfl);(case h1b=>exact HCL.o.2);intro Z hbx;have HX:=I hbx;clear hbx))
   have HBZ:=I (HBK.o.trans (HX.o.below.mono HBK.o.size))
   have HRA:=I HX.o.range
   have HVX2:=I (ValAt.next HVX.o HX.o.below)
   obtain⟨pa,hpa⟩:∃ pa,wr.heap.size= pa:=⟨_,rfl⟩
   rw[hpa] at HRA
   have HPA:Hid (pa < Z.heap.size):=I (hpa▸HX.o.size)
   rw[hpa]
   clear hpa HR1 HVX HX
   by_cases hkr:k < r.length
   ·obtain⟨y,hy⟩:∃ y,r[k]?= some y:=⟨_,List.getElem?_eq_getElem hkr⟩
    obtain⟨b2,o2,rfl,hb2,c2⟩:=HB.o (by omega)
    obtain⟨cs',hcs,hvy⟩:=c2 k y hy
    have HR2:=I (za hcs HBZ.o hb2)
    have HVY:=I (ValAt.next hvy HBZ.o)
    have HCM:=I (zk hvy)
    have hlt2:(k:Int) <(r.length:Int):=by omega
    have HV:=I ((HR.o).symm.trans (HS.o k x y HKX.o hy))
    clear c2 hcs hvy hy hkr
    go_upto_region 7 with (first|((with_reducible refine z7 27 _ rfl ?_ b2 (o2+k*6) cs' _ rfl HR2.o Tryz.underlying27 rfl ?_ ?_);exact wA rfl;rw[HCM.o.1];kernel_rfl)|((with_reducible refine z0c 27 _ _ rfl ?hwd Z ?znd cs' ?hwldd ?hzd ?hxd ?hyd ?I ?h1d ?_);(case hwldd=>rfl);(case hxd=>rfl);(case hyd=>rfl);(case hwd=>exact wA rfl);(case hzd=>rw[HCM.o.1];rfl);(case I=>rw[HCM.o.1];kernel_rfl);(case h1d=>exact HCM.o.2);intro Z2 hbx;have HX2:=I hbx;clear hbx))
    have HBZ2:=I (HBZ.o.trans (HX2.o.below.mono HBZ.o.size))
    have HRA2:=I (za HRA.o HX2.o.below HPA.o)
    have HRB2:=I HX2.o.range
    have HVX3:=I (ValAt.next HVX2.o HX2.o.below)
    have HVY3:=I (ValAt.next HVY.o HX2.o.below)
    obtain⟨pb,hpb⟩:∃ pb,Z.heap.size= pb:=⟨_,rfl⟩
    rw[hpb] at HRB2
    rw[hpb]
    have HC:=I (HF.o x HMX.o y cs cs' Z2 HVX3.o HVY3.o)
    clear hpb HX2 HR2 HVX2 HVY HRA HPA HVX3 HVY3
    generalize ordV x y= cv at*
    by_cases hc:cv= 0
    ·subst hc
     have HV2:=I (HV.o.trans (if_neg (fun h=>h rfl)))
     clear HV
     go_wp2_with (first|((with_reducible refine z7 27 _ rfl ?_ pa 0 cs _ rfl HRA2.o Tryz.underlying27 rfl ?_ ?_);exact wA rfl;rw[HCL.o.1];kernel_rfl)|((with_reducible refine z7 27 _ rfl ?_ pb 0 cs' _ rfl HRB2.o Tryz.underlying27 rfl ?_ ?_);exact wA rfl;rw[HCM.o.1];kernel_rfl)|(go_at_call 146;refine HC.o.mono ?_;rintro e z ⟨rfl,hbz⟩;have HB3:=I hbz;clear hbz))
     go_roundg q
     case measure=>omega
     case rel=>exact⟨k+1,by omega,by go_num,HBZ2.o.trans (HB3.o.mono HBZ2.o.size),HV2.o.symm⟩
    ·have HV2:=I (HV.o.trans (if_pos hc))
     have t2:(cv !=0)= true:=by simpa using hc
     clear HV hc
     go_wp2_with (first|((with_reducible refine z7 27 _ rfl ?_ pa 0 cs _ rfl HRA2.o Tryz.underlying27 rfl ?_ ?_);exact wA rfl;rw[HCL.o.1];kernel_rfl)|((with_reducible refine z7 27 _ rfl ?_ pb 0 cs' _ rfl HRB2.o Tryz.underlying27 rfl ?_ ?_);exact wA rfl;rw[HCM.o.1];kernel_rfl)|(go_at_call 146;refine HC.o.mono ?_;rintro e z ⟨rfl,hbz⟩;have HB3:=I hbz;clear hbz))
     go_ret
     exact⟨zt HV2.o.symm,HBZ2.o.trans (HB3.o.mono HBZ2.o.size)⟩
   ·have HV:=I ((HR.o).symm.trans (HL.o k x HKX.o (by omega)))
    have hge:(r.length:Int)<=(k:Int):=by omega
    clear HR hkr
    go_wp2
    go_ret
    exact⟨zt HV.o.symm,HBZ.o⟩
theorem zgF:∀ (t t':VT) (cs cs':List Value) (w:World),ValAt w w.heap.size cs t->ValAt w w.heap.size cs' t'->Calls Tryz.prog 146 #[.agg ⟨cs⟩,.agg ⟨cs'⟩] w (z6g (ordV t t') w):=by
 intro t
 induction t using VT.ind with
 |h k n f s ns its ih=>
  intro t' cs cs' w hv hv'
  cases t' with
  |mk k' n' f' s' ns' its'=>
  have IH:=I ih
  have HVA:=I hv
  have HVB:=I hv'
  obtain⟨vn,vi,rfl,_,_,hf,_,hn,_,hi⟩:=hv.inv
  obtain⟨vn',vi',rfl,_,_,hf',_,hn',_,hi'⟩:=hv'.inv
  have HF:=I (And.intro (wf64 hf) (wf64 hf'))
  have HN:=I hn
  have HN':=I hn'
  have HI:=I hi
  have HI':=I hi'
  have HO:Hid (ordV (.mk k n f s ns its) (.mk k' n' f' s' ns' its')= if cmpI k k'≠0 then cmpI k k' else if rowV k n n' f f' s s' ns ns'≠0\/leafK k= true then rowV k n n' f f' s s' ns ns' else listC ordV its its'):=I (by rw[ordV,z4B])
  clear ih hv hv' hf hf' hn hn' hi hi'
  generalize hres:ordV (.mk k n f s ns its) (.mk k' n' f' s' ns' its')= res at*
  clear hres
  go_enter Tryz.func146,Tryz.ntmps146
  go_upto_region 1 with (fail)
  have HA:=I (zm w [.int .i64 k,.int .i64 n,.float .f64 f,.string s,vn,vi] 27)
  have HB1:=I (zc w (.cells ⟨[.int .i64 k,.int .i64 n,.float .f64 f,.string s,vn,vi]⟩ 27))
  have HS1:=I (zw w (.cells ⟨[.int .i64 k,.int .i64 n,.float .f64 f,.string s,vn,vi]⟩ 27))
  have HSE:Hid ((w.alloc (.cells ⟨[.int .i64 k,.int .i64 n,.float .f64 f,.string s,vn,vi]⟩ 27)).heap.size= w.heap.size+1):=I (by simp)
  generalize w.alloc (.cells ⟨[.int .i64 k,.int .i64 n,.float .f64 f,.string s,vn,vi]⟩ 27)= W1 at*
  have HB:=I (zm W1 [.int .i64 k',.int .i64 n',.float .f64 f',.string s',vn',vi'] 27)
  have HB2:=I (zc W1 (.cells ⟨[.int .i64 k',.int .i64 n',.float .f64 f',.string s',vn',vi']⟩ 27))
  have HS2:=I (zw W1 (.cells ⟨[.int .i64 k',.int .i64 n',.float .f64 f',.string s',vn',vi']⟩ 27))
  generalize W1.alloc (.cells ⟨[.int .i64 k',.int .i64 n',.float .f64 f',.string s',vn',vi']⟩ 27)= W at*
  have HAW:=I (za HA.o HB2.o HS1.o)
  have HBW:=I (HB1.o.trans (HB2.o.mono HB1.o.size))
  have HLT:=I (Nat.lt_of_lt_of_le HS1.o HB2.o.size)
  rw[HSE.o] at HB HS2
  obtain⟨pb,hpb⟩:∃ pb,w.heap.size+1= pb:=⟨_,rfl⟩
  rw[hpb] at HB HS2
  rw[hpb]
  have d0:W.cell? ⟨w.heap.size,0,none⟩= some (.int .i64 k):=by have:=HAW.o 0 _ rfl;simpa using this
  have e0:W.cell? ⟨pb,0,none⟩= some (.int .i64 k'):=by have:=HB.o 0 _ rfl;simpa using this
  have HRW:=I (z9y k k' n n' f f' s s' ns ns' vn vn' vi vi' w.heap.size pb W HAW.o HB.o ⟨HLT.o,HS2.o⟩ HF.o.1 HF.o.2 ((HN.o.below HBW.o fun _ _ _ h=>h).more HBW.o.size) ((HN'.o.below HBW.o fun _ _ _ h=>h).more HBW.o.size))
  have HCK:=I (fun w=>cmpi k k' w)
  have HLF:=I (fun w=>z7J k w)
  clear HA HB1 HS1 HSE HB2 hpb
  generalize cmpI k k'= ck at*
  by_cases hck:ck= 0
  ·subst hck
   have HO2:=I (HO.o.trans (if_neg (fun h=>h rfl)))
   clear HO
   generalize rowV k n n' f f' s s' ns ns'= rv at*
   by_cases hrv:rv= 0
   ·subst hrv
    cases hlf:leafK k with
    |true=>
     have HO3:=I (HO2.o.trans (if_pos (.inr hlf)))
     rw[hlf] at HLF
     clear HO2 hlf
     go_wp2_with (first|(go_at_call 190;refine(HCK.o _).mono ?_;rintro e z1 ⟨rfl,rfl⟩)|(go_at_call 142;refine HRW.o.mono ?_;rintro e w2 ⟨rfl,hb2⟩;have HB2:=I hb2;have d0':=(hb2.cell (p:=⟨w.heap.size,0,none⟩) HLT.o).trans d0;clear hb2)|(go_at_call 143;refine(HLF.o _).mono ?_;rintro e z1 ⟨rfl,rfl⟩))
     go_ret
     exact⟨zt HO3.o.symm,HBW.o.trans (HB2.o.mono HBW.o.size)⟩
    |false=>
     have HO3:=I (HO2.o.trans (if_neg (fun h=>h.elim (fun h=>h rfl) (fun h=>by rw[hlf] at h;cases h))))
     rw[hlf] at HLF
     clear HO2 hlf
     go_upto_region 5 with (first|(go_at_call 190;refine(HCK.o _).mono ?_;rintro e z1 ⟨rfl,rfl⟩)|(go_at_call 142;refine HRW.o.mono ?_;rintro e w2 ⟨rfl,hb2⟩;have HB2:=I hb2;have d0':=(hb2.cell (p:=⟨w.heap.size,0,none⟩) HLT.o).trans d0;clear hb2))
     have HBT:=I (HBW.o.trans (HB2.o.mono HBW.o.size))
     have d5:w2.cell? ⟨w.heap.size,5,none⟩= some vi:=by have:=HAW.o 5 vi rfl;rw[Nat.zero_add] at this;exact(HB2.o.cell (p:=⟨w.heap.size,5,none⟩) HLT.o).trans this
     have e5:w2.cell? ⟨pb,5,none⟩= some vi':=by have:=HB.o 5 vi' rfl;rw[Nat.zero_add] at this;exact(HB2.o.cell (p:=⟨pb,5,none⟩) HS2.o).trans this
     have HCF:=I (ze2 its its' vi vi' w2 ((HI.o.below HBT.o fun _ _ _ h=>ValAt.under h HBT.o).more HBT.o.size|>.weak fun _ _ h=>h.more HBT.o.size) ((HI'.o.below HBT.o fun _ _ _ h=>ValAt.under h HBT.o).more HBT.o.size|>.weak fun _ _ h=>h.more HBT.o.size) (fun x hx y cs cs' z h1 h2=>IH.o x hx y cs cs' z h1 h2))
     clear d0 e0 HRW HAW HB
     go_wp2_with (first|(go_at_call 143;refine(HLF.o _).mono ?_;rintro e z1 ⟨rfl,rfl⟩)|(go_at_call 191;refine HCF.o.mono ?_;rintro e z1 ⟨rfl,hb3⟩;have HB3:=I hb3;clear hb3))
     go_ret
     exact⟨zt HO3.o.symm,HBT.o.trans (HB3.o.mono HBT.o.size)⟩
   ·have HO3:=I (HO2.o.trans (if_pos (.inl hrv)))
    have t2:(rv !=0)= true:=by simpa using hrv
    clear HO2 hrv
    go_wp2_with (first|(go_at_call 190;refine(HCK.o _).mono ?_;rintro e z1 ⟨rfl,rfl⟩)|(go_at_call 142;refine HRW.o.mono ?_;rintro e w2 ⟨rfl,hb2⟩;have HB2:=I hb2;clear hb2))
    go_ret
    exact⟨zt HO3.o.symm,HBW.o.trans (HB2.o.mono HBW.o.size)⟩
  ·have HO2:=I (HO.o.trans (if_pos hck))
   have t2:(ck !=0)= true:=by simpa using hck
   clear HO hck
   go_wp2_with (first|(go_at_call 190;refine(HCK.o _).mono ?_;rintro e z1 ⟨rfl,rfl⟩))
   go_ret
   exact⟨zt HO2.o.symm,HBW.o⟩
end
section
open Go Go.RowKit
mutual
def eqV:VT->VT->Bool
 | .mk k n f s ns its,.mk k' n' f' s' ns' its'=>
  if k≠k' then false else if k= 3 then(fOrd f f' ==some .eq) else if rowV k n n' f f' s s' ns ns'≠0 then false else if leafK k= true then true else eqL its its'
def eqL:List VT->List VT->Bool
 |[],[]=>true
 |a::l,b::r=>eqV a b && eqL l r
 |[],_::_=>false
 |_::_,[]=>false
end
theorem zdP {l r:List VT} {k:Nat} {x y:VT} (hx:l[k]?= some x) (hy:r[k]?= some y):eqL (l.drop k) (r.drop k)=(eqV x y && eqL (l.drop (k+1)) (r.drop (k+1))):=by
 rw[z0j hx,z0j hy,eqL]
theorem zed {l r:List VT} {k:Nat} (hl:l.length<=k) (hr:r.length<=k):eqL (l.drop k) (r.drop k)= true:=by
 rw[List.drop_eq_nil_of_le hl,List.drop_eq_nil_of_le hr];simp[eqL]
theorem z9I:∀ {l r:List VT},l.length≠r.length->eqL l r= false
 |[],[],h=>absurd rfl h
 |[],_::_,_=>by simp[eqL]
 |_::_,[],_=>by simp[eqL]
 |a::l,b::r,h=>by
  rw[eqL,z9I (l:=l) (r:=r) (by simpa using h),Bool.and_false]
def z8U (b:Bool) (w:World) (e:Ending) (w':World):Prop:=e= .returned (.bool b)/\Below w.heap.size w w'
theorem zfo (l r:List VT) (u v:Value) (w:World) (hu:SlAt w w.heap.size 6 (ValAt w w.heap.size) u l) (hv:SlAt w w.heap.size 6 (ValAt w w.heap.size) v r)
  (hF:∀ x∈l,∀ y cs cs' z,ValAt z z.heap.size cs x->ValAt z z.heap.size cs' y->Calls Tryz.prog 113 #[.agg ⟨cs⟩,.agg ⟨cs'⟩] z (z8U (eqV x y) z)):
  Calls Tryz.prog 144 #[u,v,.func (.func 113) #[] #[]] w (z8U (eqL l r) w):=by
 obtain⟨A,ca,rfl,hl,ha⟩:=z0K hu
 obtain⟨D,cb,rfl,hr,hb⟩:=z0K hv
 by_cases hlen:l.length= r.length
 case neg=>
  have HR:=I (z9I hlen)
  have t1:((l.length:Int) !=(r.length:Int))= true:=by rw[bne_iff_ne];omega
  clear hlen ha hb hu hv hF
  go_enter Tryz.func144,Tryz.ntmps144
  go_wp2
  go_ret
  exact⟨z6 HR.o.symm,Below.refl _ w⟩
 have t1:((l.length:Int) !=(r.length:Int))= false:=by rw[hlen];exact bne_self_eq_false _
 have HLEN:=I hlen
 have HA:=I ha
 have HB:=I hb
 have HF:=I hF
 have HS:=I (fun k x y=>zdP (l:=l) (r:=r) (k:=k) (x:=x) (y:=y))
 have HT:=I (fun k=>zed (l:=l) (r:=r) (k:=k))
 have H0:Hid (eqL (l.drop 0) (r.drop 0)= eqL l r):=I rfl
 have hl2:(l.length:Int)<=9223372036854775807:=by omega
 have hr2:(r.length:Int)<=9223372036854775807:=by omega
 clear ha hb hu hv hF hlen
 generalize eqL l r= res at*
 go_enter Tryz.func144,Tryz.ntmps144
 go_wp2
 go_loopg [17] l.length (fun q x u=>∃ k:Nat,k+q= l.length/\x= .int .i64 k/\Below w.heap.size w u/\eqL (l.drop k) (r.drop k)= res)
 case atStart=>exact⟨0,by omega,rfl,Below.refl _ _,H0.o⟩
 case round=>
  obtain⟨k,hk,rfl,hb,hres⟩:=hrel
  have HR:=I hres
  have HBK:=I hb
  clear hres hb
  cases gk with
  |zero=>
   obtain rfl:k= l.length:=by omega
   have hge: ¬ ((l.length:Int) <(l.length:Int)):=by omega
   have HV:=I ((HR.o).symm.trans (HT.o l.length (Nat.le_refl _) (by have:=HLEN.o;omega)))
   clear HR
   go_wp2
   go_ret
   exact⟨z6 HV.o.symm,HBK.o⟩
  |succ q=>
   have hlt:(k:Int) <(l.length:Int):=by omega
   have hkr:k < r.length:=by have:=HLEN.o;omega
   obtain⟨x,hx⟩:∃ x,l[k]?= some x:=⟨_,List.getElem?_eq_getElem (by omega)⟩
   obtain⟨b1,o1,rfl,hb1,c1⟩:=HA.o (by omega)
   obtain⟨cs,hcs,hvx⟩:=c1 k x hx
   have HR1:=I (za hcs HBK.o hb1)
   have HVX:=I (ValAt.next hvx HBK.o)
   have HCL:=I (zk hvx)
   have HMX:=I (List.mem_of_getElem? hx)
   have HKX:=I hx
   clear c1 hcs hvx hx
   go_upto_region 6 with (first|((with_reducible refine z7 27 _ rfl ?_ b1 (o1+k*6) cs _ rfl HR1.o Tryz.underlying27 rfl ?_ ?_);exact wA rfl;rw[HCL.o.1];kernel_rfl)|((with_reducible refine z0c 27 _ _ rfl ?hwb wr ?znb cs ?hwldb ?hzb ?hxb ?hyb ?hib ?h1b ?_);(case hwldb=>rfl);(case hxb=>rfl);(case hyb=>rfl);(case hwb=>exact wA rfl);(case hzb=>rw[HCL.o.1];rfl);(case hib=>rw[HCL.o.1];kernel_rfl);(case h1b=>exact HCL.o.2);intro Z hbx;have HX:=I hbx;clear hbx))
   have HBZ:=I (HBK.o.trans (HX.o.below.mono HBK.o.size))
   have HRA:=I HX.o.range
   have HVX2:=I (ValAt.next HVX.o HX.o.below)
   obtain⟨pa,hpa⟩:∃ pa,wr.heap.size= pa:=⟨_,rfl⟩
   rw[hpa] at HRA
   have HPA:Hid (pa < Z.heap.size):=I (hpa▸HX.o.size)
   rw[hpa]
   clear hpa HR1 HVX HX
   obtain⟨y,hy⟩:∃ y,r[k]?= some y:=⟨_,List.getElem?_eq_getElem hkr⟩
   obtain⟨b2,o2,rfl,hb2,c2⟩:=HB.o (by omega)
   obtain⟨cs',hcs,hvy⟩:=c2 k y hy
   have HR2:=I (za hcs HBZ.o hb2)
   have HVY:=I (ValAt.next hvy HBZ.o)
   have HCM:=I (zk hvy)
   have hlt2:(k:Int) <(r.length:Int):=by omega
   have HV:=I ((HR.o).symm.trans (HS.o k x y HKX.o hy))
   clear c2 hcs hvy hy hkr
   go_upto_region 7 with (first|((with_reducible refine z7 27 _ rfl ?_ b2 (o2+k*6) cs' _ rfl HR2.o Tryz.underlying27 rfl ?_ ?_);exact wA rfl;rw[HCM.o.1];kernel_rfl)|((with_reducible refine z0c 27 _ _ rfl ?hwd Z ?znd cs' ?hwldd ?hzd ?hxd ?hyd ?I ?h1d ?_);(case hwldd=>rfl);(case hxd=>rfl);(case hyd=>rfl);(case hwd=>exact wA rfl);(case hzd=>rw[HCM.o.1];rfl);(case I=>rw[HCM.o.1];kernel_rfl);(case h1d=>exact HCM.o.2);intro Z2 hbx;have HX2:=I hbx;clear hbx))
   have HBZ2:=I (HBZ.o.trans (HX2.o.below.mono HBZ.o.size))
   have HRA2:=I (za HRA.o HX2.o.below HPA.o)
   have HRB2:=I HX2.o.range
   have HVX3:=I (ValAt.next HVX2.o HX2.o.below)
   have HVY3:=I (ValAt.next HVY.o HX2.o.below)
   obtain⟨pb,hpb⟩:∃ pb,Z.heap.size= pb:=⟨_,rfl⟩
   rw[hpb] at HRB2
   rw[hpb]
   have HC:=I (HF.o x HMX.o y cs cs' Z2 HVX3.o HVY3.o)
   clear hpb HX2 HR2 HVX2 HVY HRA HPA HVX3 HVY3
   generalize eqV x y= cv at*
   cases cv with
   |true=>
    have HV2:Hid (res= eqL (l.drop (k+1)) (r.drop (k+1))):=I (HV.o.trans (Bool.true_and _))
    clear HV
    go_wp2_with (first|((with_reducible refine z7 27 _ rfl ?_ pa 0 cs _ rfl HRA2.o Tryz.underlying27 rfl ?_ ?_);exact wA rfl;rw[HCL.o.1];kernel_rfl)|((with_reducible refine z7 27 _ rfl ?_ pb 0 cs' _ rfl HRB2.o Tryz.underlying27 rfl ?_ ?_);exact wA rfl;rw[HCM.o.1];kernel_rfl)|(go_at_call 113;refine HC.o.mono ?_;rintro e z ⟨rfl,hbz⟩;have HB3:=I hbz;clear hbz))
    go_roundg q
    case measure=>omega
    case rel=>exact⟨k+1,by omega,by go_num,HBZ2.o.trans (HB3.o.mono HBZ2.o.size),HV2.o.symm⟩
   |false=>
    have HV2:Hid (res= false):=I (HV.o.trans (Bool.false_and _))
    clear HV
    go_wp2_with (first|((with_reducible refine z7 27 _ rfl ?_ pa 0 cs _ rfl HRA2.o Tryz.underlying27 rfl ?_ ?_);exact wA rfl;rw[HCL.o.1];kernel_rfl)|((with_reducible refine z7 27 _ rfl ?_ pb 0 cs' _ rfl HRB2.o Tryz.underlying27 rfl ?_ ?_);exact wA rfl;rw[HCM.o.1];kernel_rfl)|(go_at_call 113;refine HC.o.mono ?_;rintro e z ⟨rfl,hbz⟩;have HB3:=I hbz;clear hbz))
    go_ret
    exact⟨z6 HV2.o.symm,HBZ2.o.trans (HB3.o.mono HBZ2.o.size)⟩
theorem zgi:∀ (t t':VT) (cs cs':List Value) (w:World),ValAt w w.heap.size cs t->ValAt w w.heap.size cs' t'->Calls Tryz.prog 113 #[.agg ⟨cs⟩,.agg ⟨cs'⟩] w (z8U (eqV t t') w):=by
 intro t
 induction t using VT.ind with
 |h k n f s ns its ih=>
  intro t' cs cs' w hv hv'
  cases t' with
  |mk k' n' f' s' ns' its'=>
  have IH:=I ih
  have HVA:=I hv
  have HVB:=I hv'
  obtain⟨vn,vi,rfl,_,_,hf,_,hn,_,hi⟩:=hv.inv
  obtain⟨vn',vi',rfl,_,_,hf',_,hn',_,hi'⟩:=hv'.inv
  have HF:=I (And.intro (wf64 hf) (wf64 hf'))
  have HN:=I hn
  have HN':=I hn'
  have HI:=I hi
  have HI':=I hi'
  have HO:Hid (eqV (.mk k n f s ns its) (.mk k' n' f' s' ns' its')= if k≠k' then false else if k= 3 then(fOrd f f' ==some .eq) else if rowV k n n' f f' s s' ns ns'≠0 then false else if leafK k= true then true else eqL its its'):=I (by rw[eqV])
  clear ih hv hv' hf hf' hn hn' hi hi'
  generalize hres:eqV (.mk k n f s ns its) (.mk k' n' f' s' ns' its')= res at*
  clear hres
  go_enter Tryz.func113,Tryz.ntmps113
  go_upto_region 1 with (fail)
  have HA:=I (zm w [.int .i64 k,.int .i64 n,.float .f64 f,.string s,vn,vi] 27)
  have HB1:=I (zc w (.cells ⟨[.int .i64 k,.int .i64 n,.float .f64 f,.string s,vn,vi]⟩ 27))
  have HS1:=I (zw w (.cells ⟨[.int .i64 k,.int .i64 n,.float .f64 f,.string s,vn,vi]⟩ 27))
  have HSE:Hid ((w.alloc (.cells ⟨[.int .i64 k,.int .i64 n,.float .f64 f,.string s,vn,vi]⟩ 27)).heap.size= w.heap.size+1):=I (by simp)
  generalize w.alloc (.cells ⟨[.int .i64 k,.int .i64 n,.float .f64 f,.string s,vn,vi]⟩ 27)= W1 at*
  have HB:=I (zm W1 [.int .i64 k',.int .i64 n',.float .f64 f',.string s',vn',vi'] 27)
  have HB2:=I (zc W1 (.cells ⟨[.int .i64 k',.int .i64 n',.float .f64 f',.string s',vn',vi']⟩ 27))
  have HS2:=I (zw W1 (.cells ⟨[.int .i64 k',.int .i64 n',.float .f64 f',.string s',vn',vi']⟩ 27))
  generalize W1.alloc (.cells ⟨[.int .i64 k',.int .i64 n',.float .f64 f',.string s',vn',vi']⟩ 27)= W at*
  have HAW:=I (za HA.o HB2.o HS1.o)
  have HBW:=I (HB1.o.trans (HB2.o.mono HB1.o.size))
  have HLT:=I (Nat.lt_of_lt_of_le HS1.o HB2.o.size)
  rw[HSE.o] at HB HS2
  obtain⟨pb,hpb⟩:∃ pb,w.heap.size+1= pb:=⟨_,rfl⟩
  rw[hpb] at HB HS2
  rw[hpb]
  have d0:W.cell? ⟨w.heap.size,0,none⟩= some (.int .i64 k):=by have:=HAW.o 0 _ rfl;simpa using this
  have e0:W.cell? ⟨pb,0,none⟩= some (.int .i64 k'):=by have:=HB.o 0 _ rfl;simpa using this
  have HRW:=I (z9y k k' n n' f f' s s' ns ns' vn vn' vi vi' w.heap.size pb W HAW.o HB.o ⟨HLT.o,HS2.o⟩ HF.o.1 HF.o.2 ((HN.o.below HBW.o fun _ _ _ h=>h).more HBW.o.size) ((HN'.o.below HBW.o fun _ _ _ h=>h).more HBW.o.size))
  have HLF:=I (fun w=>z7J k w)
  clear HA HB1 HS1 HSE HB2 hpb
  by_cases hck:k= k'
  ·subst hck
   have HO2:=I (HO.o.trans (if_neg (fun h=>h rfl)))
   clear HO
   by_cases hk3:k= 3
   ·subst hk3
    have HO3:Hid (res=(FloatKind.f64.format.order f f' ==some .eq)):=I (HO2.o.trans (if_pos rfl))
    have d2:W.cell? ⟨w.heap.size,2,none⟩= some (.float .f64 f):=by have:=HAW.o 2 _ rfl;simpa using this
    have e2:W.cell? ⟨pb,2,none⟩= some (.float .f64 f'):=by have:=HB.o 2 _ rfl;simpa using this
    clear HO2
    go_wp2_with (go_in)
    go_ret
    exact⟨z6 HO3.o.symm,HBW.o⟩
   have HO3:=I (HO2.o.trans (if_neg hk3))
   have t3:(k ==3)= false:=by simpa using hk3
   clear HO2 hk3
   generalize rowV k n n' f f' s s' ns ns'= rv at*
   by_cases hrv:rv= 0
   ·subst hrv
    have HO4:=I (HO3.o.trans (if_neg (fun h=>h rfl)))
    cases hlf:leafK k with
    |true=>
     have HO5:=I (HO4.o.trans (if_pos hlf))
     rw[hlf] at HLF
     clear HO3 HO4 hlf
     go_wp2_with (first|(go_at_call 142;refine HRW.o.mono ?_;rintro e w2 ⟨rfl,hb2⟩;have HB2:=I hb2;have d0':=(hb2.cell (p:=⟨w.heap.size,0,none⟩) HLT.o).trans d0;clear hb2)|(go_at_call 143;refine(HLF.o _).mono ?_;rintro e z1 ⟨rfl,rfl⟩))
     go_ret
     exact⟨z6 HO5.o.symm,HBW.o.trans (HB2.o.mono HBW.o.size)⟩
    |false=>
     have HO5:=I (HO4.o.trans (if_neg (fun h=>by rw[hlf] at h;cases h)))
     rw[hlf] at HLF
     clear HO3 HO4 hlf
     go_upto_region 7 with (first|(go_at_call 142;refine HRW.o.mono ?_;rintro e w2 ⟨rfl,hb2⟩;have HB2:=I hb2;have d0':=(hb2.cell (p:=⟨w.heap.size,0,none⟩) HLT.o).trans d0;clear hb2))
     have HBT:=I (HBW.o.trans (HB2.o.mono HBW.o.size))
     have d5:w2.cell? ⟨w.heap.size,5,none⟩= some vi:=by have:=HAW.o 5 vi rfl;rw[Nat.zero_add] at this;exact(HB2.o.cell (p:=⟨w.heap.size,5,none⟩) HLT.o).trans this
     have e5:w2.cell? ⟨pb,5,none⟩= some vi':=by have:=HB.o 5 vi' rfl;rw[Nat.zero_add] at this;exact(HB2.o.cell (p:=⟨pb,5,none⟩) HS2.o).trans this
     have HCF:=I (zfo its its' vi vi' w2 ((HI.o.below HBT.o fun _ _ _ h=>ValAt.under h HBT.o).more HBT.o.size|>.weak fun _ _ h=>h.more HBT.o.size) ((HI'.o.below HBT.o fun _ _ _ h=>ValAt.under h HBT.o).more HBT.o.size|>.weak fun _ _ h=>h.more HBT.o.size) (fun x hx y cs cs' z h1 h2=>IH.o x hx y cs cs' z h1 h2))
     clear d0 e0 HRW HAW HB
     go_wp2_with (first|(go_at_call 143;refine(HLF.o _).mono ?_;rintro e z1 ⟨rfl,rfl⟩)|(go_at_call 144;refine HCF.o.mono ?_;rintro e z1 ⟨rfl,hb3⟩;have HB3:=I hb3;clear hb3))
     go_ret
     exact⟨z6 HO5.o.symm,HBT.o.trans (HB3.o.mono HBT.o.size)⟩
   ·have HO4:=I (HO3.o.trans (if_pos hrv))
    have t2:(rv !=0)= true:=by simpa using hrv
    clear HO3 hrv
    go_wp2_with (first|(go_at_call 142;refine HRW.o.mono ?_;rintro e w2 ⟨rfl,hb2⟩;have HB2:=I hb2;clear hb2))
    go_ret
    exact⟨z6 HO4.o.symm,HBW.o.trans (HB2.o.mono HBW.o.size)⟩
  ·have HO2:=I (HO.o.trans (if_pos hck))
   have t2:(k !=k')= true:=by simpa using hck
   clear HO hck
   go_wp2
   go_ret
   exact⟨z6 HO2.o.symm,HBW.o⟩
end
section
open Go
theorem z9Q {fab fbc fac gab gbc gac:Int} (p0:fab<=0->fbc<=0->fac<=0) (p1:fab < 0->fbc<=0->fac < 0) (p2:fab<=0->fbc < 0->fac < 0) (hg:fab= 0->fbc= 0->gab<=0->gbc<=0->gac<=0)
  (h1:(if fab≠0 then fab else gab)<=0) (h2:(if fbc≠0 then fbc else gbc)<=0):(if fac≠0 then fac else gac)<=0:=by
 by_cases e1:fab= 0
 ·rw[if_neg (by omega)] at h1
  by_cases e2:fbc= 0
  ·rw[if_neg (by omega)] at h2
   have h3:=p0 (by omega) (by omega)
   by_cases e3:fac= 0
   ·rw[if_neg (by omega)];exact hg e1 e2 h1 h2
   ·rw[if_pos e3];exact h3
  ·rw[if_pos e2] at h2
   have:=p2 (by omega) (by omega)
   rw[if_pos (by omega)];omega
 ·rw[if_pos e1] at h1
  have h4:fbc<=0:=by
   by_cases e2:fbc= 0
   ·omega
   ·rw[if_pos e2] at h2;exact h2
  have:=p1 (by omega) h4
  rw[if_pos (by omega)];omega
structure Lone where
 n:Int
 f:Nat
 s:ByteArray
 ns:List ByteArray
def rowL (k:Int) (a b:Lone):Int:=rowV k a.n b.n a.f b.f a.s b.s a.ns b.ns
theorem z2z (k:Int):Cmp (rowL k):=by
 by_cases h1:k= 1\/k= 2
 ·have:rowL k= fun a b=>cmpI a.n b.n:=funext fun a=>funext fun b=>by unfold rowL rowV;rw[if_pos h1]
  rw[this];exact cmpI_good.on Lone.n
 by_cases h3:k= 3
 ·have:rowL k= fun a b=>cmpF a.f b.f:=funext fun a=>funext fun b=>by unfold rowL rowV;rw[if_neg h1,if_pos h3]
  rw[this];exact cmpF_good.on Lone.f
 by_cases h4:k= 4
 ·have:rowL k= fun a b=>cmpS a.s b.s:=funext fun a=>funext fun b=>by unfold rowL rowV;rw[if_neg h1,if_neg h3,if_pos h4]
  rw[this];exact cmpS_good.on Lone.s
 by_cases h5:k= 5
 ·have:rowL k= fun a b=>0:=funext fun a=>funext fun b=>by unfold rowL rowV;rw[if_neg h1,if_neg h3,if_neg h4,if_pos h5]
  rw[this];exact⟨fun _ _=>rfl,fun _ _ _ _ _=>Int.le_refl 0⟩
 by_cases h6:k= 6
 ·have:rowL k= fun a b=>listC cmpS a.ns b.ns:=funext fun a=>funext fun b=>by unfold rowL rowV;rw[if_neg h1,if_neg h3,if_neg h4,if_neg h5,if_pos h6]
  rw[this];exact cmpS_good.list.on Lone.ns
 ·have:rowL k= fun a b=>if cmpI a.n b.n≠0 then cmpI a.n b.n else if cmpS a.s b.s≠0 then cmpS a.s b.s else listC cmpS a.ns b.ns:=funext fun a=>funext fun b=>by unfold rowL rowV or3;rw[if_neg h1,if_neg h3,if_neg h4,if_neg h5,if_neg h6]
  rw[this];exact(cmpI_good.on Lone.n).then ((cmpS_good.on Lone.s).then (cmpS_good.list.on Lone.ns))
def VT.kind:VT->Int| .mk k _ _ _ _ _=>k
def VT.lone:VT->Lone| .mk _ n f s ns _=>⟨n,f,s,ns⟩
def restV (k:Int) (l r:List VT):Int:=if leafK k= true then 0 else listC ordV l r
theorem z6e (a b:VT):ordV a b= if cmpI a.kind b.kind≠0 then cmpI a.kind b.kind else if rowL a.kind a.lone b.lone≠0 then rowL a.kind a.lone b.lone else restV a.kind a.items b.items:=by
 cases a with
 |mk k n f s ns its=>
  cases b with
  |mk k' n' f' s' ns' its'=>
   rw[ordV,z4B]
   show _= if cmpI k k'≠0 then cmpI k k' else if rowV k n n' f f' s s' ns ns'≠0 then rowV k n n' f f' s s' ns ns' else if leafK k= true then 0 else listC ordV its its'
   by_cases h:cmpI k k'≠0
   ·rw[if_pos h,if_pos h]
   ·rw[if_neg h,if_neg h]
    by_cases h2:rowV k n n' f f' s s' ns ns'≠0
    ·rw[if_pos (.inl h2),if_pos h2]
    ·rw[if_neg h2]
     by_cases h3:leafK k= true
     ·rw[if_pos (.inr h3),if_pos h3];omega
     ·rw[if_neg (by rintro(h|h);exact h2 h;exact h3 h),if_neg h3]
theorem z54 {a b:Int} (h:cmpI a b= 0):a= b:=by
 have:=zY a b
 omega
theorem z2L (a:VT):∀ b,ordV b a= - ordV a b:=by
 induction a using VT.ind with
 |h k n f s ns its ih=>
  intro b
  generalize ha:VT.mk k n f s ns its= a
  have hit:a.items= its:=by rw[← ha];rfl
  rw[z6e b a,z6e a b]
  have h1:=cmpI_good.anti a.kind b.kind
  by_cases h0:cmpI a.kind b.kind= 0
  ·have hk:=z54 h0
   rw[if_neg (show ¬ cmpI b.kind a.kind≠0 by omega),if_neg (show ¬ cmpI a.kind b.kind≠0 by omega),← hk]
   have h2:=(z2z a.kind).anti a.lone b.lone
   by_cases h3:rowL a.kind a.lone b.lone= 0
   ·rw[if_neg (show ¬ rowL a.kind b.lone a.lone≠0 by omega),if_neg (show ¬ rowL a.kind a.lone b.lone≠0 by omega)]
    unfold restV
    split
    ·rfl
    ·rw[hit];exact z3L its b.items fun x hx y _=>ih x hx y
   ·rw[if_pos (show rowL a.kind b.lone a.lone≠0 by omega),if_pos h3];exact h2
  ·rw[if_pos (show cmpI b.kind a.kind≠0 by omega),if_pos h0];exact h1
theorem z4W {a x:VT} (h:x∈a.items):SizeOf.sizeOf x < SizeOf.sizeOf a:=by
 cases a with
 |mk k n f s ns its=>
  have:=List.sizeOf_lt_of_mem (show x∈its from h)
  simp
  omega
theorem z5r:∀ (m:Nat) (a b c:VT),SizeOf.sizeOf a+SizeOf.sizeOf b+SizeOf.sizeOf c<=m->ordV a b<=0->ordV b c<=0->ordV a c<=0
 |0,a,b,c,hm,_,_=>by
  have:0 < SizeOf.sizeOf a:=by cases a;simp;omega
  omega
 |m+1,a,b,c,hm,h1,h2=>by
  have ih:=z5r m
  rw[z6e] at h1 h2 ⊢
  refine z9Q (cmpI_good.trans _ _ _) cmpI_good.lt_le cmpI_good.le_lt (fun e1 e2=> ?_) h1 h2
  have k1:=z54 e1
  have k2:=z54 e2
  rw[← k1]
  refine z9Q ((z2z a.kind).trans _ _ _) (z2z a.kind).lt_le (z2z a.kind).le_lt fun _ _=> ?_
  unfold restV
  split
  ·intro _ _;omega
  ·refine z2O a.items b.items c.items fun x hx y hy z hz=> ?_
   have s1:=z4W hx
   have s2:=z4W hy
   have s3:=z4W hz
   have t1:=ih x y z (by omega)
   have t2:=ih y z x (by omega)
   have t3:=ih z x y (by omega)
   have a1:=z2L x y
   have a2:=z2L y z
   have a3:=z2L x z
   refine⟨t1,fun h h'=> ?_,fun h h'=> ?_⟩
   ·rcases Int.lt_or_le (ordV x z) 0 with h3|h3
    ·exact h3
    ·have:=t2 h' (by omega);omega
   ·rcases Int.lt_or_le (ordV x z) 0 with h3|h3
    ·exact h3
    ·have:=t3 (by omega) h;omega
theorem ordV_good:Cmp ordV:=⟨z2L,fun a b c=>z5r _ a b c (Nat.le_refl _)⟩
end
section
open Go Go.RowKit
def KeptS (p:Nat->Prop) (w:World) (v:Value) (ns:List ByteArray):Prop:=SlAt (only w p) w.heap.size 1 StrR v ns
theorem KeptS.to {p q:Nat->Prop} {w w':World} {v:Value} {ns:List ByteArray} (h:KeptS p w v ns) (hb:∀ b,p b->b < w.heap.size->q b/\w'.heap[b]?= w.heap[b]?) (hs:w.heap.size<=w'.heap.size):KeptS q w' v ns:=
 (SlAt.cells h (z2X hb) fun _ _ _ h=>h).more hs
theorem z0I {α:Type} {T:TypeId} {k base b:Nat} {enc:α->List Value} {w:World} {v:Value} {l:List α} (h:OwnSl T k enc w base v l) (hb:v.ownBlock= some b):b < w.heap.size:=by
 rcases h.2 with ⟨rfl,_⟩|⟨g,cap,cur,rfl,_,hg,_⟩
 ·cases hb
 ·have:g= b:=by simpa [Value.ownBlock] using hb
  subst this
  rcases Nat.lt_or_ge g w.heap.size with h2|h2
  ·exact h2
  ·rw[Array.getElem?_eq_none h2] at hg;cases hg
theorem z6C {w w':World} {v:Value} {ns:List ByteArray} (hs:∀ s∈ns,s.size<=maxLen) (hl:ns.length<=9223372036854775807) (h:w'.ownsRow w.heap.size 9 1 v ns.length (ns.map (Value.string))):KeptS (fun b=>w.heap.size<=b) w' v ns:=by
 refine⟨hl,?_⟩
 have h':OwnSl 9 1 (fun s:ByteArray=>[Value.string s]) w' w.heap.size v ns:=by
  have e:ns.map (Value.string)= flat (fun s:ByteArray=>[Value.string s]) ns:=by
   clear hs hl h
   induction ns with
   |nil=>rfl
   |cons a l ih=>
    show Value.string a::l.map (Value.string)= Value.string a::flat (fun s:ByteArray=>[Value.string s]) l
    rw[ih]
  unfold OwnSl
  rw[← e];exact h
 rcases h.2 with ⟨rfl,h0⟩|⟨g,cap,cur,hv,hg,_,_⟩
 ·exact⟨none,0,by rw[h0],fun h1=>by omega⟩
 ·refine⟨some ⟨g,0,none⟩,cap,hv,fun _=> ?_⟩
  have hown:v.ownBlock= some g:=by rw[hv];rfl
  refine⟨g,0,rfl,z0I h' hown,fun i x hx=>⟨[.string x],rfl,fun j u hu=> ?_,rfl,hs x (List.mem_of_getElem? hx)⟩⟩
  refine zy.2 ⟨hg,?_⟩
  have:=World.ownsRow.cells h' hown (i*1+j) u (z0y (enc:=fun s:ByteArray=>[Value.string s]) (fun _=>rfl) ns i x hx j u hu)
  rw[Addr.add_mid] at this
  rw[show 0+i*1+j= 0+ (i*1+j) by omega];exact this
theorem z1D (w:World) (vn:Value) (ns:List ByteArray) (h:SlAt w w.heap.size 1 StrR vn ns) (hl:ns.length*16<=reachBytes):
  Calls Tryz.prog 42 #[vn] w fun e w'=>∃ v',e= .returned v'/\Below w.heap.size w w'/\KeptS (fun b=>w.heap.size<=b) w' v' ns:=by
 obtain⟨h0,A,c,rfl,h1⟩:=h
 have hr:reachBytes= 140737488351232:=rfl
 rcases Nat.eq_zero_or_pos ns.length with hz|hz
 ·obtain rfl:ns=[]:=List.eq_nil_of_length_eq_zero hz
  cases A with
  |none=>exact(Tryz.slices_Clone_string_nil _ _ _).mono fun e u' h=>⟨_,h.1,by rw[h.2];exact Below.refl _ _,SlAt.nil _ _ _ _⟩
  |some ad=>exact(Tryz.slices_Clone_string_zero ad c w).mono fun e u' ⟨v',h1,h2,_,h3⟩=>⟨v',h1,h3,z6C (fun s hs=>by cases hs) (by simp) h2⟩
 ·obtain⟨b,o,rfl,hb,h2⟩:=h1 hz
  refine(Tryz.slices_Clone_string b o ns.length c ns w (Nat.le_refl _) (by omega) fun j hj=> ?_).mono fun e u' ⟨v',h5,h6,_,h7⟩=>⟨v',h5,h7,z6C (fun s hs=> ?_) h0 (by rwa [List.take_length] at h6)⟩
  ·obtain⟨cs,h3,h4,h5,h6⟩:=h2 j _ (List.getElem?_eq_getElem hj)
   subst h5
   have:=h4 0 _ rfl
   rw[Nat.mul_one,Nat.add_zero] at this
   rw[List.getD_eq_getElem?_getD,List.getElem?_eq_getElem hj]
   exact this
  ·obtain⟨i,hi⟩:=List.mem_iff_getElem?.1 hs
   obtain⟨cs,_,_,_,h6⟩:=h2 i s hi
   exact h6
end
section
open Go Go.RowKit
inductive FitE:ET->Prop where
 |mk {k:Int} {s:ByteArray} {v:VT} {ns:List ByteArray} {its:List ET} (h1:ns.length*16<=reachBytes) (h2:its.length*160<=reachBytes) (h3:∀ x∈its,FitE x):FitE (.mk k s v ns its)
theorem FitE.inv {k:Int} {s:ByteArray} {v:VT} {ns:List ByteArray} {its:List ET} (h:FitE (.mk k s v ns its)):ns.length*16<=reachBytes/\its.length*160<=reachBytes/\∀ x∈its,FitE x:=by
 cases h with
 |mk h1 h2 h3=>exact⟨h1,h2,h3⟩
structure C10 where
 cs:List Value
 len:cs.length= 10
def enc10 (q:C10):List Value:=q.cs
theorem z2I (q:C10):(enc10 q).length= 10:=q.len
def KeptX (p:Nat->Prop) (w:World) (cs:List Value) (t:ET):Prop:=ExpAt (only w p) w.heap.size cs t
theorem KeptX.exp {p:Nat->Prop} {w:World} {cs:List Value} {t:ET} (h:KeptX p w cs t):ExpAt w w.heap.size cs t:=ExpAt.cells h fun a v hv=>(zy.1 hv).2
theorem KeptX.to {p q:Nat->Prop} {w w':World} {cs:List Value} {t:ET} (h:KeptX p w cs t) (hb:∀ b,p b->b < w.heap.size->q b/\w'.heap[b]?= w.heap[b]?) (hs:w.heap.size<=w'.heap.size):KeptX q w' cs t:=
 (ExpAt.cells h (z2X hb)).more hs
structure OwnE (TV:TypeId) (B:Nat) (W u:World) (v:Value) (l:List ET) (i:Nat) (KL:List C10):Prop where
 own:OwnSl TV 10 enc10 u W.heap.size v KL
 len:KL.length= i
 bel:Below W.heap.size W u
 old:B<=W.heap.size
 els:∀ (j:Nat) k x,KL[j]?= some k->l[j]?= some x->KeptX (fun b=>(b < B\/W.heap.size<=b)/\some b≠v.ownBlock) u k.cs x
theorem OwnE.start (TV:TypeId) {B:Nat} (W:World) (l:List ET) (hB:B<=W.heap.size):OwnE TV B W W (.slice none 0 0) l 0 []:=⟨OwnSl.nil _ _,rfl,Below.refl _ _,hB,fun j k x hk _=>by cases hk⟩
theorem OwnE.next {TV:TypeId} {B:Nat} {W u u5 u6 u7 u8:World} {v v':Value} {l:List ET} {i:Nat} {KL:List C10} (h:OwnE TV B W u v l i KL) (h5:Below u.heap.size u u5) (h6:Below u5.heap.size u5 u6) (h7:Below u6.heap.size u6 u7) {k:C10} {x:ET} (hx:l[i]?= some x)
  (hk:KeptX (fun b=>b < B\/u5.heap.size<=b) u6 k.cs x) (hown:OwnSl TV 10 enc10 u8 W.heap.size v' (KL ++ [k])) (hg:u7.grownBy u8 v.ownBlock) (hb:v'.ownBlock= v.ownBlock\/v'.ownBlock= some u7.heap.size):
  OwnE TV B W u8 v' l (i+1) (KL ++ [k]):=by
 have h57:=h5.trans ((h6.trans (h7.mono h6.size)).mono h5.size)
 have hbase:=h.bel.size
 have hold:=h.old
 have hblk:∀ b,b < u.heap.size->some b≠v.ownBlock->some b≠v'.ownBlock/\u8.heap[b]?= u.heap[b]?:=fun b hlt hne=>by
  have e1:=h57.block b hlt
  have e2:=hg.block b (Nat.lt_of_lt_of_le hlt h57.size) hne
  refine⟨?_,e2.trans e1⟩
  rcases hb with hb|hb
  ·rw[hb];exact hne
  ·rw[hb]
   intro e
   injection e with e
   have:=h57.size
   omega
 have hnew:∀ b,b < B\/u5.heap.size<=b->b < u6.heap.size->some b≠v'.ownBlock/\u8.heap[b]?= u6.heap[b]?:=fun b hge hlt=>by
  have hne:some b≠v.ownBlock:=fun e=>by
   have h1:=z0I h.own e.symm
   have h2:=h.own.block e.symm
   have:=h5.size
   omega
  have e1:=h7.block b hlt
  have e2:=hg.block b (Nat.lt_of_lt_of_le hlt h7.size) hne
  refine⟨?_,e2.trans e1⟩
  rcases hb with hb|hb
  ·rw[hb];exact hne
  ·rw[hb]
   intro e
   injection e with e
   have:=h7.size
   omega
 refine⟨hown,by rw[List.length_append,h.len];rfl,?_,hold,fun j k' y hk' hy=> ?_⟩
 ·refine⟨hg.os.trans (h57.os.trans h.bel.os),hg.tape.trans (h57.tape.trans h.bel.tape),hg.output.trans (h57.output.trans h.bel.output),?_,fun b hlt=> ?_⟩
  ·have:=hg.size
   have:=h57.size
   omega
  ·have hne:some b≠v.ownBlock:=fun e=>by
    have:=h.own.block e.symm
    omega
   exact(hblk b (by omega) hne).2.trans (h.bel.block b hlt)
 ·rcases Nat.lt_or_ge j KL.length with hj|hj
  ·rw[List.getElem?_append_left hj] at hk'
   refine(h.els j k' y hk' hy).to (fun b hp hlt=>⟨⟨hp.1,(hblk b hlt hp.2).1⟩,(hblk b hlt hp.2).2⟩) ?_
   have:=hg.size
   have:=h57.size
   omega
  ·rw[List.getElem?_append_right hj] at hk'
   have hj2:j= KL.length:=by
    have:=(List.getElem?_eq_some_iff.1 hk').1
    simp only[List.length_singleton] at this
    omega
   rw[hj2,Nat.sub_self] at hk'
   injection hk' with hk'
   subst hk'
   have e:y= x:=by
    rw[hj2,h.len,hx] at hy
    injection hy with hy
    exact hy.symm
   subst e
   refine hk.to (fun b hp hlt=>⟨⟨?_,(hnew b hp hlt).1⟩,(hnew b hp hlt).2⟩) ?_
   ·have:=h5.size
    omega
   ·have:=hg.size
    have:=h7.size
    omega
theorem OwnE.row {TV:TypeId} {B:Nat} {W u u':World} {v:Value} {l:List ET} {KL:List C10} {B2:Nat} (h:OwnE TV B W u v l l.length KL) (hl:l.length<=maxLen) (hB:B2<=W.heap.size) (hk:∀ b,b < B\/W.heap.size<=b->b < u.heap.size->u'.heap[b]?= u.heap[b]?) (hs:u.heap.size<=u'.heap.size):
  SlAt (only u' (fun b=>b < B\/B2<=b)) u'.heap.size 10 (ExpAt (only u' (fun b=>b < B\/B2<=b)) u'.heap.size) v l:=by
 refine⟨Nat.le_trans hl z08,?_⟩
 rcases h.own.2 with ⟨rfl,h0⟩|⟨g,cap,cur,hv,hg,_,_⟩
 ·rw[h.len] at h0
  exact⟨none,0,by rw[h0],fun h1=>by omega⟩
 ·refine⟨some ⟨g,0,none⟩,cap,by rw[hv,h.len],fun _=> ?_⟩
  have hown:v.ownBlock= some g:=by rw[hv];rfl
  have hlt:=z0I h.own hown
  refine⟨g,0,rfl,by omega,fun i y hy=> ?_⟩
  have hi:=(List.getElem?_eq_some_iff.1 hy).1
  have hki:KL[i]?= some (KL[i]'(by rw[h.len];exact hi)):=List.getElem?_eq_getElem _
  refine⟨_,(KL[i]'(by rw[h.len];exact hi)).len,fun j c hc=> ?_,?_⟩
  ·refine zy.2 ⟨?_,?_⟩
   ·show g < B\/B2<=g
    omega
   ·refine(World.cell?_of_block (a:=⟨g,_,none⟩) (hk g (.inr hg) hlt)).trans ?_
    have:=World.ownsRow.cells h.own hown (i*10+j) c (z0y z2I KL i _ hki j c hc)
    rw[Addr.add_mid] at this
    rw[show 0+i*10+j= 0+ (i*10+j) by omega];exact this
  ·exact(h.els i _ y hki hy).to (fun b hp hb=>⟨hp.1.imp id (fun h=>Nat.le_trans hB h),hk b hp.1 hb⟩) hs
theorem z6Y {α:Type} {P:Program} {ops:Array Oper} {rest:List Oper} {o:Oper} {a:Act} {w:World} {Q:Exit->Act->World->Prop} (hgd:o.guard= none) (s x:Operand) (t:TypeId) (ho:o.op= .call { callee:= .builtin .append,args:= #[s,x],argTypes:= #[t,t] })
  (base:Nat) (e:TypeId) (i:TypeInfo) (z:Value) (k bytes:Nat) (enc:α->List Value) (ht:P.underlying t= some (.slice e)) (hi:P.info? e= some i) (hz:i.zero= some z)
  (hsize:i.size= k) (hby:i.bytes= bytes) (hzs:z.cells.size= k) (hsz:0 < k) (hk:∀ x,(enc x).length= k)
  (v:Value) (l:List α) (hs:a.eval s= v) (hown:OwnSl e k enc w base v l) (nb c:Nat) (y:α) (h1:∀ u∈enc y,u.oneCell'= true) (hx:a.eval x= .slice (some ⟨nb,0,none⟩) 1 c)
  (hc:∀ j u,(enc y)[j]?= some u->w.cell? ⟨nb,j,none⟩= some u) (h63:l.length+1<=maxLen) (hbytes:(l.length+1) *bytes<=140737488355328) (hbase:base<=w.heap.size)
  (h:∀ v' w',OwnSl e k enc w' base v' (l ++ [y])->w.grownBy w' v.ownBlock->(v'.ownBlock= v.ownBlock\/v'.ownBlock= some w.heap.size)->wpList P ops Q rest (a.put o.dst v') w'):wpList P ops Q (o::rest) a w:=by
 obtain⟨v',w',hrun,k2,k3,_,k5⟩:=run_append_own_at (P:=P) w base t o.type e i z k bytes ht hi hz hsize hby hzs hsz v l.length (flat enc l) hown ⟨nb,0,none⟩ 1 c (enc y) (by rw[hk];omega)
  (fun j u hu=>by rw[Addr.add_mid,Nat.zero_add];exact hc j u hu) h1 h63 hbytes hbase
 refine wpList_plain hgd fun _ hK=> ?_
 unfold Oper.wp execOp
 simp only[ho,resolve,invoke,builtin,Sem.run_bind,Sem.run_pure,Result.andThen_ok,List.map_toArray,List.map_cons,List.map_nil,hs,hx,hrun]
 exact hK _ _ (h v' w' (by unfold OwnSl;rw[z1k,List.length_append];exact k2) k3 k5)
theorem z3K:(Tryz.prog.info? 30).map (fun i=>(i.zero,i.size,i.bytes))= some (some (.agg #[.int .i64 0,.string ⟨#[]⟩,.int .i64 0,.int .i64 0,.float .f64 0,.string ⟨#[]⟩,.slice none 0 0,.slice none 0 0,.slice none 0 0,.slice none 0 0]),10,160):=by kernel_rfl
theorem z2Q {P:Program} {e:TypeId} {z:Option Value} {s b:Nat} (h:(P.info? e).map (fun i=>(i.zero,i.size,i.bytes))= some (z,s,b)):∃ i,P.info? e= some i/\i.zero= z/\i.size= s/\i.bytes= b:=by
 cases h2:P.info? e with
 |none=>rw[h2] at h;cases h
 |some i=>
  rw[h2] at h
  injection h with h
  injection h with h3 h4
  injection h4 with h4 h5
  exact⟨i,rfl,h3,h4,h5⟩
theorem Whole.put {T:TypeId} {w:World} {b:Nat} {cs:List Value} (h:Whole T w b cs) (i:Nat) (v:Value):Whole T (w.setCell ⟨b,i,none⟩ v) b (cs.set i v):=by
 unfold Whole at h ⊢
 simp[World.setCell,Array.getElem?_modify,h]
theorem z1h (w:World) (b i k:Nat) (v:Value) (h:k≠b):(w.setCell ⟨b,i,none⟩ v).heap[k]?= w.heap[k]?:=Below.heap_setCell w ⟨b,i,none⟩ v k h
theorem z0P (w:World) (p:Addr) (v:Value):(w.setCell p v).heap.size= w.heap.size:=by simp[World.setCell]
theorem z4c {α:Type} {T:TypeId} {k base:Nat} {enc:α->List Value} {w:World} {v:Value} {l:List α} (h:OwnSl T k enc w base v l):∃ A c,v= .slice A l.length c:=by
 rcases h.2 with ⟨rfl,h2⟩|⟨g,cap,cur,rfl,_⟩
 ·exact⟨none,0,by rw[h2]⟩
 ·exact⟨_,_,rfl⟩
def z2h (B:Nat) (t:ET) (w:World) (e:Ending) (w':World):Prop:=∃ cs',e= .returned (.agg ⟨cs'⟩)/\KeptX (fun b=>b < B\/w.heap.size<=b) w' cs' t/\Below w.heap.size w w'
theorem SlAt.cellsB {α:Type} {w w':World} {B k:Nat} {R R':List Value->α->Prop} {v:Value} {l:List α} (h:SlAt w B k R v l) (hc:∀ a v,a.block < B->w.cell? a= some v->w'.cell? a= some v) (hR:∀ cs x,x∈l->R cs x->R' cs x):SlAt w' B k R' v l:=by
 obtain⟨h0,A,c,rfl,h1⟩:=h
 refine⟨h0,A,c,rfl,fun hp=> ?_⟩
 obtain⟨b,o,rfl,hlt,h2⟩:=h1 hp
 refine⟨b,o,rfl,hlt,fun i x hx=> ?_⟩
 obtain⟨cs,h3,h4,h5⟩:=h2 i x hx
 exact⟨cs,h3,fun j u hu=>hc _ _ hlt (h4 j u hu),hR cs x (List.mem_of_getElem? hx) h5⟩
theorem ValAt.cellsB {w w':World} {B:Nat} {cs:List Value} {t:VT} (h:ValAt w B cs t) (hc:∀ a v,a.block < B->w.cell? a= some v->w'.cell? a= some v):ValAt w' B cs t:=by
 induction h with
 |mk b o css hk hn hf hs hns hl hA hcc hi ih=>
  exact .mk b o css hk hn hf hs (hns.cellsB hc fun _ _ _ h=>h) hl hA (fun i h=>⟨(hcc i h).1,fun j u hu=>hc _ _ (hA (by omega)).2 ((hcc i h).2 j u hu)⟩) ih
structure TwoB (w W:World) (p q m:Nat) (cs:List Value):Prop where
 wa:Whole 30 W p cs
 wb:∃ z,z.length= 10/\Whole 30 W q z
 bel:Below w.heap.size w W
 wp:w.heap.size<=p
 wq:w.heap.size<=q
 ne:p≠q
 pm:p < m
 qm:q < m
 mw:m<=W.heap.size
section
variable {w W W':World} {p q m:Nat} {cs:List Value}
theorem TwoB.below (h:TwoB w W p q m cs) (hb:Below W.heap.size W W'):TwoB w W' p q m cs:=
 ⟨h.wa.keep (hb.block p (Nat.lt_of_lt_of_le h.pm h.mw)),by obtain⟨z,hz,h2⟩:=h.wb;exact⟨z,hz,h2.keep (hb.block q (Nat.lt_of_lt_of_le h.qm h.mw))⟩,h.bel.trans (hb.mono h.bel.size),h.wp,h.wq,h.ne,h.pm,h.qm,Nat.le_trans h.mw hb.size⟩
theorem TwoB.put (h:TwoB w W p q m cs) (i:Nat) (v:Value):TwoB w (W.setCell ⟨p,i,none⟩ v) p q m (cs.set i v):=
 ⟨h.wa.put i v,by obtain⟨z,hz,h2⟩:=h.wb;exact⟨z,hz,h2.keep (z1h W p i q v h.ne.symm)⟩,z2c (vs:=[v]) h.bel h.wp i,h.wp,h.wq,h.ne,h.pm,h.qm,by rw[z0P];exact h.mw⟩
theorem Whole.fz {T:TypeId} {b:Nat} (h:Whole T W b cs) (i:Nat):W.frozen? ⟨b,i,none⟩= false:=by
 unfold World.frozen?
 have h2:W.heap[b]?= some (.cells ⟨cs⟩ T (0,0)):=h
 simp[h2]
theorem Whole.at {T:TypeId} {b:Nat} (h:Whole T W b cs) (k:Nat) {v:Value} (hv:cs[k]?= some v):W.cell? ⟨b,k,none⟩= some v:=by
 have:=h.range k v hv
 rwa [Nat.zero_add] at this
end
theorem zaE (w:World) (cs z:List Value) (hz:z.length= 10):TwoB w ((w.alloc (.cells ⟨cs⟩ 30)).alloc (.cells ⟨z⟩ 30)) w.heap.size (w.heap.size+1) (w.heap.size+2) cs:=by
 have h1:=Whole.new w cs 30
 have h2:=zc w (.cells ⟨cs⟩ 30)
 have hs:(w.alloc (.cells ⟨cs⟩ 30)).heap.size= w.heap.size+1:=by simp
 generalize w.alloc (.cells ⟨cs⟩ 30)= W1 at*
 have h3:=Whole.new W1 z 30
 have h4:=zc W1 (.cells ⟨z⟩ 30)
 have h5:(W1.alloc (.cells ⟨z⟩ 30)).heap.size= W1.heap.size+1:=by simp
 rw[hs] at h3
 exact⟨h1.keep (h4.block _ (by omega)),⟨z,hz,h3⟩,h2.trans (h4.mono (by omega)),Nat.le_refl _,by omega,by omega,by omega,by omega,by omega⟩
theorem zfi {w W3 u u':World} {B m:Nat} {k:Int} {s:ByteArray} {v:VT} {ns:List ByteArray} {l:List ET} {v0 v1 v2 v3 v4 v5 vn vi:Value} {KL:List C10} {W2:World} (hk:wfI k) (hs:s.size<=maxLen) (hvv:ValAt w B [v0,v1,v2,v3,v4,v5] v) (hl:l.length<=maxLen) (hB:B<=w.heap.size)
  (hm:m<=W2.heap.size) (h23:W2.heap.size<=W3.heap.size) (hns:KeptS (fun b=>W2.heap.size<=b) W3 vn ns) (hI:OwnE 30 B W3 u vi l l.length KL) (hbel:Below w.heap.size w u')
  (hu:∀ b,b < u.heap.size->b < B\/m<=b->u'.heap[b]?= u.heap[b]?) (hsz:u.heap.size<=u'.heap.size) (hwm:w.heap.size<=m):
  KeptX (fun b=>b < B\/w.heap.size<=b) u' [.int .i64 k,.string s,v0,v1,v2,v3,v4,v5,vn,vi] (.mk k s v ns l):=by
 have h3:=hI.bel
 refine ExpAt.of hk hs ?_ (hns.to (fun b hp hb=>⟨by right;omega,?_⟩) ?_) hl (hI.row hl (by omega) (fun b hp hb=>hu b hb (hp.imp id (by omega))) hsz)
 ·refine(ValAt.cellsB hvv fun a v ha hv=>zy.2 ⟨.inl ha,?_⟩).more (Nat.le_trans hB hbel.size)
  exact(hbel.cell (by omega)).trans hv
 ·have h4:=h3.size
  rw[hu b (by omega) (by right;omega)]
  exact h3.block b hb
 ·have:=h3.size
  omega
theorem ze4:∀ (t:ET) (B:Nat) (cs:List Value) (w:World),FitE t->B<=w.heap.size->ExpAt w B cs t->Calls Tryz.prog 41 #[.agg ⟨cs⟩] w (z2h B t w):=by
 intro t
 induction t using ET.ind with
 |h k s v ns its ih=>
  intro B cs w hfit hB hv
  obtain⟨v0,v1,v2,v3,v4,v5,vn0,vi0,rfl,hk,hs,hvv,hns,hil,hi⟩:=hv.inv
  obtain⟨hft1,hft2,hft3⟩:=hfit.inv
  obtain⟨-,A,c,rfl,hA⟩:=hi
  obtain⟨-,NA,nc,rfl, -⟩:=id hns
  have HA:=I hA
  have HNS:=I (hns.more hB)
  have HW:=I (And.intro hk (And.intro hs (And.intro hvv hil)))
  have HFN:=I hft1
  have HBW:=I hB
  have IH:Hid (∀ x∈its,∀ cs w,B<=w.heap.size->ExpAt w B cs x->Calls Tryz.prog 41 #[.agg ⟨cs⟩] w (z2h B x w)):=I fun x hx cs w h1 h=>ih x hx B cs w (hft3 x hx) h1 h
  have HB88:Hid (its.length*160<=140737488351232):=I hft2
  have HLN:Hid (its.length<=9223372036854775807):=I (Nat.le_trans hil z08)
  have HONV:Hid (∀ u∈[v0,v1,v2,v3,v4,v5],u.oneCell'= true):=I hvv.one
  clear hA hv ih hfit hft1 hft2 hft3 hns hk hs hil hvv hB
  go_enter Tryz.func41,Tryz.ntmps41
  go_upto_region 1 with (fail)
  have HST:=I (zaE w [.int .i64 k,.string s,v0,v1,v2,v3,v4,v5,.slice NA ns.length nc,.slice A its.length c] [.int .i64 0,.string ⟨#[]⟩,.int .i64 0,.int .i64 0,.float .f64 0,.string ⟨#[]⟩,.slice none 0 0,.slice none 0 0,.slice none 0 0,.slice none 0 0] rfl)
  generalize ((w.alloc (.cells ⟨[.int .i64 k,.string s,v0,v1,v2,v3,v4,v5,.slice NA ns.length nc,.slice A its.length c]⟩ 30)).alloc (.cells ⟨[.int .i64 0,.string ⟨#[]⟩,.int .i64 0,.int .i64 0,.float .f64 0,.string ⟨#[]⟩,.slice none 0 0,.slice none 0 0,.slice none 0 0,.slice none 0 0]⟩ 30))= W at*
  have HM:Hid (w.heap.size<=w.heap.size+2):=I (by omega)
  obtain⟨m,hm⟩:∃ m,w.heap.size+2= m:=⟨_,rfl⟩
  obtain⟨q,hq⟩:∃ q,w.heap.size+1= q:=⟨_,rfl⟩
  obtain⟨p,hp⟩:∃ p,w.heap.size= p:=⟨_,rfl⟩
  rw[hm,hq] at HST
  rw[hm] at HM
  have HST':Hid (TwoB w W p q m [.int .i64 k,.string s,v0,v1,v2,v3,v4,v5,.slice NA ns.length nc,.slice A its.length c]):=I (hp▸HST.o)
  rw[hq,hp]
  clear HST hq hm hp
  have d8:W.cell? ⟨p,8,none⟩= some (.slice NA ns.length nc):=HST'.o.wa.at 8 rfl
  have HCN:=I (z1D W (.slice NA ns.length nc) ns ((HNS.o.below HST'.o.bel fun _ _ _ h=>h).more HST'.o.bel.size) HFN.o)
  go_upto_region 2 with (go_at_call 42;refine HCN.o.mono ?_;rintro e z ⟨v',rfl,hb,hk⟩;obtain⟨-,NA2,nc2,rfl, -⟩:=id hk;have HST3:=I (HST'.o.below hb);have HKN:=I hk;have HBZ:=I hb;have e8:z.cell? ⟨p,8,none⟩= some (.slice NA ns.length nc):=HST3.o.wa.at 8 rfl;have f8:z.frozen? ⟨p,8,none⟩= false:=HST3.o.wa.fz 8;clear hk hb)
  have HST4:Hid (TwoB w (z.setCell ⟨p,8,none⟩ (.slice NA2 ns.length nc2)) p q m [.int .i64 k,.string s,v0,v1,v2,v3,v4,v5,.slice NA2 ns.length nc2,.slice A its.length c]):=I (HST3.o.put 8 (.slice NA2 ns.length nc2))
  have HK3:Hid (KeptS (fun b=>W.heap.size<=b) (z.setCell ⟨p,8,none⟩ (.slice NA2 ns.length nc2)) (.slice NA2 ns.length nc2) ns):=I (HKN.o.to (fun b hb hlt=>⟨hb,z1h z p 8 b _ (by
   have h1:=HST'.o.mw
   have h2:=HST'.o.pm
   show b≠p
   omega)⟩) (by rw[z0P];exact Nat.le_refl _))
  have HSZ3:Hid (W.heap.size<=(z.setCell ⟨p,8,none⟩ (.slice NA2 ns.length nc2)).heap.size):=I (by rw[z0P];exact HBZ.o.size)
  have HM2:Hid (m<=W.heap.size):=I HST'.o.mw
  clear HST3 HKN HBZ e8 f8 HCN HNS HFN d8 HST'
  generalize z.setCell ⟨p,8,none⟩ (.slice NA2 ns.length nc2)= W3 at*
  have d9:W3.cell? ⟨p,9,none⟩= some (.slice A its.length c):=HST4.o.wa.at 9 rfl
  have HB3:Hid (B<=W3.heap.size):=I (Nat.le_trans HBW.o HST4.o.bel.size)
  go_upto_region 4 with (fail)
  clear d9
  go_loopg [3,13] its.length (fun g v i u=>∃ (j:Nat) (KL:List C10),j+g= its.length/\i= .int .i64 j/\OwnE 30 B W3 u v its j KL)
  case atStart=>exact⟨0,[],by omega,rfl,OwnE.start _ _ _ HB3.o⟩
  case round=>
   obtain⟨j,KL,hj,rfl,hI⟩:=hrel
   have HI:=I hI
   clear hI
   obtain⟨UA,uc,rfl⟩:=z4c HI.o.own
   have HST5:=I (HST4.o.below HI.o.bel)
   cases gk with
   |zero=>
    have hge: ¬ ((j:Int) <(its.length:Int)):=by omega
    obtain rfl:j= its.length:=by omega
    have g9:wr.cell? ⟨p,9,none⟩= some (.slice A its.length c):=HST5.o.wa.at 9 rfl
    have f9:wr.frozen? ⟨p,9,none⟩= false:=HST5.o.wa.fz 9
    go_upto_region 9 with (fail)
    have HST6:Hid (TwoB w (wr.setCell ⟨p,9,none⟩ (.slice UA KL.length uc)) p q m [.int .i64 k,.string s,v0,v1,v2,v3,v4,v5,.slice NA2 ns.length nc2,.slice UA KL.length uc]):=I (HST5.o.put 9 (.slice UA KL.length uc))
    have HP:Hid (∀ b,b < B\/m<=b->(wr.setCell ⟨p,9,none⟩ (.slice UA KL.length uc)).heap[b]?= wr.heap[b]?):=I fun b hb=>z1h wr p 9 b _ (by
     have:=HST5.o.pm
     have:=HST5.o.wp
     have:=HBW.o
     show b≠p
     omega)
    have HPS:Hid ((wr.setCell ⟨p,9,none⟩ (.slice UA KL.length uc)).heap.size= wr.heap.size):=I (z0P _ _ _)
    clear g9 f9
    generalize wr.setCell ⟨p,9,none⟩ (.slice UA KL.length uc)= W9 at*
    have HR9:Hid (W9.rangeAt p 0 [.int .i64 k,.string s,v0,v1,v2,v3,v4,v5,.slice NA2 ns.length nc2,.slice UA KL.length uc]):=I HST6.o.wa.range
    obtain⟨z0,hz0,hz1⟩:=HST6.o.wb
    have HZ0:=I (And.intro hz0 hz1)
    have HON:Hid (∀ v∈[.int .i64 k,.string s,v0,v1,v2,v3,v4,v5,.slice NA2 ns.length nc2,.slice UA KL.length uc],v.oneCell'= true):=I (by
     intro u hu
     simp only[List.mem_cons,List.not_mem_nil,or_false] at hu
     rcases hu with rfl|rfl|h|h|h|h|h|h|rfl|rfl
     ·rfl
     ·rfl
     ·exact HONV.o u (by rw[h];simp)
     ·exact HONV.o u (by rw[h];simp)
     ·exact HONV.o u (by rw[h];simp)
     ·exact HONV.o u (by rw[h];simp)
     ·exact HONV.o u (by rw[h];simp)
     ·exact HONV.o u (by rw[h];simp)
     ·rfl
     ·rfl)
    clear hz0 hz1
    go_wp2_with (first|((with_reducible refine z7 30 _ rfl ?_ p 0 [.int .i64 k,.string s,v0,v1,v2,v3,v4,v5,.slice NA2 ns.length nc2,.slice UA KL.length uc] _ rfl HR9.o Tryz.underlying30 rfl ?_ ?_);(exact wA rfl);kernel_rfl)|((with_reducible refine zd 30 _ _ rfl rfl ?_ q z0 [.int .i64 k,.string s,v0,v1,v2,v3,v4,v5,.slice NA2 ns.length nc2,.slice UA KL.length uc] HZ0.o.2 ?_ ?_ ?_ ?_ ?_ ?_);(exact wA rfl);rw[HZ0.o.1];rfl;rfl;rfl;kernel_rfl;exact HON.o;intro Z hZw hZb;have HZW:=I hZw;have HZB:=I hZb;clear hZw hZb))
    (try simp only[Exit.inBlock,Exit.then])
    refine bodyPost_ret (zH rfl _ _ q [.int .i64 k,.string s,v0,v1,v2,v3,v4,v5,.slice NA2 ns.length nc2,.slice UA KL.length uc] rfl rfl HZW.o) rfl ?_
    have hbel:Below w.heap.size w Z:=⟨HZB.o.os.trans HST6.o.bel.os,HZB.o.tape.trans HST6.o.bel.tape,HZB.o.output.trans HST6.o.bel.output,Nat.le_trans HST6.o.bel.size HZB.o.size,fun b hb=>(HZB.o.block b (by have:=HST6.o.bel.size;omega) (by have:=HST6.o.wq;omega) (by have:=HST6.o.wq;omega)).trans (HST6.o.bel.block b hb)⟩
    refine⟨_,rfl,zfi HW.o.1 HW.o.2.1 HW.o.2.2.1 HW.o.2.2.2 HBW.o HM2.o HSZ3.o HK3.o HI.o hbel (fun b hlt hb=> ?_) (by rw[← HPS.o];exact HZB.o.size) HM.o,hbel⟩
    have hq:b≠q:=by
     have h1:=HST6.o.qm
     have h2:=HST6.o.wq
     have h3:=HBW.o
     omega
    rw[HZB.o.block b (by rw[HPS.o];exact hlt) hq hq]
    exact HP.o b hb
   |succ g=>
    have hlt:(j:Int) <(its.length:Int):=by omega
    have hln:its.length<=9223372036854775807:=HLN.o
    obtain⟨y,hy⟩:∃ y,its[j]?= some y:=⟨_,List.getElem?_eq_getElem (by omega)⟩
    obtain⟨b,o,rfl,hbb,hc⟩:=HA.o (by omega)
    obtain⟨ks,hkl,hr,hR⟩:=hc j y hy
    have HBw:Hid (Below B w wr):=I (HST5.o.bel.mono HBW.o)
    have HR:=I (za hr HBw.o hbb)
    have HKL:=I hkl
    have HY:=I hy
    have HONE:=I hR.one
    have HV:=I (hR.under HBw.o)
    clear hc hr hR hy hkl
    go_upto_region 6 with (first|((with_reducible refine z7 30 _ rfl ?_ b (o+j*10) ks _ rfl HR.o Tryz.underlying30 rfl ?_ ?_);(exact wA rfl);rw[HKL.o];kernel_rfl)|((with_reducible refine z0c 30 _ _ rfl ?hwx wr ?z ks ?hwld ?hz ?hx ?hy ?hi ?h1 ?_);(case hwld=>rfl);(case hx=>rfl);(case hy=>rfl);(case hwx=>(exact wA rfl));(case hz=>rw[HKL.o];rfl);(case hi=>rw[HKL.o];kernel_rfl);(case h1=>exact HONE.o);intro Z hZ;have HX:=I hZ;clear hZ))
    have HBZ:Hid (B<=wr.heap.size):=I (Nat.le_trans HBW.o HST5.o.bel.size)
    have HIY:=I (IH.o y (List.mem_of_getElem? HY.o) ks Z (Nat.le_trans HBZ.o HX.o.below.size) (HV.o.under (HX.o.below.mono HBZ.o)))
    have HRZ:=I HX.o.range
    obtain⟨j0,hi,hz0,hz1,hz2⟩:=z2Q z3K
    have HJ0:=I hi
    have HY0:=I hz0
    have HY1:=I hz1
    have HY2:=I hz2
    clear hi hz0 hz1 hz2
    go_wp2_with (first|((with_reducible refine z7 30 _ rfl ?_ wr.heap.size 0 ks _ rfl HRZ.o Tryz.underlying30 rfl ?_ ?_);(exact wA rfl);rw[HKL.o];kernel_rfl)|(go_at_call 41;fail))
    refine HIY.o.mono ?_
    rintro e u6 ⟨cs',rfl,hk6,hb6⟩
    have HK6:=I hk6
    have HB6:=I hb6
    have HL6:=I (eslen hk6.exp)
    have HO6:=I hk6.exp.one
    clear hk6 hb6 HIY HRZ HR
    have HC7:Hid (∀ i u,(enc10 ⟨cs',HL6.o⟩)[i]?= some u->(u6.alloc (.cells ⟨cs'⟩ 30)).cell? ⟨u6.heap.size,i,none⟩= some u):=I (z0l u6 cs' 30)
    have HB7:=I (zc u6 (.cells ⟨cs'⟩ 30))
    have HS7:Hid (W3.heap.size<=(u6.alloc (.cells ⟨cs'⟩ 30)).heap.size):=I (Nat.le_trans HI.o.bel.size (Nat.le_trans HX.o.below.size (Nat.le_trans HB6.o.size HB7.o.size)))
    have HOW:Hid (OwnSl 30 10 enc10 (u6.alloc (.cells ⟨cs'⟩ 30)) W3.heap.size (.slice UA KL.length uc) KL):=I (HI.o.own.below (HX.o.below.trans ((HB6.o.trans (HB7.o.mono HB6.o.size)).mono HX.o.below.size)))
    have HM63:Hid (KL.length+1<=maxLen):=I (by have:=HI.o.len;have:=HB88.o;unfold maxLen;omega)
    have HM88:Hid ((KL.length+1) *160<=140737488355328):=I (by have:=HI.o.len;have:=HB88.o;omega)
    go_wp2_with (first|((with_reducible refine z1f 28 _ rfl ?_ 30 j0 _ cs' ?_ Tryz.underlying28 HJ0.o HY0.o ?_ ?_ ?_ ?_);(exact wA rfl);rfl;rw[HL6.o,HY1.o];rw[HL6.o];decide;rw[HL6.o];decide)|(at_builtin;refine z6Y rfl _ _ 28 rfl W3.heap.size 30 j0 _ 10 160 enc10 Tryz.underlying28 HJ0.o HY0.o HY1.o HY2.o rfl (by decide) z2I _ KL rfl HOW.o u6.heap.size 1 ⟨cs',HL6.o⟩ HO6.o rfl HC7.o HM63.o HM88.o HS7.o ?_;intro v' u8 hown8 hg8 hb8;have HN:=I (HI.o.next HX.o.below HB6.o HB7.o HY.o HK6.o hown8 hg8 hb8);clear hown8 hg8 hb8))
    go_roundg g
    case measure=>omega
    case rel=>exact⟨j+1,_,by omega,by go_num,HN.o⟩
end
section
open Go Go.RowKit
mutual
def replE (nm:ByteArray) (y:ET):ET->ET
 | .mk k s v ns its=>if k= 2/\(s.toList ==nm.toList)= true then y else .mk k s v ns (z02 nm y its)
def z02 (nm:ByteArray) (y:ET):List ET->List ET
 |[]=>[]
 |a::l=>replE nm y a::z02 nm y l
end
theorem z1m (nm:ByteArray) (y:ET):∀ l:List ET,z02 nm y l= l.map (replE nm y)
 |[]=>by rw[z02];rfl
 |a::l=>by rw[z02,z1m nm y l];rfl
theorem z1p (nm:ByteArray) (y:ET) (l:List ET):(z02 nm y l).length= l.length:=by rw[z1m,List.length_map]
theorem z6O {nm:ByteArray} {y:ET} {l:List ET} {i:Nat} {x:ET} (h:l[i]?= some x):(z02 nm y l)[i]?= some (replE nm y x):=by rw[z1m,List.getElem?_map,h];rfl
theorem zdL {w W u z u':World} {B m:Nat} {k:Int} {s:ByteArray} {v:VT} {ns:List ByteArray} {l:List ET} {v0 v1 v2 v3 v4 v5 vn vi:Value} {KL:List C10} (hk:wfI k) (hs:s.size<=maxLen) (hvv:ValAt w B [v0,v1,v2,v3,v4,v5] v) (hl:l.length<=maxLen) (hB:B<=w.heap.size)
  (hm:m<=W.heap.size) (hns:KeptS (fun b=>u.heap.size<=b) z vn ns) (hI:OwnE 30 B W u vi l l.length KL) (hz:Below u.heap.size u z) (hbel:Below w.heap.size w u')
  (hu:∀ b,b < z.heap.size->b < B\/m<=b->u'.heap[b]?= z.heap[b]?) (hsz:z.heap.size<=u'.heap.size) (hwm:w.heap.size<=m):
  KeptX (fun b=>b < B\/w.heap.size<=b) u' [.int .i64 k,.string s,v0,v1,v2,v3,v4,v5,vn,vi] (.mk k s v ns l):=by
 have h3:=hI.bel
 have h4:=h3.size
 have h5:=hz.size
 refine ExpAt.of hk hs ?_ (hns.to (fun b hp hb=>⟨by right;omega,hu b hb (by right;omega)⟩) hsz) hl (hI.row hl (by omega) (fun b hp hb=> ?_) (by omega))
 ·refine(ValAt.cellsB hvv fun a v ha hv=>zy.2 ⟨.inl ha,?_⟩).more (Nat.le_trans hB hbel.size)
  exact(hbel.cell (by omega)).trans hv
 ·exact(hu b (by omega) (hp.imp id (by omega))).trans (hz.block b hb)
theorem z4i (w:World) (cs ca z:List Value) (hz:z.length= 10):TwoB w (((w.alloc (.cells ⟨cs⟩ 30)).alloc (.cells ⟨ca⟩ 30)).alloc (.cells ⟨z⟩ 30)) w.heap.size (w.heap.size+1+1) (w.heap.size+3) cs/\
  Whole 30 (((w.alloc (.cells ⟨cs⟩ 30)).alloc (.cells ⟨ca⟩ 30)).alloc (.cells ⟨z⟩ 30)) (w.heap.size+1) ca:=by
 have h1:=Whole.new w cs 30
 have h2:=zc w (.cells ⟨cs⟩ 30)
 have hs:(w.alloc (.cells ⟨cs⟩ 30)).heap.size= w.heap.size+1:=by simp
 generalize w.alloc (.cells ⟨cs⟩ 30)= W1 at*
 have h3:=Whole.new W1 ca 30
 have h4:=zc W1 (.cells ⟨ca⟩ 30)
 have h5:(W1.alloc (.cells ⟨ca⟩ 30)).heap.size= W1.heap.size+1:=by simp
 rw[hs] at h3
 generalize W1.alloc (.cells ⟨ca⟩ 30)= W2 at*
 have h6:=Whole.new W2 z 30
 have h7:=zc W2 (.cells ⟨z⟩ 30)
 have h8:(W2.alloc (.cells ⟨z⟩ 30)).heap.size= W2.heap.size+1:=by simp
 rw[show W2.heap.size= w.heap.size+1+1 by omega] at h6
 exact⟨⟨(h1.keep (h4.block _ (by omega))).keep (h7.block _ (by omega)),⟨z,hz,h6⟩,(h2.trans (h4.mono (by omega))).trans (h7.mono (by omega)),Nat.le_refl _,by omega,by omega,by omega,by omega,by omega⟩,h3.keep (h7.block _ (by omega))⟩
theorem z3Y (nm:ByteArray) (ty:ET) (hfy:FitE ty):∀ (t:ET) (B:Nat) (cs ca:List Value) (w:World),FitE t->B<=w.heap.size->ExpAt w B cs t->ExpAt w B ca ty->
  Calls Tryz.prog 15 #[.agg ⟨cs⟩,.string nm,.agg ⟨ca⟩] w (z2h B (replE nm ty t) w):=by
 have HFY:=I hfy
 clear hfy
 intro t
 induction t using ET.ind with
 |h k s v ns its ih=>
  intro B cs ca w hfit hB hv hy
  obtain⟨v0,v1,v2,v3,v4,v5,vn0,vi0,rfl,hk,hs,hvv,hns,hil,hi⟩:=hv.inv
  obtain⟨hft1,hft2,hft3⟩:=hfit.inv
  obtain⟨-,A,c,rfl,hA⟩:=hi
  obtain⟨-,NA,nc,rfl, -⟩:=id hns
  have HA:=I hA
  have HNS:=I (hns.more hB)
  have HW:=I (And.intro hk (And.intro hs (And.intro hvv hil)))
  have HFN:=I hft1
  have HBW:=I hB
  have HYA:=I hy
  have HCA:=I (eslen hy)
  have IH:Hid (∀ x∈its,∀ cs ca w,B<=w.heap.size->ExpAt w B cs x->ExpAt w B ca ty->Calls Tryz.prog 15 #[.agg ⟨cs⟩,.string nm,.agg ⟨ca⟩] w (z2h B (replE nm ty x) w)):=I fun x hx cs ca w h1 h h2=>ih x hx B cs ca w (hft3 x hx) h1 h h2
  have HB88:Hid (its.length*160<=140737488351232):=I hft2
  have HLN:Hid (its.length<=9223372036854775807):=I (Nat.le_trans hil z08)
  have HONV:Hid (∀ u∈[v0,v1,v2,v3,v4,v5],u.oneCell'= true):=I hvv.one
  obtain⟨R,hR⟩:∃ R,replE nm ty (.mk k s v ns its)= R:=⟨_,rfl⟩
  have HR0:Hid (R= if k= 2/\(s.toList ==nm.toList)= true then ty else .mk k s v ns (z02 nm ty its)):=I (by rw[← hR,replE])
  rw[hR]
  clear hA hv ih hfit hft1 hft2 hft3 hns hk hs hil hvv hB hy hR
  go_enter Tryz.func15,Tryz.ntmps15
  go_upto_region 1 with (fail)
  have HST:=I (z4i w [.int .i64 k,.string s,v0,v1,v2,v3,v4,v5,.slice NA ns.length nc,.slice A its.length c] ca [.int .i64 0,.string ⟨#[]⟩,.int .i64 0,.int .i64 0,.float .f64 0,.string ⟨#[]⟩,.slice none 0 0,.slice none 0 0,.slice none 0 0,.slice none 0 0] rfl)
  generalize (((w.alloc (.cells ⟨[.int .i64 k,.string s,v0,v1,v2,v3,v4,v5,.slice NA ns.length nc,.slice A its.length c]⟩ 30)).alloc (.cells ⟨ca⟩ 30)).alloc (.cells ⟨[.int .i64 0,.string ⟨#[]⟩,.int .i64 0,.int .i64 0,.float .f64 0,.string ⟨#[]⟩,.slice none 0 0,.slice none 0 0,.slice none 0 0,.slice none 0 0]⟩ 30))= W at*
  have HM:Hid (w.heap.size<=w.heap.size+3):=I (by omega)
  have HPM:Hid (w.heap.size+1 < w.heap.size+3/\w.heap.size+1≠w.heap.size):=I (by omega)
  obtain⟨m,hm⟩:∃ m,w.heap.size+3= m:=⟨_,rfl⟩
  obtain⟨q,hq⟩:∃ q,w.heap.size+1+1= q:=⟨_,rfl⟩
  obtain⟨p2,hp2⟩:∃ q,w.heap.size+1= q:=⟨_,rfl⟩
  obtain⟨p,hp⟩:∃ p,w.heap.size= p:=⟨_,rfl⟩
  rw[hm,hq,hp2] at HST
  rw[hm] at HM
  rw[hm,hp2] at HPM
  have HST':Hid (TwoB w W p q m [.int .i64 k,.string s,v0,v1,v2,v3,v4,v5,.slice NA ns.length nc,.slice A its.length c]):=I (hp▸HST.o.1)
  have HWY:Hid (Whole 30 W p2 ca):=I HST.o.2
  have HP2:Hid (p2 < m/\p2≠p):=I ⟨HPM.o.1,hp▸HPM.o.2⟩
  rw[hq,hp2,hp]
  clear HST hq hm hp hp2 HPM
  have d0:W.cell? ⟨p,0,none⟩= some (.int .i64 k):=HST'.o.wa.at 0 rfl
  have d1:W.cell? ⟨p,1,none⟩= some (.string s):=HST'.o.wa.at 1 rfl
  obtain⟨bm,hbm⟩:∃ b,(decide (k= 2) && (s.toList ==nm.toList))= b:=⟨_,rfl⟩
  have HBM:=I hbm
  clear hbm
  go_cut [18] (fun v z=>v= .bool bm/\z= W)
  case first=>
   by_cases hk2:k= 2
   ·subst hk2
    have HV:Hid (bm=(s.toList ==nm.toList)):=I (by rw[← HBM.o];rfl)
    go_wp2
    go_meet
    case rel=>exact⟨by rw[HV.o],rfl⟩
   ·have hk2b:(k ==2)= false:=by simpa using hk2
    have HV:Hid (bm= false):=I (by rw[← HBM.o,decide_eq_false hk2];rfl)
    clear hk2
    go_wp2
    go_meet
    case rel=>exact⟨by rw[HV.o],rfl⟩
  case rest=>
  obtain⟨rfl,rfl⟩:=hcut
  clear d0 d1
  have HMW:Hid (m<=wc.heap.size):=I HST'.o.mw
  have HPP:Hid (q < m/\w.heap.size<=q):=I ⟨HST'.o.qm,HST'.o.wq⟩
  cases bm with
  |true=>
   have HRT:Hid (R= ty):=I (by have h:=HBM.o;rw[Bool.and_eq_true] at h;rw[HR0.o,if_pos ⟨of_decide_eq_true h.1,h.2⟩])
   have HRY:=I HWY.o.range
   have HCO:=I (ze4 ty B ca wc HFY.o (Nat.le_trans HBW.o HST'.o.bel.size) (HYA.o.under (HST'.o.bel.mono HBW.o)))
   go_wp2_with (first|((with_reducible refine z7 30 _ rfl ?_ p2 0 ca _ rfl HRY.o Tryz.underlying30 rfl ?_ ?_);(exact wA rfl);rw[HCA.o];kernel_rfl)|(go_at_call 41;fail))
   refine HCO.o.mono ?_
   rintro e u6 ⟨cs',rfl,hk6,hb6⟩
   have HK6:=I hk6
   have HB6:=I hb6
   have HL6:=I (eslen hk6.exp)
   have HON:Hid (∀ v∈cs',v.oneCell'= true):=I hk6.exp.one
   clear hk6 hb6 HCO
   have HST6:=I (HST'.o.below HB6.o)
   obtain⟨z0,hz0,hz1⟩:=HST6.o.wb
   have HZ0:=I (And.intro hz0 hz1)
   clear hz0 hz1
   go_wp2_with ((with_reducible refine zd 30 _ _ rfl rfl ?_ q z0 cs' HZ0.o.2 ?_ ?_ ?_ ?_ ?_ ?_);(exact wA rfl);rw[HZ0.o.1,HL6.o];rfl;rfl;rw[HL6.o];kernel_rfl;exact HON.o;intro Z hZw hZb;have HZW:=I hZw;have HZB:=I hZb;clear hZw hZb)
   (try simp only[Exit.inBlock,Exit.then])
   refine bodyPost_ret (zH rfl _ _ q cs' HL6.o rfl HZW.o) rfl ?_
   have hbel:Below w.heap.size w Z:=⟨HZB.o.os.trans HST6.o.bel.os,HZB.o.tape.trans HST6.o.bel.tape,HZB.o.output.trans HST6.o.bel.output,Nat.le_trans HST6.o.bel.size HZB.o.size,fun b hb=>(HZB.o.block b (by have:=HST6.o.bel.size;omega) (by have:=HST6.o.wq;omega) (by have:=HST6.o.wq;omega)).trans (HST6.o.bel.block b hb)⟩
   refine⟨_,rfl,?_,hbel⟩
   rw[HRT.o]
   refine HK6.o.to (fun b hp hlt=> ?_) HZB.o.size
   have h1:=HPP.o
   have h2:=HMW.o
   have h3:=HBW.o
   have h4:=HST'.o.bel.size
   have hq:b≠q:=by omega
   exact⟨by omega,HZB.o.block b hlt hq hq⟩
  |false=>
  have HRT:Hid (R= .mk k s v ns (z02 nm ty its)):=I (by have h:=HBM.o;rw[HR0.o,if_neg];rintro⟨h1,h2⟩;rw[decide_eq_true h1,h2] at h;cases h)
  have d9:wc.cell? ⟨p,9,none⟩= some (.slice A its.length c):=HST'.o.wa.at 9 rfl
  have HB3:Hid (B<=wc.heap.size):=I (Nat.le_trans HBW.o HST'.o.bel.size)
  go_upto_region 5 with (fail)
  clear d9
  go_loopg [7,24] its.length (fun g v i u=>∃ (j:Nat) (KL:List C10),j+g= its.length/\i= .int .i64 j/\OwnE 30 B wc u v (z02 nm ty its) j KL)
  case atStart=>exact⟨0,[],by omega,rfl,OwnE.start _ _ _ HB3.o⟩
  case round=>
   obtain⟨j,KL,hj,rfl,hI⟩:=hrel
   have HI:=I hI
   clear hI
   obtain⟨UA,uc,rfl⟩:=z4c HI.o.own
   have HST5:=I (HST'.o.below HI.o.bel)
   cases gk with
   |zero=>
    have hge: ¬ ((j:Int) <(its.length:Int)):=by omega
    obtain rfl:j= its.length:=by omega
    have g8:wr.cell? ⟨p,8,none⟩= some (.slice NA ns.length nc):=HST5.o.wa.at 8 rfl
    have HCN:=I (z1D wr (.slice NA ns.length nc) ns ((HNS.o.below HST5.o.bel fun _ _ _ h=>h).more HST5.o.bel.size) HFN.o)
    go_upto_region 10 with (go_at_call 42;refine HCN.o.mono ?_;rintro e z ⟨v',rfl,hb,hk⟩;obtain⟨-,NA2,nc2,rfl, -⟩:=id hk;have HST7:=I (HST5.o.below hb);have HKN:=I hk;have HBZ:=I hb;have e8:z.cell? ⟨p,8,none⟩= some (.slice NA ns.length nc):=HST7.o.wa.at 8 rfl;have f8:z.frozen? ⟨p,8,none⟩= false:=HST7.o.wa.fz 8;have e9:z.cell? ⟨p,9,none⟩= some (.slice A its.length c):=HST7.o.wa.at 9 rfl;have f9:z.frozen? ⟨p,9,none⟩= false:=HST7.o.wa.fz 9;clear hk hb)
    have HST6:Hid (TwoB w ((z.setCell ⟨p,8,none⟩ (.slice NA2 ns.length nc2)).setCell ⟨p,9,none⟩ (.slice UA KL.length uc)) p q m [.int .i64 k,.string s,v0,v1,v2,v3,v4,v5,.slice NA2 ns.length nc2,.slice UA KL.length uc]):=I ((HST7.o.put 8 (.slice NA2 ns.length nc2)).put 9 (.slice UA KL.length uc))
    have HP:Hid (∀ b,b < B\/m<=b->((z.setCell ⟨p,8,none⟩ (.slice NA2 ns.length nc2)).setCell ⟨p,9,none⟩ (.slice UA KL.length uc)).heap[b]?= z.heap[b]?):=I fun b hb=>(z1h _ p 9 b _ (by
     have:=HST5.o.pm
     have:=HST5.o.wp
     have:=HBW.o
     show b≠p
     omega)).trans (z1h z p 8 b _ (by
     have:=HST5.o.pm
     have:=HST5.o.wp
     have:=HBW.o
     show b≠p
     omega))
    have HPS:Hid (((z.setCell ⟨p,8,none⟩ (.slice NA2 ns.length nc2)).setCell ⟨p,9,none⟩ (.slice UA KL.length uc)).heap.size= z.heap.size):=I (by rw[z0P,z0P])
    clear g8 e8 f8 e9 f9
    generalize (z.setCell ⟨p,8,none⟩ (.slice NA2 ns.length nc2)).setCell ⟨p,9,none⟩ (.slice UA KL.length uc)= W9 at*
    have HR9:Hid (W9.rangeAt p 0 [.int .i64 k,.string s,v0,v1,v2,v3,v4,v5,.slice NA2 ns.length nc2,.slice UA KL.length uc]):=I HST6.o.wa.range
    obtain⟨z0,hz0,hz1⟩:=HST6.o.wb
    have HZ0:=I (And.intro hz0 hz1)
    have HON:Hid (∀ v∈[.int .i64 k,.string s,v0,v1,v2,v3,v4,v5,.slice NA2 ns.length nc2,.slice UA KL.length uc],v.oneCell'= true):=I (by
     intro u hu
     simp only[List.mem_cons,List.not_mem_nil,or_false] at hu
     rcases hu with rfl|rfl|h|h|h|h|h|h|rfl|rfl
     ·rfl
     ·rfl
     ·exact HONV.o u (by rw[h];simp)
     ·exact HONV.o u (by rw[h];simp)
     ·exact HONV.o u (by rw[h];simp)
     ·exact HONV.o u (by rw[h];simp)
     ·exact HONV.o u (by rw[h];simp)
     ·exact HONV.o u (by rw[h];simp)
     ·rfl
     ·rfl)
    clear hz0 hz1
    go_wp2_with (first|((with_reducible refine z7 30 _ rfl ?_ p 0 [.int .i64 k,.string s,v0,v1,v2,v3,v4,v5,.slice NA2 ns.length nc2,.slice UA KL.length uc] _ rfl HR9.o Tryz.underlying30 rfl ?_ ?_);(exact wA rfl);kernel_rfl)|((with_reducible refine zd 30 _ _ rfl rfl ?_ q z0 [.int .i64 k,.string s,v0,v1,v2,v3,v4,v5,.slice NA2 ns.length nc2,.slice UA KL.length uc] HZ0.o.2 ?_ ?_ ?_ ?_ ?_ ?_);(exact wA rfl);rw[HZ0.o.1];rfl;rfl;rfl;kernel_rfl;exact HON.o;intro Z hZw hZb;have HZW:=I hZw;have HZB:=I hZb;clear hZw hZb))
    (try simp only[Exit.inBlock,Exit.then])
    refine bodyPost_ret (zH rfl _ _ q [.int .i64 k,.string s,v0,v1,v2,v3,v4,v5,.slice NA2 ns.length nc2,.slice UA KL.length uc] rfl rfl HZW.o) rfl ?_
    have hbel:Below w.heap.size w Z:=⟨HZB.o.os.trans HST6.o.bel.os,HZB.o.tape.trans HST6.o.bel.tape,HZB.o.output.trans HST6.o.bel.output,Nat.le_trans HST6.o.bel.size HZB.o.size,fun b hb=>(HZB.o.block b (by have:=HST6.o.bel.size;omega) (by have:=HST6.o.wq;omega) (by have:=HST6.o.wq;omega)).trans (HST6.o.bel.block b hb)⟩
    have hI2:OwnE 30 B wc wr (.slice UA KL.length uc) (z02 nm ty its) (z02 nm ty its).length KL:=by rw[z1p];exact HI.o
    refine⟨_,rfl,?_,hbel⟩
    rw[HRT.o]
    refine zdL HW.o.1 HW.o.2.1 HW.o.2.2.1 (by rw[z1p];exact HW.o.2.2.2) HBW.o HMW.o HKN.o hI2 HBZ.o hbel (fun b hlt hb=> ?_) (by rw[← HPS.o];exact HZB.o.size) HM.o
    have hq:b≠q:=by
     have h1:=HST6.o.qm
     have h2:=HST6.o.wq
     have h3:=HBW.o
     omega
    rw[HZB.o.block b (by rw[HPS.o];exact hlt) hq hq]
    exact HP.o b hb
   |succ g=>
    have hlt:(j:Int) <(its.length:Int):=by omega
    have hln:its.length<=9223372036854775807:=HLN.o
    obtain⟨y,hy⟩:∃ y,its[j]?= some y:=⟨_,List.getElem?_eq_getElem (by omega)⟩
    obtain⟨b,o,rfl,hbb,hc⟩:=HA.o (by omega)
    obtain⟨ks,hkl,hr,hR⟩:=hc j y hy
    have HBw:Hid (Below B w wr):=I (HST5.o.bel.mono HBW.o)
    have HR:=I (za hr HBw.o hbb)
    have HKL:=I hkl
    have HY:=I hy
    have HYR:=I (z6O (nm:=nm) (y:=ty) hy)
    have HONE:=I hR.one
    have HV:=I (hR.under HBw.o)
    clear hc hr hR hy hkl
    go_upto_region 7 with (first|((with_reducible refine z7 30 _ rfl ?_ b (o+j*10) ks _ rfl HR.o Tryz.underlying30 rfl ?_ ?_);(exact wA rfl);rw[HKL.o];kernel_rfl)|((with_reducible refine z0c 30 _ _ rfl ?hwx wr ?z ks ?hwld ?hz ?hx ?hy ?hi ?h1 ?_);(case hwld=>rfl);(case hx=>rfl);(case hy=>rfl);(case hwx=>(exact wA rfl));(case hz=>rw[HKL.o];rfl);(case hi=>rw[HKL.o];kernel_rfl);(case h1=>exact HONE.o);intro Z hZ;have HX:=I hZ;clear hZ))
    have HBZ:Hid (B<=wr.heap.size):=I (Nat.le_trans HBW.o HST5.o.bel.size)
    have HIY:=I (IH.o y (List.mem_of_getElem? HY.o) ks ca Z (Nat.le_trans HBZ.o HX.o.below.size) (HV.o.under (HX.o.below.mono HBZ.o)) (HYA.o.under (HBw.o.trans (HX.o.below.mono HBZ.o))))
    have HRZ:=I HX.o.range
    have HRY:Hid (Z.rangeAt p2 0 ca):=I (((HWY.o.keep (HI.o.bel.block p2 (Nat.lt_of_lt_of_le HP2.o.1 HMW.o))).keep (HX.o.below.block p2 (Nat.lt_of_lt_of_le HP2.o.1 (Nat.le_trans HMW.o HI.o.bel.size)))).range)
    obtain⟨j0,hi,hz0,hz1,hz2⟩:=z2Q z3K
    have HJ0:=I hi
    have HY0:=I hz0
    have HY1:=I hz1
    have HY2:=I hz2
    clear hi hz0 hz1 hz2
    go_wp2_with (first|((with_reducible refine z7 30 _ rfl ?_ wr.heap.size 0 ks _ rfl HRZ.o Tryz.underlying30 rfl ?_ ?_);(exact wA rfl);rw[HKL.o];kernel_rfl)|((with_reducible refine z7 30 _ rfl ?_ p2 0 ca _ rfl HRY.o Tryz.underlying30 rfl ?_ ?_);(exact wA rfl);rw[HCA.o];kernel_rfl)|(go_at_call 15;fail))
    refine HIY.o.mono ?_
    rintro e u6 ⟨cs',rfl,hk6,hb6⟩
    have HK6:=I hk6
    have HB6:=I hb6
    have HL6:=I (eslen hk6.exp)
    have HO6:=I hk6.exp.one
    clear hk6 hb6 HIY HRZ HR HRY
    have HC7:Hid (∀ i u,(enc10 ⟨cs',HL6.o⟩)[i]?= some u->(u6.alloc (.cells ⟨cs'⟩ 30)).cell? ⟨u6.heap.size,i,none⟩= some u):=I (z0l u6 cs' 30)
    have HB7:=I (zc u6 (.cells ⟨cs'⟩ 30))
    have HS7:Hid (wc.heap.size<=(u6.alloc (.cells ⟨cs'⟩ 30)).heap.size):=I (Nat.le_trans HI.o.bel.size (Nat.le_trans HX.o.below.size (Nat.le_trans HB6.o.size HB7.o.size)))
    have HOW:Hid (OwnSl 30 10 enc10 (u6.alloc (.cells ⟨cs'⟩ 30)) wc.heap.size (.slice UA KL.length uc) KL):=I (HI.o.own.below (HX.o.below.trans ((HB6.o.trans (HB7.o.mono HB6.o.size)).mono HX.o.below.size)))
    have HM63:Hid (KL.length+1<=maxLen):=I (by have:=HI.o.len;have:=HB88.o;unfold maxLen;omega)
    have HM88:Hid ((KL.length+1) *160<=140737488355328):=I (by have:=HI.o.len;have:=HB88.o;omega)
    go_wp2_with (first|((with_reducible refine z1f 28 _ rfl ?_ 30 j0 _ cs' ?_ Tryz.underlying28 HJ0.o HY0.o ?_ ?_ ?_ ?_);(exact wA rfl);rfl;rw[HL6.o,HY1.o];rw[HL6.o];decide;rw[HL6.o];decide)|(at_builtin;refine z6Y rfl _ _ 28 rfl wc.heap.size 30 j0 _ 10 160 enc10 Tryz.underlying28 HJ0.o HY0.o HY1.o HY2.o rfl (by decide) z2I _ KL rfl HOW.o u6.heap.size 1 ⟨cs',HL6.o⟩ HO6.o rfl HC7.o HM63.o HM88.o HS7.o ?_;intro v' u8 hown8 hg8 hb8;have HN:=I (HI.o.next HX.o.below HB6.o HB7.o HYR.o HK6.o hown8 hg8 hb8);clear hown8 hg8 hb8))
    go_roundg g
    case measure=>omega
    case rel=>exact⟨j+1,_,by omega,by go_num,HN.o⟩
end
section
open Go Go.RowKit
def eqN:List ByteArray->List ByteArray->Bool
 |[],[]=>true
 |a::l,b::r=>(a.toList ==b.toList) && eqN l r
 |_,_=>false
mutual
def sameE:ET->ET->Bool
 | .mk k s v ns its,.mk k' s' v' ns' its'=>(k ==k') && ((s.toList ==s'.toList) && ((ordV v v' ==0) && (((ns.length:Int) ==ns'.length) && (((its.length:Int) ==its'.length) && (eqN ns ns' && z03 its its')))))
def z03:List ET->List ET->Bool
 |[],[]=>true
 |a::l,b::r=>sameE a b && z03 l r
 |[],_::_=>false
 |_::_,[]=>false
end
theorem zg3 {l r:List ByteArray} {k:Nat} {x y:ByteArray} (h:l[k]?= some x) (h':r[k]?= some y):eqN (l.drop k) (r.drop k)=((x.toList ==y.toList) && eqN (l.drop (k+1)) (r.drop (k+1))):=by
 obtain⟨h1,h2⟩:=List.getElem?_eq_some_iff.1 h
 obtain⟨h3,h4⟩:=List.getElem?_eq_some_iff.1 h'
 rw[List.drop_eq_getElem_cons h1,List.drop_eq_getElem_cons h3,h2,h4,eqN]
theorem zfE {l r:List ByteArray} (h:l.length= r.length):eqN (l.drop l.length) (r.drop l.length)= true:=by
 rw[List.drop_length,h,List.drop_length,eqN]
theorem zd5 {l r:List ET} {k:Nat} {x y:ET} (h:l[k]?= some x) (h':r[k]?= some y):z03 (l.drop k) (r.drop k)=(sameE x y && z03 (l.drop (k+1)) (r.drop (k+1))):=by
 obtain⟨h1,h2⟩:=List.getElem?_eq_some_iff.1 h
 obtain⟨h3,h4⟩:=List.getElem?_eq_some_iff.1 h'
 rw[List.drop_eq_getElem_cons h1,List.drop_eq_getElem_cons h3,h2,h4,z03]
theorem zaA {l r:List ET} (h:l.length= r.length):z03 (l.drop l.length) (r.drop l.length)= true:=by
 rw[List.drop_length,h,List.drop_length,z03]
theorem z6x:∀ {l r:List ByteArray},eqN l r= true↔l= r
 |[],[]=>by simp[eqN]
 |[],_::_=>by simp[eqN]
 |_::_,[]=>by simp[eqN]
 |a::l,b::r=>by
  rw[eqN,Bool.and_eq_true,z6x,List.cons.injEq,beq_iff_eq]
  constructor
  ·rintro⟨h,h2⟩
   refine⟨?_,h2⟩
   rw[toList_eq,toList_eq] at h
   cases a
   cases b
   simp only at h
   rw[Array.toList_inj.1 h]
  ·rintro⟨rfl,h2⟩
   exact⟨rfl,h2⟩
theorem zfh {l r:List ByteArray} (h:eqN l r= true):l.length= r.length:=by rw[z6x.1 h]
theorem z5O:∀ {l r:List ET},l.length≠r.length->z03 l r= false
 |[],[],h=>absurd rfl h
 |[],_::_,_=>by rw[z03]
 |_::_,[],_=>by rw[z03]
 |a::l,b::r,h=>by rw[z03,z5O (l:=l) (r:=r) (by simpa using h),Bool.and_false]
theorem zb4 {k k':Int} {s s':ByteArray} {v v':VT} {ns ns':List ByteArray} {its its':List ET}:
  sameE (.mk k s v ns its) (.mk k' s' v' ns' its')=((k ==k') && ((s.toList ==s'.toList) && ((ordV v v' ==0) && (eqN ns ns' && z03 its its')))):=by
 rw[sameE]
 congr 3
 cases h1:eqN ns ns' with
 |false=>simp
 |true=>
  have h1:=zfh h1
  cases h2:z03 its its' with
  |false=>simp
  |true=>
   have h2:its.length= its'.length:=by
    rcases Decidable.em (its.length= its'.length) with h|h
    ·exact h
    ·rw[z5O h] at h2;cases h2
   simp[h1,h2]
end
end Go.Proofs.YteolfamhmfidbaaGreatDoor
