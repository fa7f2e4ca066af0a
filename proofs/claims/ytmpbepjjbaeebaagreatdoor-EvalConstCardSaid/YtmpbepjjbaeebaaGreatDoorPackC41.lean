/- Parts of a proof: E10B, E10C. -/
import Derived.Test.YtmpbepjjbaeebaaGreatDoorPackC27
import Derived.Test.YtmpbepjjbaeebaaGreatDoorPackC37
import Derived.Test.YtmpbepjjbaeebaaGreatDoorPackC39
set_option maxHeartbeats 8000000
set_option maxRecDepth 100000
set_option linter.unusedVariables false
set_option linter.unusedSimpArgs false
namespace Go.Proofs.YtmpbepjjbaeebaaGreatDoor
section
open Go Go.RowKit
theorem z7H (a:Int) (ha: -9223372036854775808<=a/\a<=9223372036854775807) (w:World):Calls Tryz.prog 200 #[.int .i64 a] w fun e w'=>e= .returned (.int .u64 ((a.natAbs:Nat):Int))/\w'= w:=by
 by_cases h:a < 0
 ·have e1:IntKind.u64.wrap (-(IntKind.u64.wrap a))=((a.natAbs:Nat):Int):=by rw[IntKind.wrap_u64,IntKind.wrap_u64];omega
  go_enter Tryz.func200,Tryz.ntmps200
  go_wp2
  go_ret
  exact⟨by first|rw[e1]|rfl,rfl⟩
 ·have e1:IntKind.u64.wrap a=((a.natAbs:Nat):Int):=by rw[IntKind.wrap_u64];omega
  go_enter Tryz.func200,Tryz.ntmps200
  go_wp2
  go_ret
  exact⟨by first|rw[e1]|rfl,rfl⟩
def IntPost (r:Except Int Int) (w:World) (e:Ending) (w':World):Prop:=((∃ n,r= .ok n/\e= .returned (.int .i64 n))\/(∃ c,r= .error c/\e= panE c))/\w'= w
theorem IntPost.ok {n:Int} {w:World} {e:Ending} {w':World} {r:Except Int Int} (hr:r= .ok n) (he:e= .returned (.int .i64 n)) (hw:w'= w):IntPost r w e w':=⟨.inl ⟨n,hr,he⟩,hw⟩
theorem IntPost.no {c:Int} {w:World} {e:Ending} {w':World} {r:Except Int Int} (hr:r= .error c) (he:e= panE c) (hw:w'= w):IntPost r w e w':=⟨.inr ⟨c,hr,he⟩,hw⟩
theorem zb5 (a b X Y q r R:Int) (sa:decide (a < 0)= true) (sb:decide (b < 0)= true) (HS1:Hid (∀ w:World,Calls Tryz.prog 200 #[.int .i64 a] w fun e w'=>e= .returned (.int .u64 X)/\w'= w)) (HS2:Hid (∀ w:World,Calls Tryz.prog 200 #[.int .i64 b] w fun e w'=>e= .returned (.int .u64 Y)/\w'= w))
  (HM:Hid (∀ w:World,Calls Tryz.prog 199 #[.int .u64 X,.int .u64 Y] w fun e w'=>e= .returned (.tuple #[.int .u64 q,.int .u64 r])/\w'= w)) (hq:q= 0) (hr:decide (r<=9223372036854775807)= true) (e3:IntKind.i64.wrap r= R) (w:World):
  Calls Tryz.prog 159 #[.int .i64 a,.int .i64 b] w fun e w'=>e= .returned (.int .i64 R)/\w'= w:=by
 subst hq
 have hm:IntKind.u64.wrap (9223372036854775808 - 1)= 9223372036854775807:=by rw[IntKind.wrap_u64];omega
 go_enter Tryz.func159,Tryz.ntmps159
 go_wp2_with (first|(go_at_call 200;first|((with_reducible refine(HS1.out _).mono ?_);rintro e z ⟨rfl,hzw⟩;rw[hzw];clear hzw z)|((with_reducible refine(HS2.out _).mono ?_);rintro e z ⟨rfl,hzw⟩;rw[hzw];clear hzw z))|(go_at_call 199;refine(HM.out _).mono ?_;rintro e z ⟨rfl,hzw⟩;rw[hzw];clear hzw z)|(go_at_call 36;refine(zp 7 _).mono ?_;rintro e z ⟨rfl,hzw⟩;rw[hzw];clear hzw z))
 go_ret
 exact⟨by first|rfl|rw[e3]|simp[e3],rfl⟩
theorem zb3 (a b X Y q r:Int) (sa:decide (a < 0)= true) (sb:decide (b < 0)= true) (HS1:Hid (∀ w:World,Calls Tryz.prog 200 #[.int .i64 a] w fun e w'=>e= .returned (.int .u64 X)/\w'= w)) (HS2:Hid (∀ w:World,Calls Tryz.prog 200 #[.int .i64 b] w fun e w'=>e= .returned (.int .u64 Y)/\w'= w))
  (HM:Hid (∀ w:World,Calls Tryz.prog 199 #[.int .u64 X,.int .u64 Y] w fun e w'=>e= .returned (.tuple #[.int .u64 q,.int .u64 r])/\w'= w)) (hq:q= 0) (hr:decide (r<=9223372036854775807)= false) (w:World):
  Calls Tryz.prog 159 #[.int .i64 a,.int .i64 b] w fun e w'=>e= panE 7/\w'= w:=by
 subst hq
 have hm:IntKind.u64.wrap (9223372036854775808 - 1)= 9223372036854775807:=by rw[IntKind.wrap_u64];omega
 go_enter Tryz.func159,Tryz.ntmps159
 go_wp2_with (first|(go_at_call 200;first|((with_reducible refine(HS1.out _).mono ?_);rintro e z ⟨rfl,hzw⟩;rw[hzw];clear hzw z)|((with_reducible refine(HS2.out _).mono ?_);rintro e z ⟨rfl,hzw⟩;rw[hzw];clear hzw z))|(go_at_call 199;refine(HM.out _).mono ?_;rintro e z ⟨rfl,hzw⟩;rw[hzw];clear hzw z)|(go_at_call 36;refine(zB 7 _).mono ?_;rintro e z ⟨rfl,hzw⟩;rw[hzw];clear hzw z))
 exact⟨rfl,rfl,rfl⟩
theorem zaY (a b X Y q r:Int) (sa:decide (a < 0)= true) (sb:decide (b < 0)= true) (HS1:Hid (∀ w:World,Calls Tryz.prog 200 #[.int .i64 a] w fun e w'=>e= .returned (.int .u64 X)/\w'= w)) (HS2:Hid (∀ w:World,Calls Tryz.prog 200 #[.int .i64 b] w fun e w'=>e= .returned (.int .u64 Y)/\w'= w))
  (HM:Hid (∀ w:World,Calls Tryz.prog 199 #[.int .u64 X,.int .u64 Y] w fun e w'=>e= .returned (.tuple #[.int .u64 q,.int .u64 r])/\w'= w)) (hq:(q ==0)= false) (w:World):
  Calls Tryz.prog 159 #[.int .i64 a,.int .i64 b] w fun e w'=>e= panE 7/\w'= w:=by
 have hm:IntKind.u64.wrap (9223372036854775808 - 1)= 9223372036854775807:=by rw[IntKind.wrap_u64];omega
 go_enter Tryz.func159,Tryz.ntmps159
 go_wp2_with (first|(go_at_call 200;first|((with_reducible refine(HS1.out _).mono ?_);rintro e z ⟨rfl,hzw⟩;rw[hzw];clear hzw z)|((with_reducible refine(HS2.out _).mono ?_);rintro e z ⟨rfl,hzw⟩;rw[hzw];clear hzw z))|(go_at_call 199;refine(HM.out _).mono ?_;rintro e z ⟨rfl,hzw⟩;rw[hzw];clear hzw z)|(go_at_call 36;refine(zB 7 _).mono ?_;rintro e z ⟨rfl,hzw⟩;rw[hzw];clear hzw z))
 exact⟨rfl,rfl,rfl⟩
theorem zbb (a b X Y q r R:Int) (sa:decide (a < 0)= true) (sb:decide (b < 0)= false) (HS1:Hid (∀ w:World,Calls Tryz.prog 200 #[.int .i64 a] w fun e w'=>e= .returned (.int .u64 X)/\w'= w)) (HS2:Hid (∀ w:World,Calls Tryz.prog 200 #[.int .i64 b] w fun e w'=>e= .returned (.int .u64 Y)/\w'= w))
  (HM:Hid (∀ w:World,Calls Tryz.prog 199 #[.int .u64 X,.int .u64 Y] w fun e w'=>e= .returned (.tuple #[.int .u64 q,.int .u64 r])/\w'= w)) (hq:q= 0) (hr:decide (r<=9223372036854775808)= true) (e3:IntKind.i64.wrap (IntKind.u64.wrap (-r))= R) (w:World):
  Calls Tryz.prog 159 #[.int .i64 a,.int .i64 b] w fun e w'=>e= .returned (.int .i64 R)/\w'= w:=by
 subst hq
 have hm:IntKind.u64.wrap (9223372036854775808 - 1)= 9223372036854775807:=by rw[IntKind.wrap_u64];omega
 go_enter Tryz.func159,Tryz.ntmps159
 go_wp2_with (first|(go_at_call 200;first|((with_reducible refine(HS1.out _).mono ?_);rintro e z ⟨rfl,hzw⟩;rw[hzw];clear hzw z)|((with_reducible refine(HS2.out _).mono ?_);rintro e z ⟨rfl,hzw⟩;rw[hzw];clear hzw z))|(go_at_call 199;refine(HM.out _).mono ?_;rintro e z ⟨rfl,hzw⟩;rw[hzw];clear hzw z)|(go_at_call 36;refine(zp 7 _).mono ?_;rintro e z ⟨rfl,hzw⟩;rw[hzw];clear hzw z))
 go_ret
 exact⟨by first|rfl|rw[e3]|simp[e3],rfl⟩
theorem zbh (a b X Y q r:Int) (sa:decide (a < 0)= true) (sb:decide (b < 0)= false) (HS1:Hid (∀ w:World,Calls Tryz.prog 200 #[.int .i64 a] w fun e w'=>e= .returned (.int .u64 X)/\w'= w)) (HS2:Hid (∀ w:World,Calls Tryz.prog 200 #[.int .i64 b] w fun e w'=>e= .returned (.int .u64 Y)/\w'= w))
  (HM:Hid (∀ w:World,Calls Tryz.prog 199 #[.int .u64 X,.int .u64 Y] w fun e w'=>e= .returned (.tuple #[.int .u64 q,.int .u64 r])/\w'= w)) (hq:q= 0) (hr:decide (r<=9223372036854775808)= false) (w:World):
  Calls Tryz.prog 159 #[.int .i64 a,.int .i64 b] w fun e w'=>e= panE 7/\w'= w:=by
 subst hq
 have hm:IntKind.u64.wrap (9223372036854775808 - 1)= 9223372036854775807:=by rw[IntKind.wrap_u64];omega
 go_enter Tryz.func159,Tryz.ntmps159
 go_wp2_with (first|(go_at_call 200;first|((with_reducible refine(HS1.out _).mono ?_);rintro e z ⟨rfl,hzw⟩;rw[hzw];clear hzw z)|((with_reducible refine(HS2.out _).mono ?_);rintro e z ⟨rfl,hzw⟩;rw[hzw];clear hzw z))|(go_at_call 199;refine(HM.out _).mono ?_;rintro e z ⟨rfl,hzw⟩;rw[hzw];clear hzw z)|(go_at_call 36;refine(zB 7 _).mono ?_;rintro e z ⟨rfl,hzw⟩;rw[hzw];clear hzw z))
 exact⟨rfl,rfl,rfl⟩
theorem zav (a b X Y q r:Int) (sa:decide (a < 0)= true) (sb:decide (b < 0)= false) (HS1:Hid (∀ w:World,Calls Tryz.prog 200 #[.int .i64 a] w fun e w'=>e= .returned (.int .u64 X)/\w'= w)) (HS2:Hid (∀ w:World,Calls Tryz.prog 200 #[.int .i64 b] w fun e w'=>e= .returned (.int .u64 Y)/\w'= w))
  (HM:Hid (∀ w:World,Calls Tryz.prog 199 #[.int .u64 X,.int .u64 Y] w fun e w'=>e= .returned (.tuple #[.int .u64 q,.int .u64 r])/\w'= w)) (hq:(q ==0)= false) (w:World):
  Calls Tryz.prog 159 #[.int .i64 a,.int .i64 b] w fun e w'=>e= panE 7/\w'= w:=by
 have hm:IntKind.u64.wrap (9223372036854775808 - 1)= 9223372036854775807:=by rw[IntKind.wrap_u64];omega
 go_enter Tryz.func159,Tryz.ntmps159
 go_wp2_with (first|(go_at_call 200;first|((with_reducible refine(HS1.out _).mono ?_);rintro e z ⟨rfl,hzw⟩;rw[hzw];clear hzw z)|((with_reducible refine(HS2.out _).mono ?_);rintro e z ⟨rfl,hzw⟩;rw[hzw];clear hzw z))|(go_at_call 199;refine(HM.out _).mono ?_;rintro e z ⟨rfl,hzw⟩;rw[hzw];clear hzw z)|(go_at_call 36;refine(zB 7 _).mono ?_;rintro e z ⟨rfl,hzw⟩;rw[hzw];clear hzw z))
 exact⟨rfl,rfl,rfl⟩
theorem zaN (a b X Y q r R:Int) (sa:decide (a < 0)= false) (sb:decide (b < 0)= true) (HS1:Hid (∀ w:World,Calls Tryz.prog 200 #[.int .i64 a] w fun e w'=>e= .returned (.int .u64 X)/\w'= w)) (HS2:Hid (∀ w:World,Calls Tryz.prog 200 #[.int .i64 b] w fun e w'=>e= .returned (.int .u64 Y)/\w'= w))
  (HM:Hid (∀ w:World,Calls Tryz.prog 199 #[.int .u64 X,.int .u64 Y] w fun e w'=>e= .returned (.tuple #[.int .u64 q,.int .u64 r])/\w'= w)) (hq:q= 0) (hr:decide (r<=9223372036854775808)= true) (e3:IntKind.i64.wrap (IntKind.u64.wrap (-r))= R) (w:World):
  Calls Tryz.prog 159 #[.int .i64 a,.int .i64 b] w fun e w'=>e= .returned (.int .i64 R)/\w'= w:=by
 subst hq
 have hm:IntKind.u64.wrap (9223372036854775808 - 1)= 9223372036854775807:=by rw[IntKind.wrap_u64];omega
 go_enter Tryz.func159,Tryz.ntmps159
 go_wp2_with (first|(go_at_call 200;first|((with_reducible refine(HS1.out _).mono ?_);rintro e z ⟨rfl,hzw⟩;rw[hzw];clear hzw z)|((with_reducible refine(HS2.out _).mono ?_);rintro e z ⟨rfl,hzw⟩;rw[hzw];clear hzw z))|(go_at_call 199;refine(HM.out _).mono ?_;rintro e z ⟨rfl,hzw⟩;rw[hzw];clear hzw z)|(go_at_call 36;refine(zp 7 _).mono ?_;rintro e z ⟨rfl,hzw⟩;rw[hzw];clear hzw z))
 go_ret
 exact⟨by first|rfl|rw[e3]|simp[e3],rfl⟩
theorem zal (a b X Y q r:Int) (sa:decide (a < 0)= false) (sb:decide (b < 0)= true) (HS1:Hid (∀ w:World,Calls Tryz.prog 200 #[.int .i64 a] w fun e w'=>e= .returned (.int .u64 X)/\w'= w)) (HS2:Hid (∀ w:World,Calls Tryz.prog 200 #[.int .i64 b] w fun e w'=>e= .returned (.int .u64 Y)/\w'= w))
  (HM:Hid (∀ w:World,Calls Tryz.prog 199 #[.int .u64 X,.int .u64 Y] w fun e w'=>e= .returned (.tuple #[.int .u64 q,.int .u64 r])/\w'= w)) (hq:q= 0) (hr:decide (r<=9223372036854775808)= false) (w:World):
  Calls Tryz.prog 159 #[.int .i64 a,.int .i64 b] w fun e w'=>e= panE 7/\w'= w:=by
 subst hq
 have hm:IntKind.u64.wrap (9223372036854775808 - 1)= 9223372036854775807:=by rw[IntKind.wrap_u64];omega
 go_enter Tryz.func159,Tryz.ntmps159
 go_wp2_with (first|(go_at_call 200;first|((with_reducible refine(HS1.out _).mono ?_);rintro e z ⟨rfl,hzw⟩;rw[hzw];clear hzw z)|((with_reducible refine(HS2.out _).mono ?_);rintro e z ⟨rfl,hzw⟩;rw[hzw];clear hzw z))|(go_at_call 199;refine(HM.out _).mono ?_;rintro e z ⟨rfl,hzw⟩;rw[hzw];clear hzw z)|(go_at_call 36;refine(zB 7 _).mono ?_;rintro e z ⟨rfl,hzw⟩;rw[hzw];clear hzw z))
 exact⟨rfl,rfl,rfl⟩
theorem zbs (a b X Y q r:Int) (sa:decide (a < 0)= false) (sb:decide (b < 0)= true) (HS1:Hid (∀ w:World,Calls Tryz.prog 200 #[.int .i64 a] w fun e w'=>e= .returned (.int .u64 X)/\w'= w)) (HS2:Hid (∀ w:World,Calls Tryz.prog 200 #[.int .i64 b] w fun e w'=>e= .returned (.int .u64 Y)/\w'= w))
  (HM:Hid (∀ w:World,Calls Tryz.prog 199 #[.int .u64 X,.int .u64 Y] w fun e w'=>e= .returned (.tuple #[.int .u64 q,.int .u64 r])/\w'= w)) (hq:(q ==0)= false) (w:World):
  Calls Tryz.prog 159 #[.int .i64 a,.int .i64 b] w fun e w'=>e= panE 7/\w'= w:=by
 have hm:IntKind.u64.wrap (9223372036854775808 - 1)= 9223372036854775807:=by rw[IntKind.wrap_u64];omega
 go_enter Tryz.func159,Tryz.ntmps159
 go_wp2_with (first|(go_at_call 200;first|((with_reducible refine(HS1.out _).mono ?_);rintro e z ⟨rfl,hzw⟩;rw[hzw];clear hzw z)|((with_reducible refine(HS2.out _).mono ?_);rintro e z ⟨rfl,hzw⟩;rw[hzw];clear hzw z))|(go_at_call 199;refine(HM.out _).mono ?_;rintro e z ⟨rfl,hzw⟩;rw[hzw];clear hzw z)|(go_at_call 36;refine(zB 7 _).mono ?_;rintro e z ⟨rfl,hzw⟩;rw[hzw];clear hzw z))
 exact⟨rfl,rfl,rfl⟩
theorem zb0 (a b X Y q r R:Int) (sa:decide (a < 0)= false) (sb:decide (b < 0)= false) (HS1:Hid (∀ w:World,Calls Tryz.prog 200 #[.int .i64 a] w fun e w'=>e= .returned (.int .u64 X)/\w'= w)) (HS2:Hid (∀ w:World,Calls Tryz.prog 200 #[.int .i64 b] w fun e w'=>e= .returned (.int .u64 Y)/\w'= w))
  (HM:Hid (∀ w:World,Calls Tryz.prog 199 #[.int .u64 X,.int .u64 Y] w fun e w'=>e= .returned (.tuple #[.int .u64 q,.int .u64 r])/\w'= w)) (hq:q= 0) (hr:decide (r<=9223372036854775807)= true) (e3:IntKind.i64.wrap r= R) (w:World):
  Calls Tryz.prog 159 #[.int .i64 a,.int .i64 b] w fun e w'=>e= .returned (.int .i64 R)/\w'= w:=by
 subst hq
 have hm:IntKind.u64.wrap (9223372036854775808 - 1)= 9223372036854775807:=by rw[IntKind.wrap_u64];omega
 go_enter Tryz.func159,Tryz.ntmps159
 go_wp2_with (first|(go_at_call 200;first|((with_reducible refine(HS1.out _).mono ?_);rintro e z ⟨rfl,hzw⟩;rw[hzw];clear hzw z)|((with_reducible refine(HS2.out _).mono ?_);rintro e z ⟨rfl,hzw⟩;rw[hzw];clear hzw z))|(go_at_call 199;refine(HM.out _).mono ?_;rintro e z ⟨rfl,hzw⟩;rw[hzw];clear hzw z)|(go_at_call 36;refine(zp 7 _).mono ?_;rintro e z ⟨rfl,hzw⟩;rw[hzw];clear hzw z))
 go_ret
 exact⟨by first|rfl|rw[e3]|simp[e3],rfl⟩
theorem zax (a b X Y q r:Int) (sa:decide (a < 0)= false) (sb:decide (b < 0)= false) (HS1:Hid (∀ w:World,Calls Tryz.prog 200 #[.int .i64 a] w fun e w'=>e= .returned (.int .u64 X)/\w'= w)) (HS2:Hid (∀ w:World,Calls Tryz.prog 200 #[.int .i64 b] w fun e w'=>e= .returned (.int .u64 Y)/\w'= w))
  (HM:Hid (∀ w:World,Calls Tryz.prog 199 #[.int .u64 X,.int .u64 Y] w fun e w'=>e= .returned (.tuple #[.int .u64 q,.int .u64 r])/\w'= w)) (hq:q= 0) (hr:decide (r<=9223372036854775807)= false) (w:World):
  Calls Tryz.prog 159 #[.int .i64 a,.int .i64 b] w fun e w'=>e= panE 7/\w'= w:=by
 subst hq
 have hm:IntKind.u64.wrap (9223372036854775808 - 1)= 9223372036854775807:=by rw[IntKind.wrap_u64];omega
 go_enter Tryz.func159,Tryz.ntmps159
 go_wp2_with (first|(go_at_call 200;first|((with_reducible refine(HS1.out _).mono ?_);rintro e z ⟨rfl,hzw⟩;rw[hzw];clear hzw z)|((with_reducible refine(HS2.out _).mono ?_);rintro e z ⟨rfl,hzw⟩;rw[hzw];clear hzw z))|(go_at_call 199;refine(HM.out _).mono ?_;rintro e z ⟨rfl,hzw⟩;rw[hzw];clear hzw z)|(go_at_call 36;refine(zB 7 _).mono ?_;rintro e z ⟨rfl,hzw⟩;rw[hzw];clear hzw z))
 exact⟨rfl,rfl,rfl⟩
theorem zaC (a b X Y q r:Int) (sa:decide (a < 0)= false) (sb:decide (b < 0)= false) (HS1:Hid (∀ w:World,Calls Tryz.prog 200 #[.int .i64 a] w fun e w'=>e= .returned (.int .u64 X)/\w'= w)) (HS2:Hid (∀ w:World,Calls Tryz.prog 200 #[.int .i64 b] w fun e w'=>e= .returned (.int .u64 Y)/\w'= w))
  (HM:Hid (∀ w:World,Calls Tryz.prog 199 #[.int .u64 X,.int .u64 Y] w fun e w'=>e= .returned (.tuple #[.int .u64 q,.int .u64 r])/\w'= w)) (hq:(q ==0)= false) (w:World):
  Calls Tryz.prog 159 #[.int .i64 a,.int .i64 b] w fun e w'=>e= panE 7/\w'= w:=by
 have hm:IntKind.u64.wrap (9223372036854775808 - 1)= 9223372036854775807:=by rw[IntKind.wrap_u64];omega
 go_enter Tryz.func159,Tryz.ntmps159
 go_wp2_with (first|(go_at_call 200;first|((with_reducible refine(HS1.out _).mono ?_);rintro e z ⟨rfl,hzw⟩;rw[hzw];clear hzw z)|((with_reducible refine(HS2.out _).mono ?_);rintro e z ⟨rfl,hzw⟩;rw[hzw];clear hzw z))|(go_at_call 199;refine(HM.out _).mono ?_;rintro e z ⟨rfl,hzw⟩;rw[hzw];clear hzw z)|(go_at_call 36;refine(zB 7 _).mono ?_;rintro e z ⟨rfl,hzw⟩;rw[hzw];clear hzw z))
 exact⟨rfl,rfl,rfl⟩
theorem zaW (a b:Int) (ha: -9223372036854775808<=a/\a<=9223372036854775807) (hb: -9223372036854775808<=b/\b<=9223372036854775807) (w:World):
  Calls Tryz.prog 159 #[.int .i64 a,.int .i64 b] w (IntPost (okI (a*b)) w):=by
 have HS1:=I (z7H a ha)
 have HS2:=I (z7H b hb)
 have HM:=I (fun w=>Tryz.bits_Mul64 a.natAbs b.natAbs (by omega) (by omega) w)
 by_cases sa:a < 0
 ·by_cases sb:b < 0
  ·have hl:=z3J (a:=a) (b:=b) (by constructor<;>intro<;>omega)
   by_cases hp:a.natAbs*b.natAbs<=9223372036854775807
   ·refine(zb5 a b _ _ _ _ ((a.natAbs*b.natAbs:Nat):Int) (decide_eq_true sa) (decide_eq_true sb) HS1 HS2 HM (by omega) (decide_eq_true (by omega)) (by rw[wrapI];omega) w).mono fun e w' h=> .ok (by rw[hl,if_pos hp]) h.1 h.2
   ·by_cases h1:a.natAbs*b.natAbs / 18446744073709551616= 0
    ·refine(zb3 a b _ _ _ _ (decide_eq_true sa) (decide_eq_true sb) HS1 HS2 HM (by omega) (decide_eq_false (by omega)) w).mono fun e w' h=> .no (by rw[hl,if_neg hp]) h.1 h.2
    ·refine(zaY a b _ _ _ _ (decide_eq_true sa) (decide_eq_true sb) HS1 HS2 HM (by rw[beq_eq_false_iff_ne];omega) w).mono fun e w' h=> .no (by rw[hl,if_neg hp]) h.1 h.2
  ·have hl:=z3p (a:=a) (b:=b) (by omega)
   by_cases hp:a.natAbs*b.natAbs<=9223372036854775808
   ·refine(zbb a b _ _ _ _ (-((a.natAbs*b.natAbs:Nat):Int)) (decide_eq_true sa) (decide_eq_false sb) HS1 HS2 HM (by omega) (decide_eq_true (by omega)) (by rw[wrapI,IntKind.wrap_u64];omega) w).mono fun e w' h=> .ok (by rw[hl,if_pos hp]) h.1 h.2
   ·by_cases h1:a.natAbs*b.natAbs / 18446744073709551616= 0
    ·refine(zbh a b _ _ _ _ (decide_eq_true sa) (decide_eq_false sb) HS1 HS2 HM (by omega) (decide_eq_false (by omega)) w).mono fun e w' h=> .no (by rw[hl,if_neg hp]) h.1 h.2
    ·refine(zav a b _ _ _ _ (decide_eq_true sa) (decide_eq_false sb) HS1 HS2 HM (by rw[beq_eq_false_iff_ne];omega) w).mono fun e w' h=> .no (by rw[hl,if_neg hp]) h.1 h.2
 ·by_cases sb:b < 0
  ·have hl:=z3p (a:=a) (b:=b) (by omega)
   by_cases hp:a.natAbs*b.natAbs<=9223372036854775808
   ·refine(zaN a b _ _ _ _ (-((a.natAbs*b.natAbs:Nat):Int)) (decide_eq_false sa) (decide_eq_true sb) HS1 HS2 HM (by omega) (decide_eq_true (by omega)) (by rw[wrapI,IntKind.wrap_u64];omega) w).mono fun e w' h=> .ok (by rw[hl,if_pos hp]) h.1 h.2
   ·by_cases h1:a.natAbs*b.natAbs / 18446744073709551616= 0
    ·refine(zal a b _ _ _ _ (decide_eq_false sa) (decide_eq_true sb) HS1 HS2 HM (by omega) (decide_eq_false (by omega)) w).mono fun e w' h=> .no (by rw[hl,if_neg hp]) h.1 h.2
    ·refine(zbs a b _ _ _ _ (decide_eq_false sa) (decide_eq_true sb) HS1 HS2 HM (by rw[beq_eq_false_iff_ne];omega) w).mono fun e w' h=> .no (by rw[hl,if_neg hp]) h.1 h.2
  ·have hl:=z3J (a:=a) (b:=b) (by constructor<;>intro<;>omega)
   by_cases hp:a.natAbs*b.natAbs<=9223372036854775807
   ·refine(zb0 a b _ _ _ _ ((a.natAbs*b.natAbs:Nat):Int) (decide_eq_false sa) (decide_eq_false sb) HS1 HS2 HM (by omega) (decide_eq_true (by omega)) (by rw[wrapI];omega) w).mono fun e w' h=> .ok (by rw[hl,if_pos hp]) h.1 h.2
   ·by_cases h1:a.natAbs*b.natAbs / 18446744073709551616= 0
    ·refine(zax a b _ _ _ _ (decide_eq_false sa) (decide_eq_false sb) HS1 HS2 HM (by omega) (decide_eq_false (by omega)) w).mono fun e w' h=> .no (by rw[hl,if_neg hp]) h.1 h.2
    ·refine(zaC a b _ _ _ _ (decide_eq_false sa) (decide_eq_false sb) HS1 HS2 HM (by rw[beq_eq_false_iff_ne];omega) w).mono fun e w' h=> .no (by rw[hl,if_neg hp]) h.1 h.2
end
section
open Go Go.RowKit
theorem z9f (a b n:Int) (hn:wrap64 (a+b)= n) (hs:0<=bits .and .i64 (bits .xor .i64 a n) (bits .xor .i64 b n)) (w:World):
  Calls Tryz.prog 122 #[.int .i64 5,.int .i64 a,.int .i64 b] w fun e w'=>e= .returned (.int .i64 n)/\w'= w:=by
 go_enter Tryz.func122,Tryz.ntmps122
 go_wp2_with ((go_at_call 36;refine(zp 7 _).mono ?_;rintro e z ⟨rfl,hzw⟩;rw[hzw];clear hzw z))
 go_ret
 exact⟨rfl,rfl⟩
theorem z9x (a b n:Int) (hn:wrap64 (a+b)= n) (hs: ¬ 0<=bits .and .i64 (bits .xor .i64 a n) (bits .xor .i64 b n)) (w:World):
  Calls Tryz.prog 122 #[.int .i64 5,.int .i64 a,.int .i64 b] w fun e w'=>e= panE 7/\w'= w:=by
 go_enter Tryz.func122,Tryz.ntmps122
 go_wp2_with ((go_at_call 36;refine(zB 7 _).mono ?_;rintro e z ⟨rfl,hzw⟩;rw[hzw];clear hzw z))
 exact⟨rfl,rfl,rfl⟩
theorem z9O (a b:Int) (ha: -9223372036854775808<=a/\a<=9223372036854775807) (hb: -9223372036854775808<=b/\b<=9223372036854775807) (w:World):
  Calls Tryz.prog 122 #[.int .i64 5,.int .i64 a,.int .i64 b] w (IntPost (okI (a+b)) w):=by
 have hl:=zdA ha hb
 by_cases h: -9223372036854775808<=a+b/\a+b<=9223372036854775807
 ·have hw:wrap64 (a+b)= a+b:=by unfold wrap64;omega
  rw[hw] at hl
  exact(z9f a b _ hw (hl.2 h) w).mono fun e w' h2=> .ok (z4f h) h2.1 h2.2
 ·exact(z9x a b _ rfl (mt hl.1 h) w).mono fun e w' h2=> .no (z7a h) h2.1 h2.2
theorem z9q (a b n:Int) (hn:wrap64 (a - b)= n) (hs:0<=bits .and .i64 (bits .xor .i64 a b) (bits .xor .i64 a n)) (w:World):
  Calls Tryz.prog 122 #[.int .i64 6,.int .i64 a,.int .i64 b] w fun e w'=>e= .returned (.int .i64 n)/\w'= w:=by
 go_enter Tryz.func122,Tryz.ntmps122
 go_wp2_with ((go_at_call 36;refine(zp 7 _).mono ?_;rintro e z ⟨rfl,hzw⟩;rw[hzw];clear hzw z))
 go_ret
 exact⟨rfl,rfl⟩
theorem z98 (a b n:Int) (hn:wrap64 (a - b)= n) (hs: ¬ 0<=bits .and .i64 (bits .xor .i64 a b) (bits .xor .i64 a n)) (w:World):
  Calls Tryz.prog 122 #[.int .i64 6,.int .i64 a,.int .i64 b] w fun e w'=>e= panE 7/\w'= w:=by
 go_enter Tryz.func122,Tryz.ntmps122
 go_wp2_with ((go_at_call 36;refine(zB 7 _).mono ?_;rintro e z ⟨rfl,hzw⟩;rw[hzw];clear hzw z))
 exact⟨rfl,rfl,rfl⟩
theorem z9K (a b:Int) (ha: -9223372036854775808<=a/\a<=9223372036854775807) (hb: -9223372036854775808<=b/\b<=9223372036854775807) (w:World):
  Calls Tryz.prog 122 #[.int .i64 6,.int .i64 a,.int .i64 b] w (IntPost (okI (a - b)) w):=by
 have hl:=zcw ha hb
 by_cases h: -9223372036854775808<=a - b/\a - b<=9223372036854775807
 ·have hw:wrap64 (a - b)= a - b:=by unfold wrap64;omega
  rw[hw] at hl
  exact(z9q a b _ hw (hl.2 h) w).mono fun e w' h2=> .ok (z4f h) h2.1 h2.2
 ·exact(z98 a b _ rfl (mt hl.1 h) w).mono fun e w' h2=> .no (z7a h) h2.1 h2.2
theorem z9n (a b:Int) (ha: -9223372036854775808<=a/\a<=9223372036854775807) (hb: -9223372036854775808<=b/\b<=9223372036854775807) (w:World):
  Calls Tryz.prog 122 #[.int .i64 7,.int .i64 a,.int .i64 b] w (IntPost (okI (a*b)) w):=by
 have HT:=I (zaW a b ha hb w)
 go_enter Tryz.func122,Tryz.ntmps122
 go_wp2_with (go_at_call 159;fail)
 refine HT.out.mono ?_
 rintro e w' ⟨⟨n,hr,rfl⟩|⟨c,hr,rfl⟩,rfl⟩
 ·have HR:=I hr
  clear hr HT
  go_wp2
  go_ret
  exact .ok HR.out rfl rfl
 ·have HR:=I hr
  clear hr HT
  go_wp2
  exact⟨rfl,.no HR.out rfl rfl⟩
theorem z8p (k a:Int) (h5:(k ==5)= false) (h6:(k ==6)= false) (h7:(k ==7)= false) (w:World):
  Calls Tryz.prog 122 #[.int .i64 k,.int .i64 a,.int .i64 0] w fun e w'=>e= panE 8/\w'= w:=by
 go_enter Tryz.func122,Tryz.ntmps122
 go_wp2_with ((go_at_call 36;refine(zB 8 _).mono ?_;rintro e z ⟨rfl,hzw⟩;rw[hzw];clear hzw z))
 exact⟨rfl,rfl,rfl⟩
theorem z9r (a:Int) (w:World):
  Calls Tryz.prog 122 #[.int .i64 9,.int .i64 a,.int .i64 (-1)] w fun e w'=>e= .returned (.int .i64 0)/\w'= w:=by
 go_enter Tryz.func122,Tryz.ntmps122
 go_wp2_with ((go_at_call 36;refine(zp 8 _).mono ?_;rintro e z ⟨rfl,hzw⟩;rw[hzw];clear hzw z))
 go_ret
 exact⟨rfl,rfl⟩
theorem z9b (a b:Int) (h0: ¬ b= 0) (h0':(b !=0)= true) (h1:(b == -1)= false) (hw:IntKind.i64.wrap (a.tmod b)= a.tmod b) (w:World):
  Calls Tryz.prog 122 #[.int .i64 9,.int .i64 a,.int .i64 b] w fun e w'=>e= .returned (.int .i64 (a.tmod b))/\w'= w:=by
 go_enter Tryz.func122,Tryz.ntmps122
 go_wp2_with ((go_at_call 36;refine(zp 8 _).mono ?_;rintro e z ⟨rfl,hzw⟩;rw[hzw];clear hzw z))
 go_ret
 exact⟨by first|rfl|rw[hw]|simp[hw],rfl⟩
theorem z9M (k a b:Int) (h5:(k ==5)= false) (h6:(k ==6)= false) (h7:(k ==7)= false) (h9:(k ==9)= false) (h0: ¬ b= 0) (h0':(b !=0)= true) (h1:(b != -1)= true) (hw:IntKind.i64.wrap (a.tdiv b)= a.tdiv b) (w:World):
  Calls Tryz.prog 122 #[.int .i64 k,.int .i64 a,.int .i64 b] w fun e w'=>e= .returned (.int .i64 (a.tdiv b))/\w'= w:=by
 go_enter Tryz.func122,Tryz.ntmps122
 go_wp2_with (first|(go_at_call 36;refine(zp 7 _).mono ?_;rintro e z ⟨rfl,hzw⟩;rw[hzw];clear hzw z)|(go_at_call 36;refine(zp 8 _).mono ?_;rintro e z ⟨rfl,hzw⟩;rw[hzw];clear hzw z))
 go_ret
 exact⟨by first|rfl|rw[hw]|simp[hw],rfl⟩
theorem z8I (k a:Int) (h5:(k ==5)= false) (h6:(k ==6)= false) (h7:(k ==7)= false) (h9:(k ==9)= false) (n:Int) (hn:IntKind.i64.wrap (-a)= n) (hne:((a !=n) ||(a ==0))= true) (hw:IntKind.i64.wrap (a.tdiv (-1))= n) (w:World):
  Calls Tryz.prog 122 #[.int .i64 k,.int .i64 a,.int .i64 (-1)] w fun e w'=>e= .returned (.int .i64 n)/\w'= w:=by
 cases h:(a !=n) with
 |true=>
  clear hne
  go_enter Tryz.func122,Tryz.ntmps122
  go_wp2_with (first|(go_at_call 36;refine(zp 7 _).mono ?_;rintro e z ⟨rfl,hzw⟩;rw[hzw];clear hzw z)|(go_at_call 36;refine(zp 8 _).mono ?_;rintro e z ⟨rfl,hzw⟩;rw[hzw];clear hzw z))
  go_ret
  exact⟨by first|rfl|rw[hw]|simp[hw],rfl⟩
 |false=>
  rw[h,Bool.false_or] at hne
  go_enter Tryz.func122,Tryz.ntmps122
  go_wp2_with (first|(go_at_call 36;refine(zp 7 _).mono ?_;rintro e z ⟨rfl,hzw⟩;rw[hzw];clear hzw z)|(go_at_call 36;refine(zp 8 _).mono ?_;rintro e z ⟨rfl,hzw⟩;rw[hzw];clear hzw z))
  go_ret
  exact⟨by first|rfl|rw[hw]|simp[hw],rfl⟩
theorem z8k (k a:Int) (h5:(k ==5)= false) (h6:(k ==6)= false) (h7:(k ==7)= false) (h9:(k ==9)= false) (n:Int) (hn:IntKind.i64.wrap (-a)= n) (hne:(a !=n)= false) (h0:(a ==0)= false) (w:World):
  Calls Tryz.prog 122 #[.int .i64 k,.int .i64 a,.int .i64 (-1)] w fun e w'=>e= panE 7/\w'= w:=by
 go_enter Tryz.func122,Tryz.ntmps122
 go_wp2_with (first|(go_at_call 36;refine(zp 8 _).mono ?_;rintro e z ⟨rfl,hzw⟩;rw[hzw];clear hzw z)|(go_at_call 36;refine(zB 7 _).mono ?_;rintro e z ⟨rfl,hzw⟩;rw[hzw];clear hzw z))
 exact⟨rfl,rfl,rfl⟩
theorem zdy {a b:Int} (ha: -9223372036854775808<=a/\a<=9223372036854775807) (h0:b≠0) (h1:b≠ -1): -9223372036854775808<=a.tdiv b/\a.tdiv b<=9223372036854775807:=by
 by_cases h2:b= 1
 ·subst h2;rw[Int.tdiv_one];exact ha
 have h3:=Int.natAbs_tdiv a b
 have h4:a.natAbs / b.natAbs<=a.natAbs / 2:=Nat.div_le_div_left (by omega) (by omega)
 have h5:(a.tdiv b).natAbs<=a.natAbs / 2:=by rw[h3];exact h4
 omega
theorem z8Q {a b:Int} (ha: -9223372036854775808<=a/\a<=9223372036854775807): -9223372036854775808<=a.tmod b/\a.tmod b<=9223372036854775807:=by
 have h1:(a.tmod b).natAbs<=a.natAbs:=by rw[Int.natAbs_tmod];exact Nat.mod_le _ _
 have h2:=Int.tmod_nonneg b (a:=a)
 have h3:=Int.neg_tmod (a:= -a) (b:=b)
 rw[Int.neg_neg] at h3
 have h4:=Int.tmod_nonneg b (a:= -a)
 omega
theorem zaT (k a b:Int) (ha: -9223372036854775808<=a/\a<=9223372036854775807) (hb: -9223372036854775808<=b/\b<=9223372036854775807) (w:World):
  Calls Tryz.prog 122 #[.int .i64 k,.int .i64 a,.int .i64 b] w (IntPost (z2p k a b) w):=by
 unfold z2p
 by_cases k5:k= 5
 ·subst k5;rw[if_pos rfl];exact z9O a b ha hb w
 by_cases k6:k= 6
 ·subst k6;rw[if_neg (by decide),if_pos rfl];exact z9K a b ha hb w
 by_cases k7:k= 7
 ·subst k7;rw[if_neg (by decide),if_neg (by decide),if_pos rfl];exact z9n a b ha hb w
 rw[if_neg k5,if_neg k6,if_neg k7]
 have e5:(k ==5)= false:=by simpa using k5
 have e6:(k ==6)= false:=by simpa using k6
 have e7:(k ==7)= false:=by simpa using k7
 by_cases h0:b= 0
 ·subst h0
  rw[if_pos rfl]
  exact(z8p k a e5 e6 e7 w).mono fun e w' h=> .no rfl h.1 h.2
 rw[if_neg h0]
 by_cases k9:k= 9
 ·subst k9
  rw[if_pos rfl]
  by_cases h1:b= -1
  ·subst h1
   have h2:a.tmod (-1)= 0:=by rw[show(-1:Int)= -(1:Int) from rfl,Int.tmod_neg,Int.tmod_one]
   rw[h2]
   exact(z9r a w).mono fun e w' h=> .ok rfl h.1 h.2
  ·have h2:=z8Q (b:=b) ha
   exact(z9b a b h0 (by simpa using h0) (by simpa using h1) (by rw[wrapI];omega) w).mono fun e w' h=> .ok rfl h.1 h.2
 ·rw[if_neg k9]
  have e9:(k ==9)= false:=by simpa using k9
  by_cases h1:b= -1
  ·subst h1
   have h2:a.tdiv (-1)= -a:=by rw[show(-1:Int)= -(1:Int) from rfl,Int.tdiv_neg,Int.tdiv_one]
   rw[h2]
   by_cases hm:a= -9223372036854775808
   ·subst hm
    exact(z8k k _ e5 e6 e7 e9 (-9223372036854775808) (by rw[wrapI];omega) (by decide) (by decide) w).mono fun e w' h=> .no (z7a (by omega)) h.1 h.2
   ·refine(z8I k a e5 e6 e7 e9 (-a) (by rw[wrapI];omega) ?_ (by rw[h2,wrapI];omega) w).mono fun e w' h=> .ok (z4f (by omega)) h.1 h.2
    by_cases hz:a= 0
    ·subst hz;rfl
    ·have:(a != -a)= true:=by simp;omega
     rw[this];rfl
  ·have h2:=zdy ha h0 h1
   exact(z9M k a b e5 e6 e7 e9 h0 (by simpa using h0) (by simpa using h1) (by rw[wrapI];omega) w).mono fun e w' h=> .ok (z4f h2) h.1 h.2
end
end Go.Proofs.YtmpbepjjbaeebaaGreatDoor
