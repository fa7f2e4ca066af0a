/- Parts of a proof: ELeaf, ENamed, Typ, RTyp, Rows4, Fits, RFits, RSmallE. -/
import Derived.Test.YtmpbepjjbaeebaaGreatDoorPackS3
import Derived.Test.YtmpbepjjbaeebaaGreatDoorPackS7
import Derived.Test.YtmpbepjjbaeebaaGreatDoorPackS10
set_option maxHeartbeats 8000000
set_option maxRecDepth 100000
set_option linter.unusedVariables false
set_option linter.unusedSimpArgs false
namespace Go.Proofs.YtmpbepjjbaeebaaGreatDoor
section
open Go Go.RowKit
def z0l (k:Int):Int:=
 if k= 1\/k= 2 then 0 else if k= 3\/k= 4\/k= 18\/(20<=k/\k<=23) then 1 else if(5<=k/\k<=14)\/k= 19 then 2 else if k= 15 then 3 else if k= 16\/k= 17 then -1 else -2
theorem zca (k:Int) (w:World):Calls Tryz.prog 105 #[.int .i64 k] w fun e w'=>e= .returned (.int .i64 (z0l k))/\w'= w:=by
 by_cases h:k= 1\/k= 2\/k= 3\/k= 4\/k= 5\/k= 6\/k= 7\/k= 8\/k= 9\/k= 10\/k= 11\/k= 12\/k= 13\/k= 14\/k= 15\/k= 16\/k= 17\/k= 18\/k= 19\/k= 20\/k= 21\/k= 22\/k= 23
 ·rcases h with rfl|rfl|rfl|rfl|rfl|rfl|rfl|rfl|rfl|rfl|rfl|rfl|rfl|rfl|rfl|rfl|rfl|rfl|rfl|rfl|rfl|rfl|rfl
  all_goals
   go_enter Tryz.func105,Tryz.ntmps105
   go_wp2
   go_ret
   exact⟨rfl,rfl⟩
 ·have HR:Hid (z0l k= -2):=I (by unfold z0l;rw[if_neg (by omega),if_neg (by omega),if_neg (by omega),if_neg (by omega),if_neg (by omega)])
  by_cases h1:k < 1
  ·have e1:(k ==1)= false:=by rw[beq_eq_false_iff_ne];omega
   have e2:(k ==2)= false:=by rw[beq_eq_false_iff_ne];omega
   have e3:(k ==3)= false:=by rw[beq_eq_false_iff_ne];omega
   have e4:(k ==4)= false:=by rw[beq_eq_false_iff_ne];omega
   have e18:(k ==18)= false:=by rw[beq_eq_false_iff_ne];omega
   have e15:(k ==15)= false:=by rw[beq_eq_false_iff_ne];omega
   have e16:(k ==16)= false:=by rw[beq_eq_false_iff_ne];omega
   have e17:(k ==17)= false:=by rw[beq_eq_false_iff_ne];omega
   have e19:(k ==19)= false:=by rw[beq_eq_false_iff_ne];omega
   have l20: ¬ (20<=k):=by omega
   have l5: ¬ (5<=k):=by omega
   clear h h1
   go_enter Tryz.func105,Tryz.ntmps105
   go_wp2
   go_ret
   exact⟨by rw[HR.o];rfl,rfl⟩
  ·have e1:(k ==1)= false:=by rw[beq_eq_false_iff_ne];omega
   have e2:(k ==2)= false:=by rw[beq_eq_false_iff_ne];omega
   have e3:(k ==3)= false:=by rw[beq_eq_false_iff_ne];omega
   have e4:(k ==4)= false:=by rw[beq_eq_false_iff_ne];omega
   have e18:(k ==18)= false:=by rw[beq_eq_false_iff_ne];omega
   have e15:(k ==15)= false:=by rw[beq_eq_false_iff_ne];omega
   have e16:(k ==16)= false:=by rw[beq_eq_false_iff_ne];omega
   have e17:(k ==17)= false:=by rw[beq_eq_false_iff_ne];omega
   have e19:(k ==19)= false:=by rw[beq_eq_false_iff_ne];omega
   have l20:20<=k:=by omega
   have l23: ¬ (k<=23):=by omega
   have l5:5<=k:=by omega
   have l14: ¬ (k<=14):=by omega
   clear h h1
   go_enter Tryz.func105,Tryz.ntmps105
   go_wp2
   go_ret
   exact⟨by rw[HR.o];rfl,rfl⟩
theorem zaM (k:Int) (w:World):Calls Tryz.prog 89 #[.int .i64 k] w fun e w'=>e= .returned (.int .i64 (z0l k))/\w'= w:=by
 by_cases h:k= 1\/k= 2\/k= 3\/k= 4\/k= 5\/k= 6\/k= 7\/k= 8\/k= 9\/k= 10\/k= 11\/k= 12\/k= 13\/k= 14\/k= 15\/k= 16\/k= 17\/k= 18\/k= 19\/k= 20\/k= 21\/k= 22\/k= 23
 ·rcases h with rfl|rfl|rfl|rfl|rfl|rfl|rfl|rfl|rfl|rfl|rfl|rfl|rfl|rfl|rfl|rfl|rfl|rfl|rfl|rfl|rfl|rfl|rfl
  all_goals
   go_enter Tryz.func89,Tryz.ntmps89
   go_wp2
   go_ret
   exact⟨rfl,rfl⟩
 ·have HR:Hid (z0l k= -2):=I (by unfold z0l;rw[if_neg (by omega),if_neg (by omega),if_neg (by omega),if_neg (by omega),if_neg (by omega)])
  by_cases h1:k < 1
  ·have e1:(k ==1)= false:=by rw[beq_eq_false_iff_ne];omega
   have e2:(k ==2)= false:=by rw[beq_eq_false_iff_ne];omega
   have e3:(k ==3)= false:=by rw[beq_eq_false_iff_ne];omega
   have e4:(k ==4)= false:=by rw[beq_eq_false_iff_ne];omega
   have e18:(k ==18)= false:=by rw[beq_eq_false_iff_ne];omega
   have e15:(k ==15)= false:=by rw[beq_eq_false_iff_ne];omega
   have e16:(k ==16)= false:=by rw[beq_eq_false_iff_ne];omega
   have e17:(k ==17)= false:=by rw[beq_eq_false_iff_ne];omega
   have e19:(k ==19)= false:=by rw[beq_eq_false_iff_ne];omega
   have l20: ¬ (20<=k):=by omega
   have l5: ¬ (5<=k):=by omega
   clear h h1
   go_enter Tryz.func89,Tryz.ntmps89
   go_wp2
   go_ret
   exact⟨by rw[HR.o];rfl,rfl⟩
  ·have e1:(k ==1)= false:=by rw[beq_eq_false_iff_ne];omega
   have e2:(k ==2)= false:=by rw[beq_eq_false_iff_ne];omega
   have e3:(k ==3)= false:=by rw[beq_eq_false_iff_ne];omega
   have e4:(k ==4)= false:=by rw[beq_eq_false_iff_ne];omega
   have e18:(k ==18)= false:=by rw[beq_eq_false_iff_ne];omega
   have e15:(k ==15)= false:=by rw[beq_eq_false_iff_ne];omega
   have e16:(k ==16)= false:=by rw[beq_eq_false_iff_ne];omega
   have e17:(k ==17)= false:=by rw[beq_eq_false_iff_ne];omega
   have e19:(k ==19)= false:=by rw[beq_eq_false_iff_ne];omega
   have l20:20<=k:=by omega
   have l23: ¬ (k<=23):=by omega
   have l5:5<=k:=by omega
   have l14: ¬ (k<=14):=by omega
   clear h h1
   go_enter Tryz.func89,Tryz.ntmps89
   go_wp2
   go_ret
   exact⟨by rw[HR.o];rfl,rfl⟩
def wordB (s:ByteArray):Bool:=((s.toList ==[116,114,117,101]) ||((s.toList ==[102,97,108,115,101]) ||((s.toList ==[110,97,110]) ||((s.toList ==[105,110,102]) ||((s.toList ==[108,101,110]) ||((s.toList ==[102,108,111,97,116]) ||((s.toList ==[105,110,116]) ||(s.toList ==[115,116,114]))))))))
theorem zax (s:ByteArray) (w:World):Calls Tryz.prog 147 #[.string s] w fun e w'=>e= .returned (.bool (wordB s))/\w'= w:=by
 cases h0:(s.toList ==[116,114,117,101]) with
 |true=>
  have HR:Hid (wordB s= true):=I (by unfold wordB;rw[h0];rfl)
  go_enter Tryz.func147,Tryz.ntmps147
  go_wp2
  go_ret
  exact⟨by rw[HR.o];rfl,rfl⟩
 |false=>
  cases h1:(s.toList ==[102,97,108,115,101]) with
  |true=>
   have HR:Hid (wordB s= true):=I (by unfold wordB;rw[h0,h1];rfl)
   go_enter Tryz.func147,Tryz.ntmps147
   go_wp2
   go_ret
   exact⟨by rw[HR.o];rfl,rfl⟩
  |false=>
   cases h2:(s.toList ==[110,97,110]) with
   |true=>
    have HR:Hid (wordB s= true):=I (by unfold wordB;rw[h0,h1,h2];rfl)
    go_enter Tryz.func147,Tryz.ntmps147
    go_wp2
    go_ret
    exact⟨by rw[HR.o];rfl,rfl⟩
   |false=>
    cases h3:(s.toList ==[105,110,102]) with
    |true=>
     have HR:Hid (wordB s= true):=I (by unfold wordB;rw[h0,h1,h2,h3];rfl)
     go_enter Tryz.func147,Tryz.ntmps147
     go_wp2
     go_ret
     exact⟨by rw[HR.o];rfl,rfl⟩
    |false=>
     cases h4:(s.toList ==[108,101,110]) with
     |true=>
      have HR:Hid (wordB s= true):=I (by unfold wordB;rw[h0,h1,h2,h3,h4];rfl)
      go_enter Tryz.func147,Tryz.ntmps147
      go_wp2
      go_ret
      exact⟨by rw[HR.o];rfl,rfl⟩
     |false=>
      cases h5:(s.toList ==[102,108,111,97,116]) with
      |true=>
       have HR:Hid (wordB s= true):=I (by unfold wordB;rw[h0,h1,h2,h3,h4,h5];rfl)
       go_enter Tryz.func147,Tryz.ntmps147
       go_wp2
       go_ret
       exact⟨by rw[HR.o];rfl,rfl⟩
      |false=>
       cases h6:(s.toList ==[105,110,116]) with
       |true=>
        have HR:Hid (wordB s= true):=I (by unfold wordB;rw[h0,h1,h2,h3,h4,h5,h6];rfl)
        go_enter Tryz.func147,Tryz.ntmps147
        go_wp2
        go_ret
        exact⟨by rw[HR.o];rfl,rfl⟩
       |false=>
        cases h7:(s.toList ==[115,116,114]) with
        |true=>
         have HR:Hid (wordB s= true):=I (by unfold wordB;rw[h0,h1,h2,h3,h4,h5,h6,h7];rfl)
         go_enter Tryz.func147,Tryz.ntmps147
         go_wp2
         go_ret
         exact⟨by rw[HR.o];rfl,rfl⟩
        |false=>
         have HR:Hid (wordB s= false):=I (by unfold wordB;rw[h0,h1,h2,h3,h4,h5,h6,h7];rfl)
         go_enter Tryz.func147,Tryz.ntmps147
         go_wp2
         go_ret
         exact⟨by rw[HR.o];rfl,rfl⟩
theorem zbG (s:ByteArray) (w:World):Calls Tryz.prog 93 #[.string s] w fun e w'=>e= .returned (.bool (wordB s))/\w'= w:=by
 cases h0:(s.toList ==[116,114,117,101]) with
 |true=>
  have HR:Hid (wordB s= true):=I (by unfold wordB;rw[h0];rfl)
  go_enter Tryz.func93,Tryz.ntmps93
  go_wp2
  go_ret
  exact⟨by rw[HR.o];rfl,rfl⟩
 |false=>
  cases h1:(s.toList ==[102,97,108,115,101]) with
  |true=>
   have HR:Hid (wordB s= true):=I (by unfold wordB;rw[h0,h1];rfl)
   go_enter Tryz.func93,Tryz.ntmps93
   go_wp2
   go_ret
   exact⟨by rw[HR.o];rfl,rfl⟩
  |false=>
   cases h2:(s.toList ==[110,97,110]) with
   |true=>
    have HR:Hid (wordB s= true):=I (by unfold wordB;rw[h0,h1,h2];rfl)
    go_enter Tryz.func93,Tryz.ntmps93
    go_wp2
    go_ret
    exact⟨by rw[HR.o];rfl,rfl⟩
   |false=>
    cases h3:(s.toList ==[105,110,102]) with
    |true=>
     have HR:Hid (wordB s= true):=I (by unfold wordB;rw[h0,h1,h2,h3];rfl)
     go_enter Tryz.func93,Tryz.ntmps93
     go_wp2
     go_ret
     exact⟨by rw[HR.o];rfl,rfl⟩
    |false=>
     cases h4:(s.toList ==[108,101,110]) with
     |true=>
      have HR:Hid (wordB s= true):=I (by unfold wordB;rw[h0,h1,h2,h3,h4];rfl)
      go_enter Tryz.func93,Tryz.ntmps93
      go_wp2
      go_ret
      exact⟨by rw[HR.o];rfl,rfl⟩
     |false=>
      cases h5:(s.toList ==[102,108,111,97,116]) with
      |true=>
       have HR:Hid (wordB s= true):=I (by unfold wordB;rw[h0,h1,h2,h3,h4,h5];rfl)
       go_enter Tryz.func93,Tryz.ntmps93
       go_wp2
       go_ret
       exact⟨by rw[HR.o];rfl,rfl⟩
      |false=>
       cases h6:(s.toList ==[105,110,116]) with
       |true=>
        have HR:Hid (wordB s= true):=I (by unfold wordB;rw[h0,h1,h2,h3,h4,h5,h6];rfl)
        go_enter Tryz.func93,Tryz.ntmps93
        go_wp2
        go_ret
        exact⟨by rw[HR.o];rfl,rfl⟩
       |false=>
        cases h7:(s.toList ==[115,116,114]) with
        |true=>
         have HR:Hid (wordB s= true):=I (by unfold wordB;rw[h0,h1,h2,h3,h4,h5,h6,h7];rfl)
         go_enter Tryz.func93,Tryz.ntmps93
         go_wp2
         go_ret
         exact⟨by rw[HR.o];rfl,rfl⟩
        |false=>
         have HR:Hid (wordB s= false):=I (by unfold wordB;rw[h0,h1,h2,h3,h4,h5,h6,h7];rfl)
         go_enter Tryz.func93,Tryz.ntmps93
         go_wp2
         go_ret
         exact⟨by rw[HR.o];rfl,rfl⟩
def zK (s:ByteArray):Bool:=nameB s && (!(s.toList ==[110,97,110]) && !(s.toList ==[105,110,102]))
theorem z3z (s:ByteArray) (w:World):Calls Tryz.prog 148 #[.string s] w fun e w'=>e= .returned (.bool (zK s))/\Below w.heap.size w w':=by
 have HN:=I (z7g s w)
 cases h0:nameB s with
 |false=>
  have HR:Hid (zK s= false):=I (by unfold zK;rw[h0];rfl)
  rw[h0] at HN
  clear h0
  go_enter Tryz.func148,Tryz.ntmps148
  go_wp2_with (go_at_call 146;refine HN.o.mono ?_;rintro e z ⟨rfl,hb⟩;have HB:=I hb;clear hb)
  go_ret
  exact⟨by rw[HR.o];rfl,HB.o⟩
 |true=>
  cases h1:(s.toList ==[110,97,110]) with
  |true=>
   have HR:Hid (zK s= false):=I (by unfold zK;rw[h0,h1];rfl)
   rw[h0] at HN
   clear h0
   go_enter Tryz.func148,Tryz.ntmps148
   go_wp2_with (go_at_call 146;refine HN.o.mono ?_;rintro e z ⟨rfl,hb⟩;have HB:=I hb;clear hb)
   go_ret
   exact⟨by rw[HR.o];rfl,HB.o⟩
  |false=>
   cases h2:(s.toList ==[105,110,102]) with
   |true=>
    have HR:Hid (zK s= false):=I (by unfold zK;rw[h0,h1,h2];rfl)
    rw[h0] at HN
    clear h0
    go_enter Tryz.func148,Tryz.ntmps148
    go_wp2_with (go_at_call 146;refine HN.o.mono ?_;rintro e z ⟨rfl,hb⟩;have HB:=I hb;clear hb)
    go_ret
    exact⟨by rw[HR.o];rfl,HB.o⟩
   |false=>
    have HR:Hid (zK s= true):=I (by unfold zK;rw[h0,h1,h2];rfl)
    rw[h0] at HN
    clear h0
    go_enter Tryz.func148,Tryz.ntmps148
    go_wp2_with (go_at_call 146;refine HN.o.mono ?_;rintro e z ⟨rfl,hb⟩;have HB:=I hb;clear hb)
    go_ret
    exact⟨by rw[HR.o];rfl,HB.o⟩
theorem z5p (s:ByteArray) (w:World):Calls Tryz.prog 94 #[.string s] w fun e w'=>e= .returned (.bool (zK s))/\w'= w:=by
 have HN:=I (z48 s w)
 cases h0:nameB s with
 |false=>
  have HR:Hid (zK s= false):=I (by unfold zK;rw[h0];rfl)
  rw[h0] at HN
  clear h0
  go_enter Tryz.func94,Tryz.ntmps94
  go_wp2_with (go_at_call 92;refine HN.o.mono ?_;rintro e z ⟨rfl,hb⟩;subst hb)
  go_ret
  exact⟨by rw[HR.o];rfl,rfl⟩
 |true=>
  cases h1:(s.toList ==[110,97,110]) with
  |true=>
   have HR:Hid (zK s= false):=I (by unfold zK;rw[h0,h1];rfl)
   rw[h0] at HN
   clear h0
   go_enter Tryz.func94,Tryz.ntmps94
   go_wp2_with (go_at_call 92;refine HN.o.mono ?_;rintro e z ⟨rfl,hb⟩;subst hb)
   go_ret
   exact⟨by rw[HR.o];rfl,rfl⟩
  |false=>
   cases h2:(s.toList ==[105,110,102]) with
   |true=>
    have HR:Hid (zK s= false):=I (by unfold zK;rw[h0,h1,h2];rfl)
    rw[h0] at HN
    clear h0
    go_enter Tryz.func94,Tryz.ntmps94
    go_wp2_with (go_at_call 92;refine HN.o.mono ?_;rintro e z ⟨rfl,hb⟩;subst hb)
    go_ret
    exact⟨by rw[HR.o];rfl,rfl⟩
   |false=>
    have HR:Hid (zK s= true):=I (by unfold zK;rw[h0,h1,h2];rfl)
    rw[h0] at HN
    clear h0
    go_enter Tryz.func94,Tryz.ntmps94
    go_wp2_with (go_at_call 92;refine HN.o.mono ?_;rintro e z ⟨rfl,hb⟩;subst hb)
    go_ret
    exact⟨by rw[HR.o];rfl,rfl⟩
def noneB (k n:Int) (f:Nat) (s:ByteArray) (ns its:Nat):Bool:=(k ==0) && ((n ==0) && ((cmpF f 0 ==0) && (s.toList.isEmpty && (((ns:Int) ==0) && ((its:Int) ==0)))))
theorem z4D (p o:Nat) (k n:Int) (f:Nat) (s:ByteArray) (A D:Option Addr) (ns its ca cd:Nat) (w:World) (hf:f < 2 ^ 64) (h:w.rangeAt p o [.int .i64 k,.int .i64 n,.float .f64 f,.string s,.slice A ns ca,.slice D its cd]):
  Calls Tryz.prog 108 #[.pointer (some ⟨p,o,none⟩)] w fun e w'=>e= .returned (.bool (noneB k n f s ns its))/\w'= w:=by
 have d0:w.cell? ⟨p,o,none⟩= some (.int .i64 k):=h 0 _ rfl
 have d1:=h 1 _ rfl
 have d2:=h 2 _ rfl
 have d3:=h 3 _ rfl
 have d4:=h 4 _ rfl
 have d5:=h 5 _ rfl
 have HFO:=I (fun w=>z11 f 0 hf (by decide) w)
 clear h hf
 cases h0:(k ==0) with
 |false=>
  have HR:Hid (noneB k n f s ns its= false):=I (by unfold noneB;rw[h0];rfl)
  generalize cmpF f 0= cf at*
  go_enter Tryz.func108,Tryz.ntmps108
  go_wp2_with (go_at_call 145;refine(HFO.o _).mono ?_;rintro e z ⟨rfl,rfl⟩)
  go_ret
  exact⟨z7 HR.o.symm,rfl⟩
 |true=>
  cases h1:(n ==0) with
  |false=>
   have HR:Hid (noneB k n f s ns its= false):=I (by unfold noneB;rw[h0,h1];rfl)
   generalize cmpF f 0= cf at*
   go_enter Tryz.func108,Tryz.ntmps108
   go_wp2_with (go_at_call 145;refine(HFO.o _).mono ?_;rintro e z ⟨rfl,rfl⟩)
   go_ret
   exact⟨z7 HR.o.symm,rfl⟩
  |true=>
   cases h2:(cmpF f 0 ==0) with
   |false=>
    have HR:Hid (noneB k n f s ns its= false):=I (by unfold noneB;rw[h0,h1,h2];rfl)
    generalize cmpF f 0= cf at*
    go_enter Tryz.func108,Tryz.ntmps108
    go_wp2_with (go_at_call 145;refine(HFO.o _).mono ?_;rintro e z ⟨rfl,rfl⟩)
    go_ret
    exact⟨z7 HR.o.symm,rfl⟩
   |true=>
    cases h3:s.toList.isEmpty with
    |false=>
     have HR:Hid (noneB k n f s ns its= false):=I (by unfold noneB;rw[h0,h1,h2,h3];rfl)
     generalize cmpF f 0= cf at*
     go_enter Tryz.func108,Tryz.ntmps108
     go_wp2_with (go_at_call 145;refine(HFO.o _).mono ?_;rintro e z ⟨rfl,rfl⟩)
     go_ret
     exact⟨z7 HR.o.symm,rfl⟩
    |true=>
     cases h4:((ns:Int) ==0) with
     |false=>
      have HR:Hid (noneB k n f s ns its= false):=I (by unfold noneB;rw[h0,h1,h2,h3,h4];rfl)
      generalize cmpF f 0= cf at*
      go_enter Tryz.func108,Tryz.ntmps108
      go_wp2_with (go_at_call 145;refine(HFO.o _).mono ?_;rintro e z ⟨rfl,rfl⟩)
      go_ret
      exact⟨z7 HR.o.symm,rfl⟩
     |true=>
      cases h5:((its:Int) ==0) with
      |false=>
       have HR:Hid (noneB k n f s ns its= false):=I (by unfold noneB;rw[h0,h1,h2,h3,h4,h5];rfl)
       generalize cmpF f 0= cf at*
       go_enter Tryz.func108,Tryz.ntmps108
       go_wp2_with (go_at_call 145;refine(HFO.o _).mono ?_;rintro e z ⟨rfl,rfl⟩)
       go_ret
       exact⟨z7 HR.o.symm,rfl⟩
      |true=>
       have HR:Hid (noneB k n f s ns its= true):=I (by unfold noneB;rw[h0,h1,h2,h3,h4,h5];rfl)
       generalize cmpF f 0= cf at*
       go_enter Tryz.func108,Tryz.ntmps108
       go_wp2_with (go_at_call 145;refine(HFO.o _).mono ?_;rintro e z ⟨rfl,rfl⟩)
       go_ret
       exact⟨z7 HR.o.symm,rfl⟩
theorem zc7 (k n:Int) (f:Nat) (s:ByteArray) (A D:Option Addr) (ns its ca cd:Nat) (w:World) (hf:f < 2 ^ 64):
  Calls Tryz.prog 91 #[.agg ⟨[.int .i64 k,.int .i64 n,.float .f64 f,.string s,.slice A ns ca,.slice D its cd]⟩] w fun e w'=>e= .returned (.bool (noneB k n f s ns its))/\Below w.heap.size w w':=by
 have HFO:=I (fun w=>z5i f hf w)
 have HB1:=I (zd w (.cells ⟨[.int .i64 k,.int .i64 n,.float .f64 f,.string s,.slice A ns ca,.slice D its cd]⟩ 26))
 clear hf
 cases h0:(k ==0) with
 |false=>
  have HR:Hid (noneB k n f s ns its= false):=I (by unfold noneB;rw[h0];rfl)
  generalize (cmpF f 0 ==0)= cf at*
  go_enter Tryz.func91,Tryz.ntmps91
  go_wp2_with (go_at_call 137;refine(HFO.o _).mono ?_;rintro e z ⟨rfl,rfl⟩)
  go_ret
  exact⟨z7 HR.o.symm,HB1.o⟩
 |true=>
  cases h1:(n ==0) with
  |false=>
   have HR:Hid (noneB k n f s ns its= false):=I (by unfold noneB;rw[h0,h1];rfl)
   generalize (cmpF f 0 ==0)= cf at*
   go_enter Tryz.func91,Tryz.ntmps91
   go_wp2_with (go_at_call 137;refine(HFO.o _).mono ?_;rintro e z ⟨rfl,rfl⟩)
   go_ret
   exact⟨z7 HR.o.symm,HB1.o⟩
  |true=>
   cases h2:(cmpF f 0 ==0) with
   |false=>
    have HR:Hid (noneB k n f s ns its= false):=I (by unfold noneB;rw[h0,h1,h2];rfl)
    generalize (cmpF f 0 ==0)= cf at*
    go_enter Tryz.func91,Tryz.ntmps91
    go_wp2_with (go_at_call 137;refine(HFO.o _).mono ?_;rintro e z ⟨rfl,rfl⟩)
    go_ret
    exact⟨z7 HR.o.symm,HB1.o⟩
   |true=>
    cases h3:s.toList.isEmpty with
    |false=>
     have HR:Hid (noneB k n f s ns its= false):=I (by unfold noneB;rw[h0,h1,h2,h3];rfl)
     generalize (cmpF f 0 ==0)= cf at*
     go_enter Tryz.func91,Tryz.ntmps91
     go_wp2_with (go_at_call 137;refine(HFO.o _).mono ?_;rintro e z ⟨rfl,rfl⟩)
     go_ret
     exact⟨z7 HR.o.symm,HB1.o⟩
    |true=>
     cases h4:((ns:Int) ==0) with
     |false=>
      have HR:Hid (noneB k n f s ns its= false):=I (by unfold noneB;rw[h0,h1,h2,h3,h4];rfl)
      generalize (cmpF f 0 ==0)= cf at*
      go_enter Tryz.func91,Tryz.ntmps91
      go_wp2_with (go_at_call 137;refine(HFO.o _).mono ?_;rintro e z ⟨rfl,rfl⟩)
      go_ret
      exact⟨z7 HR.o.symm,HB1.o⟩
     |true=>
      cases h5:((its:Int) ==0) with
      |false=>
       have HR:Hid (noneB k n f s ns its= false):=I (by unfold noneB;rw[h0,h1,h2,h3,h4,h5];rfl)
       generalize (cmpF f 0 ==0)= cf at*
       go_enter Tryz.func91,Tryz.ntmps91
       go_wp2_with (go_at_call 137;refine(HFO.o _).mono ?_;rintro e z ⟨rfl,rfl⟩)
       go_ret
       exact⟨z7 HR.o.symm,HB1.o⟩
      |true=>
       have HR:Hid (noneB k n f s ns its= true):=I (by unfold noneB;rw[h0,h1,h2,h3,h4,h5];rfl)
       generalize (cmpF f 0 ==0)= cf at*
       go_enter Tryz.func91,Tryz.ntmps91
       go_wp2_with (go_at_call 137;refine(HFO.o _).mono ?_;rintro e z ⟨rfl,rfl⟩)
       go_ret
       exact⟨z7 HR.o.symm,HB1.o⟩
end
section
open Go Go.RowKit
def riseF:Option ByteArray->List ByteArray->Bool
 |_,[]=>true
 |none,s::l=>zK s && riseF (some s) l
 |some p,s::l=>zK s && (Op.bytesLess p.toList s.toList && riseF (some s) l)
theorem z4E {l:List ByteArray} {s:ByteArray} (h:l[0]?= some s):riseF (prevK l 0) (l.drop 0)=(zK s && riseF (prevK l 1) (l.drop 1)):=by
 rw[z0e h]
 show(zK s && riseF (some s) (l.drop 1))= _
 unfold prevK
 simp[h]
theorem z5C {l:List ByteArray} {k:Nat} {p s:ByteArray} (hp:l[k]?= some p) (h:l[k+1]?= some s):riseF (prevK l (k+1)) (l.drop (k+1))=(zK s && (Op.bytesLess p.toList s.toList && riseF (prevK l (k+2)) (l.drop (k+2)))):=by
 rw[z0e h]
 have h1:prevK l (k+1)= some p:=by unfold prevK;simp[hp]
 have h2:prevK l (k+2)= some s:=by unfold prevK;simp[h]
 rw[h1,h2]
 rfl
theorem z6x {l:List ByteArray}:riseF (prevK l l.length) (l.drop l.length)= true:=by
 rw[List.drop_eq_nil_of_le (Nat.le_refl _)];rw[riseF]
def zO (k:Int) (s:ByteArray) (ns:List ByteArray) (nk:Nat):Bool:=
 if k= 2 then !wordB s && (zK s && ((ns.length:Int) ==0))
 else if k= 18 then zK s && ((ns.length:Int) ==0)
 else if k= 17 then riseF none ns && (s.toList.isEmpty && ((ns.length:Int) ==(nk:Int)))
 else s.toList.isEmpty && ((ns.length:Int) ==0)
theorem zdh (p o:Nat) (sx:ByteArray) (v0 v1 v2 v3 v4 v5:Value) (A K:Option Addr) (c nk kc:Nat) (l:List ByteArray) (w:World) (hr:w.rangeAt p o [.int .i64 18,.string sx,v0,v1,v2,v3,v4,v5,.slice A l.length c,.slice K nk kc]) (hv:SlAt w w.heap.size 1 StrR (.slice A l.length c) l):
  Calls Tryz.prog 106 #[.pointer (some ⟨p,o,none⟩)] w fun e w'=>e= .returned (.bool (zO (18) sx l nk))/\Below w.heap.size w w':=by
 have d0:w.cell? ⟨p,o,none⟩= some (.int .i64 18):=hr 0 _ rfl
 have d1:w.cell? ⟨p,o+1,none⟩= some (.string sx):=hr 1 _ rfl
 have d8:w.cell? ⟨p,o+8,none⟩= some (.slice A l.length c):=hr 8 _ rfl
 have d9:w.cell? ⟨p,o+9,none⟩= some (.slice K nk kc):=hr 9 _ rfl
 have HPL:Hid (p < w.heap.size):=I (z2u d0)
 have D8:=I d8
 clear hr hv d8
 have d8:=D8.o
 have HFD:=I (fun w=>z3z sx w)
 cases hf:zK sx with
 |false=>
  have HR:Hid (zO 18 sx l nk= false):=I (by unfold zO;rw[if_neg (by decide),if_pos rfl];rw[hf];rfl)
  rw[hf] at HFD
  skip
  clear hf
  go_enter Tryz.func106,Tryz.ntmps106
  go_wp2_with (go_at_call 148;refine(HFD.o _).mono ?_;rintro e z ⟨rfl,hb⟩;have HB:=I hb;have e8:=(hb.cell (p:=⟨p,o+8,none⟩) HPL.o).trans D8.o;clear hb)
  go_ret
  exact⟨z7 HR.o.symm,HB.o⟩
 |true=>
  cases hl:((l.length:Int) ==0) with
  |true=>
   have HR:Hid (zO 18 sx l nk= true):=I (by unfold zO;rw[if_neg (by decide),if_pos rfl];rw[hf,hl];rfl)
   rw[hf] at HFD
   skip
   clear hf
   go_enter Tryz.func106,Tryz.ntmps106
   go_wp2_with (go_at_call 148;refine(HFD.o _).mono ?_;rintro e z ⟨rfl,hb⟩;have HB:=I hb;have e8:=(hb.cell (p:=⟨p,o+8,none⟩) HPL.o).trans D8.o;clear hb)
   go_ret
   exact⟨z7 HR.o.symm,HB.o⟩
  |false=>
   have HR:Hid (zO 18 sx l nk= false):=I (by unfold zO;rw[if_neg (by decide),if_pos rfl];rw[hf,hl];rfl)
   rw[hf] at HFD
   skip
   clear hf
   go_enter Tryz.func106,Tryz.ntmps106
   go_wp2_with (go_at_call 148;refine(HFD.o _).mono ?_;rintro e z ⟨rfl,hb⟩;have HB:=I hb;have e8:=(hb.cell (p:=⟨p,o+8,none⟩) HPL.o).trans D8.o;clear hb)
   go_ret
   exact⟨z7 HR.o.symm,HB.o⟩
theorem ze8 (p o:Nat) (sx:ByteArray) (v0 v1 v2 v3 v4 v5:Value) (A K:Option Addr) (c nk kc:Nat) (l:List ByteArray) (w:World) (hr:w.rangeAt p o [.int .i64 2,.string sx,v0,v1,v2,v3,v4,v5,.slice A l.length c,.slice K nk kc]) (hv:SlAt w w.heap.size 1 StrR (.slice A l.length c) l):
  Calls Tryz.prog 106 #[.pointer (some ⟨p,o,none⟩)] w fun e w'=>e= .returned (.bool (zO (2) sx l nk))/\Below w.heap.size w w':=by
 have d0:w.cell? ⟨p,o,none⟩= some (.int .i64 2):=hr 0 _ rfl
 have d1:w.cell? ⟨p,o+1,none⟩= some (.string sx):=hr 1 _ rfl
 have d8:w.cell? ⟨p,o+8,none⟩= some (.slice A l.length c):=hr 8 _ rfl
 have d9:w.cell? ⟨p,o+9,none⟩= some (.slice K nk kc):=hr 9 _ rfl
 have HPL:Hid (p < w.heap.size):=I (z2u d0)
 have D8:=I d8
 clear hr hv d8
 have d8:=D8.o
 have HWD:=I (fun w=>zax sx w)
 cases hw:wordB sx with
 |true=>
  have HR:Hid (zO 2 sx l nk= false):=I (by unfold zO;rw[if_pos rfl,hw];rfl)
  rw[hw] at HWD
  clear hw
  go_enter Tryz.func106,Tryz.ntmps106
  go_wp2_with (go_at_call 147;refine(HWD.o _).mono ?_;rintro e z ⟨rfl,rfl⟩)
  go_ret
  exact⟨z7 HR.o.symm,Below.refl _ _⟩
 |false=>
  have HFD:=I (fun w=>z3z sx w)
  cases hf:zK sx with
  |false=>
   have HR:Hid (zO 2 sx l nk= false):=I (by unfold zO;rw[if_pos rfl];rw[hw,hf];rfl)
   rw[hf] at HFD
   rw[hw] at HWD
   clear hf hw
   go_enter Tryz.func106,Tryz.ntmps106
   go_wp2_with (first|(go_at_call 148;refine(HFD.o _).mono ?_;rintro e z ⟨rfl,hb⟩;have HB:=I hb;have e8:=(hb.cell (p:=⟨p,o+8,none⟩) HPL.o).trans D8.o;clear hb)|(go_at_call 147;refine(HWD.o _).mono ?_;rintro e z ⟨rfl,rfl⟩))
   go_ret
   exact⟨z7 HR.o.symm,HB.o⟩
  |true=>
   cases hl:((l.length:Int) ==0) with
   |true=>
    have HR:Hid (zO 2 sx l nk= true):=I (by unfold zO;rw[if_pos rfl];rw[hw,hf,hl];rfl)
    rw[hf] at HFD
    rw[hw] at HWD
    clear hf hw
    go_enter Tryz.func106,Tryz.ntmps106
    go_wp2_with (first|(go_at_call 148;refine(HFD.o _).mono ?_;rintro e z ⟨rfl,hb⟩;have HB:=I hb;have e8:=(hb.cell (p:=⟨p,o+8,none⟩) HPL.o).trans D8.o;clear hb)|(go_at_call 147;refine(HWD.o _).mono ?_;rintro e z ⟨rfl,rfl⟩))
    go_ret
    exact⟨z7 HR.o.symm,HB.o⟩
   |false=>
    have HR:Hid (zO 2 sx l nk= false):=I (by unfold zO;rw[if_pos rfl];rw[hw,hf,hl];rfl)
    rw[hf] at HFD
    rw[hw] at HWD
    clear hf hw
    go_enter Tryz.func106,Tryz.ntmps106
    go_wp2_with (first|(go_at_call 148;refine(HFD.o _).mono ?_;rintro e z ⟨rfl,hb⟩;have HB:=I hb;have e8:=(hb.cell (p:=⟨p,o+8,none⟩) HPL.o).trans D8.o;clear hb)|(go_at_call 147;refine(HWD.o _).mono ?_;rintro e z ⟨rfl,rfl⟩))
    go_ret
    exact⟨z7 HR.o.symm,HB.o⟩
theorem zeB (k:Int) (h2:k≠2) (h17:k≠17) (h18:k≠18) (p o:Nat) (sx:ByteArray) (v0 v1 v2 v3 v4 v5:Value) (A K:Option Addr) (c nk kc:Nat) (l:List ByteArray) (w:World) (hr:w.rangeAt p o [.int .i64 k,.string sx,v0,v1,v2,v3,v4,v5,.slice A l.length c,.slice K nk kc]) (hv:SlAt w w.heap.size 1 StrR (.slice A l.length c) l):
  Calls Tryz.prog 106 #[.pointer (some ⟨p,o,none⟩)] w fun e w'=>e= .returned (.bool (zO k sx l nk))/\Below w.heap.size w w':=by
 have d0:w.cell? ⟨p,o,none⟩= some (.int .i64 k):=hr 0 _ rfl
 have d1:w.cell? ⟨p,o+1,none⟩= some (.string sx):=hr 1 _ rfl
 have d8:w.cell? ⟨p,o+8,none⟩= some (.slice A l.length c):=hr 8 _ rfl
 have d9:w.cell? ⟨p,o+9,none⟩= some (.slice K nk kc):=hr 9 _ rfl
 have HPL:Hid (p < w.heap.size):=I (z2u d0)
 have D8:=I d8
 have e2:(k ==2)= false:=by rw[beq_eq_false_iff_ne];exact h2
 have e17:(k ==17)= false:=by rw[beq_eq_false_iff_ne];exact h17
 have e18:(k ==18)= false:=by rw[beq_eq_false_iff_ne];exact h18
 have HU:Hid (zO k sx l nk=(sx.toList.isEmpty && ((l.length:Int) ==0))):=I (by unfold zO;rw[if_neg h2,if_neg h18,if_neg h17])
 clear hr hv h2 h17 h18
 cases hs:sx.toList.isEmpty with
 |false=>
  have HR:=I (HU.o.trans (by rw[hs];rfl:_= false))
  go_enter Tryz.func106,Tryz.ntmps106
  go_wp2
  go_ret
  exact⟨z7 HR.o.symm,Below.refl _ _⟩
 |true=>
  cases hl:((l.length:Int) ==0) with
  |false=>
   have HR:=I (HU.o.trans (by rw[hs,hl];rfl:_= false))
   go_enter Tryz.func106,Tryz.ntmps106
   go_wp2
   go_ret
   exact⟨z7 HR.o.symm,Below.refl _ _⟩
  |true=>
   have HR:=I (HU.o.trans (by rw[hs,hl];rfl:_= true))
   go_enter Tryz.func106,Tryz.ntmps106
   go_wp2
   go_ret
   exact⟨z7 HR.o.symm,Below.refl _ _⟩
theorem zdj (p o:Nat) (sx:ByteArray) (v0 v1 v2 v3 v4 v5:Value) (A K:Option Addr) (c nk kc:Nat) (l:List ByteArray) (w:World) (hr:w.rangeAt p o [.int .i64 17,.string sx,v0,v1,v2,v3,v4,v5,.slice A l.length c,.slice K nk kc]) (hv:SlAt w w.heap.size 1 StrR (.slice A l.length c) l):
  Calls Tryz.prog 106 #[.pointer (some ⟨p,o,none⟩)] w fun e w'=>e= .returned (.bool (zO (17) sx l nk))/\Below w.heap.size w w':=by
 have d0:w.cell? ⟨p,o,none⟩= some (.int .i64 17):=hr 0 _ rfl
 have d1:w.cell? ⟨p,o+1,none⟩= some (.string sx):=hr 1 _ rfl
 have d8:w.cell? ⟨p,o+8,none⟩= some (.slice A l.length c):=hr 8 _ rfl
 have d9:w.cell? ⟨p,o+9,none⟩= some (.slice K nk kc):=hr 9 _ rfl
 have HPL:Hid (p < w.heap.size):=I (z2u d0)
 have D8:=I d8
 obtain⟨_,hl,ha⟩:=z1J hv
 have HA:=I ha
 have H1:=I (fun s=>z4E (l:=l) (s:=s))
 have H2:=I (fun k p s=>z5C (l:=l) (k:=k) (p:=p) (s:=s))
 have HE:=I (z6x (l:=l))
 have HU:Hid (zO 17 sx l nk=(riseF none l && (sx.toList.isEmpty && ((l.length:Int) ==(nk:Int))))):=I (by unfold zO;rw[if_neg (by decide),if_neg (by decide),if_pos rfl])
 have H0:Hid (riseF (prevK l 0) (l.drop 0)= riseF none l):=I rfl
 have hl2:(l.length:Int)<=9223372036854775807:=by omega
 have D1:=I d1
 have D9:=I d9
 clear ha hv hr
 obtain⟨res,hres0⟩:∃ res,riseF none l= res:=⟨_,rfl⟩
 have HRES:=I hres0
 rw[hres0] at H0
 clear hres0
 go_enter Tryz.func106,Tryz.ntmps106
 go_upto_region 9 with (fail)
 go_loopg [38] l.length (fun q x u=>∃ k:Nat,k+q= l.length/\x= .int .i64 k/\Below w.heap.size w u/\riseF (prevK l k) (l.drop k)= res)
 case atStart=>exact⟨0,by omega,rfl,Below.refl _ _,H0.o⟩
 case round=>
  obtain⟨k,hk,rfl,hb,hres⟩:=hrel
  have HR:=I hres
  have HBK:=I hb
  clear hres hb
  cases gk with
  |zero=>
   obtain rfl:k= l.length:=by omega
   have hge: ¬ ((l.length:Int) <(l.length:Int)):=by omega
   have HV:=I (HR.o.symm.trans HE.o)
   have x1:=(HBK.o.cell (p:=⟨p,o+1,none⟩) HPL.o).trans D1.o
   have x8:=(HBK.o.cell (p:=⟨p,o+8,none⟩) HPL.o).trans D8.o
   have x9:=(HBK.o.cell (p:=⟨p,o+9,none⟩) HPL.o).trans D9.o
   clear HR
   cases hs:sx.toList.isEmpty with
   |false=>
    have HR2:Hid (zO 17 sx l nk= false):=I (by rw[HU.o,HRES.o,HV.o,hs];rfl)
    go_upto_region 14 with (fail)
    go_quiet (fail)
    go_wp2
    go_ret
    exact⟨z7 HR2.o.symm,HBK.o.trans ⟨rfl,rfl,rfl,Nat.le_refl _,fun _ _=>rfl⟩⟩
   |true=>
    cases hl:((l.length:Int) ==(nk:Int)) with
    |false=>
     have HR2:Hid (zO 17 sx l nk= false):=I (by rw[HU.o,HRES.o,HV.o,hs,hl];rfl)
     go_upto_region 14 with (fail)
     go_quiet (fail)
     go_wp2
     go_ret
     exact⟨z7 HR2.o.symm,HBK.o.trans ⟨rfl,rfl,rfl,Nat.le_refl _,fun _ _=>rfl⟩⟩
    |true=>
     have HR2:Hid (zO 17 sx l nk= true):=I (by rw[HU.o,HRES.o,HV.o,hs,hl];rfl)
     go_upto_region 14 with (fail)
     go_quiet (fail)
     go_wp2
     go_ret
     exact⟨z7 HR2.o.symm,HBK.o.trans ⟨rfl,rfl,rfl,Nat.le_refl _,fun _ _=>rfl⟩⟩
  |succ q=>
   have hlt:(k:Int) <(l.length:Int):=by omega
   obtain⟨s,hs⟩:∃ s,l[k]?= some s:=⟨_,List.getElem?_eq_getElem (by omega)⟩
   obtain⟨b,oo,rfl,hbl,hc⟩:=HA.o (by omega)
   have HCC:=I (fun i x hx=>(hc i x hx).1)
   have HBL:=I hbl
   have ds:=(HBK.o.cell (p:=⟨b,oo+k,none⟩) hbl).trans (hc k s hs).1
   have HNM:=I (z3z s wr)
   have HSK:=I hs
   clear hc hbl hs
   rcases Nat.eq_zero_or_pos k with hk0|hk0
   ·subst hk0
    have ds0:wr.cell? ⟨b,oo,none⟩= some (.string s):=ds
    have hlt0:(0:Int) <(l.length:Int):=by omega
    have HV:=I (HR.o.symm.trans (H1.o s HSK.o))
    clear HR
    generalize zK s= nb at*
    cases nb with
    |false=>
     have HV2:Hid (res= false):=I (HV.o.trans (Bool.false_and _))
     clear HV
     go_wp2_with (go_at_call 148;refine HNM.o.mono ?_;rintro e z ⟨rfl,hbz⟩;have HB3:=I hbz;clear hbz)
     go_ret
     exact⟨z7 (by rw[HU.o,HRES.o,HV2.o];rfl),HBK.o.trans (HB3.o.mono HBK.o.size)⟩
    |true=>
     have HV2:=I (HV.o.trans (Bool.true_and _))
     clear HV
     go_wp2_with (go_at_call 148;refine HNM.o.mono ?_;rintro e z ⟨rfl,hbz⟩;have HB3:=I hbz;clear hbz)
     go_roundg q
     case measure=>omega
     case rel=>exact⟨1,by omega,by go_num,HBK.o.trans (HB3.o.mono HBK.o.size),HV2.o.symm⟩
   ·obtain⟨j,rfl⟩:∃ j,k= j+1:=⟨k - 1,by omega⟩
    obtain⟨pn,hp⟩:∃ pn,l[j]?= some pn:=⟨_,List.getElem?_eq_getElem (by omega)⟩
    have HV:=I (HR.o.symm.trans (H2.o j pn s hp HSK.o))
    have HDP:=I (HCC.o j pn hp)
    have hpos:(0:Int) <((j+1:Nat):Int):=by omega
    have hj2:(j:Int) <(l.length:Int):=by omega
    clear HR hp
    generalize zK s= nb at*
    cases nb with
    |false=>
     have HV2:Hid (res= false):=I (HV.o.trans (Bool.false_and _))
     clear HV
     go_wp2_with (go_at_call 148;refine HNM.o.mono ?_;rintro e z ⟨rfl,hbz⟩;have HB3:=I hbz;clear hbz)
     go_ret
     exact⟨z7 (by rw[HU.o,HRES.o,HV2.o];rfl),HBK.o.trans (HB3.o.mono HBK.o.size)⟩
    |true=>
     have HV2:=I (HV.o.trans (Bool.true_and _))
     clear HV
     cases hlt3:Op.bytesLess pn.toList s.toList with
     |false=>
      have HV3:Hid (res= false):=I (HV2.o.trans (by rw[hlt3];exact Bool.false_and _))
      go_wp2_with (go_at_call 148;refine HNM.o.mono ?_;rintro e z ⟨rfl,hbz⟩;have HB3:=I hbz;have x8:=((HBK.o.trans (hbz.mono HBK.o.size)).cell (p:=⟨p,o+8,none⟩) HPL.o).trans D8.o;have dp:=(((HBK.o.trans (hbz.mono HBK.o.size)).cell (p:=⟨b,oo+j,none⟩) HBL.o)).trans HDP.o;clear hbz)
      go_ret
      exact⟨z7 (by rw[HU.o,HRES.o,HV3.o];rfl),HBK.o.trans (HB3.o.mono HBK.o.size)⟩
     |true=>
      have HV3:=I (HV2.o.trans (by rw[hlt3,Bool.true_and]))
      go_wp2_with (go_at_call 148;refine HNM.o.mono ?_;rintro e z ⟨rfl,hbz⟩;have HB3:=I hbz;have x8:=((HBK.o.trans (hbz.mono HBK.o.size)).cell (p:=⟨p,o+8,none⟩) HPL.o).trans D8.o;have dp:=(((HBK.o.trans (hbz.mono HBK.o.size)).cell (p:=⟨b,oo+j,none⟩) HBL.o)).trans HDP.o;clear hbz)
      go_roundg q
      case measure=>omega
      case rel=>exact⟨j+2,by omega,by go_num,HBK.o.trans (HB3.o.mono HBK.o.size),HV3.o.symm⟩
theorem zbe (k:Int) (p o:Nat) (sx:ByteArray) (v0 v1 v2 v3 v4 v5:Value) (A K:Option Addr) (c nk kc:Nat) (l:List ByteArray) (w:World) (hr:w.rangeAt p o [.int .i64 k,.string sx,v0,v1,v2,v3,v4,v5,.slice A l.length c,.slice K nk kc]) (hv:SlAt w w.heap.size 1 StrR (.slice A l.length c) l):
  Calls Tryz.prog 106 #[.pointer (some ⟨p,o,none⟩)] w fun e w'=>e= .returned (.bool (zO k sx l nk))/\Below w.heap.size w w':=by
 rcases Classical.em (k= 2) with rfl|h2
 ·exact ze8 p o sx v0 v1 v2 v3 v4 v5 A K c nk kc l w hr hv
 rcases Classical.em (k= 17) with rfl|h17
 ·exact zdj p o sx v0 v1 v2 v3 v4 v5 A K c nk kc l w hr hv
 rcases Classical.em (k= 18) with rfl|h18
 ·exact zdh p o sx v0 v1 v2 v3 v4 v5 A K c nk kc l w hr hv
 exact zeB k h2 h17 h18 p o sx v0 v1 v2 v3 v4 v5 A K c nk kc l w hr hv
end
section
open Go Go.RowKit
theorem TypAt.next {w w':World} {cs:List Value} {t:TT} (h:TypAt w w.heap.size cs t) (hb:Below w.heap.size w w'):TypAt w' w'.heap.size cs t:=(h.under hb).more hb.size
theorem z4s {w:World} {v:Value} {l:List TT} (h:SlAt w w.heap.size 3 (TypAt w w.heap.size) v l):∃ A c,v= .slice A l.length c/\l.length<=9223372036854775807/\
  (0 < l.length->∃ b o,A= some ⟨b,o,none⟩/\b < w.heap.size/\∀ (i:Nat) x,l[i]?= some x->∃ cs:List Value,w.rangeAt b (o+i*3) cs/\TypAt w w.heap.size cs x):=by
 obtain⟨h0,A,c,h1,h2⟩:=h
 refine⟨A,c,h1,h0,fun hp=> ?_⟩
 obtain⟨b,o,h3,h4,h5⟩:=h2 hp
 refine⟨b,o,h3,h4,fun i x hx=> ?_⟩
 obtain⟨cs,_,h7,h8⟩:=h5 i x hx
 exact⟨cs,h7,h8⟩
theorem zo {w:World} {B:Nat} {cs:List Value} {t:TT} (h:TypAt w B cs t):cs.length= 3/\∀ u∈cs,u.oneCell'= true:=by
 cases t with
 |mk k ns its=>
  have h9:=h.one
  obtain⟨vn,vi,rfl,_,h1,_,h2⟩:=h.inv
  exact⟨rfl,h9⟩
mutual
def cntT:TT->Nat->Nat
 | .mk _ _ its,n=>cntTL its (n+1)
def cntTL:List TT->Nat->Nat
 |[],n=>n
 |a::l,n=>if 500<=n then n else cntTL l (cntT a n)
end
theorem z7l:∀ (l:List TT) (n:Nat),(∀ x∈l,∀ m,m < 500->cntT x m<=500)->n<=500->cntTL l n<=500
 |[],n,_,h=>by rw[cntTL];exact h
 |a::l,n,h,hn=>by
  rw[cntTL]
  split
  ·exact hn
  ·exact z7l l _ (fun x hx=>h x (List.mem_cons_of_mem _ hx)) (h a (List.mem_cons_self ..) n (by omega))
theorem zdH (t:TT):∀ m,m < 500->cntT t m<=500:=by
 induction t using TT.ind with
 |h k ns its ih=>exact fun m hm=>by rw[cntT];exact z7l its _ ih (by omega)
theorem z9u {l:List TT} {k m:Nat} {x:TT} (h:l[k]?= some x):cntTL (l.drop k) m= if 500<=m then m else cntTL (l.drop (k+1)) (cntT x m):=by
 rw[z0e h,cntTL]
theorem zbj {l:List TT} {m:Nat}:cntTL (l.drop l.length) m= m:=by
 rw[List.drop_eq_nil_of_le (Nat.le_refl _),cntTL]
mutual
def zY:TT->Nat->Bool
 | .mk k ns its,d=>
  if 12 < d then false
  else if k= 5 then(its.length ==1) && ((ns.length ==0) && z0E its (d+1))
  else if k= 6 then(ns.length ==its.length) && (riseB none ns && z0E its (d+1))
  else if k= 1\/k= 2\/k= 3\/k= 4\/k= 7 then(ns.length ==0) && (its.length ==0)
  else false
def z0E:List TT->Nat->Bool
 |[],_=>true
 |a::l,d=>zY a d && z0E l d
end
theorem z4F {l:List TT} {k d:Nat} {x:TT} (h:l[k]?= some x):z0E (l.drop k) d=(zY x d && z0E (l.drop (k+1)) d):=by
 rw[z0e h,z0E]
theorem z5f {l:List TT} {d:Nat}:z0E (l.drop l.length) d= true:=by
 rw[List.drop_eq_nil_of_le (Nat.le_refl _),z0E]
end
section
open Go Go.RowKit
theorem zei:∀ (x:TT) (far:Nat) (cs:List Value) (w:World),far<=40->TypAt w w.heap.size cs x->Calls Tryz.prog 50 #[.agg ⟨cs⟩,.int .i64 far] w (z5X w):=by
 intro x
 induction x using TT.ind with
 |h k ns its ih=>
  intro far cs w hfar hv
  obtain⟨vn,vi,rfl,_,_,_,hi⟩:=hv.inv
  obtain⟨A,c,rfl,hil,hA⟩:=z4s hi
  have HA:=I hA
  have IH:=I ih
  clear hA hv ih hi
  go_enter Tryz.func50,Tryz.ntmps50
  go_upto_region 1 with (fail)
  have hb0:=zd w (.cells ⟨[.int .i64 k,vn,.slice A its.length c]⟩ 45)
  have hz0:=zw w (.cells ⟨[.int .i64 k,vn,.slice A its.length c]⟩ 45)
  have c5:=zA w ⟨[.int .i64 k,vn,.slice A its.length c]⟩ 45 2
  generalize w.alloc (.cells ⟨[.int .i64 k,vn,.slice A its.length c]⟩ 45)= W at*
  have HB:=I hb0
  have C5:=I c5
  have HSZ:=I hz0
  clear hb0 c5 hz0
  go_wp2
  go_loopg [5,6] its.length (fun g m i wr=>∃ (j:Nat) (x:Int),j+g= its.length/\i= .int .i64 j/\m= .int .i64 x/\Below W.heap.size W wr)
  case atStart=>exact⟨0,0,by omega,rfl,rfl,Below.refl _ _⟩
  case round=>
   obtain⟨j,x,hj,rfl,rfl,hb⟩:=hrel
   have HB1:=I hb
   have d5:=(hb.cell (p:=⟨w.heap.size,2,none⟩) HSZ.o).trans C5.o
   clear hb
   simp only[List.getElem?_toArray,List.getElem?_cons_succ,List.getElem?_cons_zero] at d5
   cases gk with
   |zero=>
    have hge: ¬ ((j:Int) <(its.length:Int)):=by omega
    go_wp2
    go_ret
    exact⟨_,rfl,HB.o.trans (HB1.o.mono HB.o.size)⟩
   |succ g=>
    have hlt:(j:Int) <(its.length:Int):=by omega
    by_cases h0:far= 0
    ·subst h0
     go_wp2
     go_ret
     exact⟨_,rfl,HB.o.trans (HB1.o.mono HB.o.size)⟩
    ·have hpos:(0:Int) <(far:Int):=by omega
     obtain⟨y,hy⟩:∃ y,its[j]?= some y:=⟨_,List.getElem?_eq_getElem (by omega)⟩
     obtain⟨b,o,rfl,hbb,hc⟩:=HA.o (by omega)
     obtain⟨cs,hr,hR⟩:=hc j y hy
     have hB2:=HB.o.trans (HB1.o.mono HB.o.size)
     have HR:=I (zc hr hB2 hbb)
     have HC:=I (IH.o y (List.mem_of_getElem? hy) (far - 1) cs wr (by omega) (hR.next hB2))
     have HCL:=I (zo hR)
     have hf1:((far - 1:Nat):Int)=(far:Int) - 1:=by omega
     clear hc hr hR hB2 hy h0
     rw[hf1] at HC
     clear hf1
     go_wp2_with (first|((with_reducible refine za 45 _ rfl ?_ b (o+j*3) cs _ rfl HR.o Tryz.underlying45 rfl ?_ ?_);(exact wA rfl);rw[HCL.o.1];kernel_rfl)|(go_at_call 50;refine HC.o.mono ?_;rintro e w' ⟨z,rfl,hb⟩;have HB2:=I hb;clear hb))
     all_goals
      go_roundg g
      case measure=>omega
      case rel=>exact⟨j+1,_,by omega,by go_num,rfl,HB1.o.trans (HB2.o.mono HB1.o.size)⟩
theorem z9c:∀ (t:TT) (m:Nat) (cs:List Value) (w:World),m < 500->TypAt w w.heap.size cs t->
  Calls Tryz.prog 88 #[.agg ⟨cs⟩,.int .i64 m] w fun e w'=>e= .returned (.int .i64 (cntT t m:Nat))/\Below w.heap.size w w':=by
 intro t
 induction t using TT.ind with
 |h k ns its ih=>
  intro m cs w hm hv
  have IH:=I ih
  obtain⟨vn,vi,rfl,_,_,_,hi⟩:=hv.inv
  obtain⟨A,c,rfl,hil,hA⟩:=z4s hi
  have HA:=I hA
  have HS:=I (fun k m x=>z9u (l:=its) (k:=k) (m:=m) (x:=x))
  have HE:=I (fun m=>zbj (l:=its) (m:=m))
  have HLE:=I (fun x m hm=>zdH x m hm)
  have HCE:Hid (∀ k m,500<=m->cntTL (its.drop k) m= m):=I (fun k m h=>by
   cases its.drop k with
   |nil=>rw[cntTL]
   |cons a l=>rw[cntTL,if_pos h])
  have H0:Hid (cntTL (its.drop 0) (m+1)= cntT (.mk k ns its) m):=I (by rw[cntT];rfl)
  clear ih hi hA hv
  generalize cntT (.mk k ns its) m= res at*
  go_enter Tryz.func88,Tryz.ntmps88
  go_upto_region 1 with (fail)
  have hb0:=zd w (.cells ⟨[.int .i64 k,vn,.slice A its.length c]⟩ 45)
  have hz0:=zw w (.cells ⟨[.int .i64 k,vn,.slice A its.length c]⟩ 45)
  have c5:=zA w ⟨[.int .i64 k,vn,.slice A its.length c]⟩ 45 2
  generalize w.alloc (.cells ⟨[.int .i64 k,vn,.slice A its.length c]⟩ 45)= W at*
  have HB:=I hb0
  have C5:=I c5
  have HSZ:=I hz0
  clear hb0 c5 hz0
  have hm2:(m:Int) < 500:=by omega
  go_wp2
  go_loopg [1,5] its.length (fun g u i wr=>∃ (j m:Nat),j+g= its.length/\i= .int .i64 j/\u= .int .i64 m/\m<=500/\Below W.heap.size W wr/\cntTL (its.drop j) m= res)
  case atStart=>exact⟨0,m+1,by omega,rfl,by go_num,by omega,Below.refl _ _,H0.o⟩
  case round=>
   obtain⟨j,m,hj,rfl,rfl,hm5,hb,hres⟩:=hrel
   have HB1:=I hb
   have HR:=I hres
   have d5:=(hb.cell (p:=⟨w.heap.size,2,none⟩) HSZ.o).trans C5.o
   clear hb hres
   simp only[List.getElem?_toArray,List.getElem?_cons_succ,List.getElem?_cons_zero] at d5
   have hm5':(m:Int)<=500:=by omega
   cases gk with
   |zero=>
    obtain rfl:j= its.length:=by omega
    have hge: ¬ ((its.length:Int) <(its.length:Int)):=by omega
    have HV:=I (HR.o.symm.trans (HE.o m))
    go_wp2
    go_ret
    exact⟨by rw[HV.o];go_num,HB.o.trans (HB1.o.mono HB.o.size)⟩
   |succ g=>
    have hlt:(j:Int) <(its.length:Int):=by omega
    by_cases h0:m < 500
    ·obtain⟨y,hy⟩:∃ y,its[j]?= some y:=⟨_,List.getElem?_eq_getElem (by omega)⟩
     obtain⟨b,o,rfl,hbb,hc⟩:=HA.o (by omega)
     obtain⟨cs,hr,hR⟩:=hc j y hy
     have hB2:=HB.o.trans (HB1.o.mono HB.o.size)
     have HV:=I (HR.o.symm.trans (HS.o j m y hy))
     have HV2:=I (HV.o.trans (if_neg (by omega)))
     have HR1:=I (zc hr hB2 hbb)
     have HC:=I (IH.o y (List.mem_of_getElem? hy) m cs wr h0 (hR.next hB2))
     have HCL:=I (zo hR)
     have hle:=HLE.o y m h0
     have h0':(m:Int) < 500:=by omega
     clear hc hr hR hB2 hy HV h0
     go_wp2_with (first|((with_reducible refine za 45 _ rfl ?_ b (o+j*3) cs _ rfl HR1.o Tryz.underlying45 rfl ?_ ?_);(exact wA rfl);rw[HCL.o.1];kernel_rfl)|(go_at_call 88;refine HC.o.mono ?_;rintro e w' ⟨rfl,hb⟩;have HB2:=I hb;clear hb))
     go_roundg g
     case measure=>omega
     case rel=>exact⟨j+1,_,by omega,by go_num,rfl,hle,HB1.o.trans (HB2.o.mono HB1.o.size),HV2.o.symm⟩
    ·have HV:=I (HR.o.symm.trans (HCE.o j m (by omega)))
     have h0': ¬ ((m:Int) < 500):=by omega
     have hm500:m= 500:=by omega
     go_wp2
     all_goals
      go_ret
      exact⟨by rw[HV.o,hm500];rfl,HB.o.trans (HB1.o.mono HB.o.size)⟩
theorem z5y (t:TT) (cs:List Value) (w:World) (hv:TypAt w w.heap.size cs t):Calls Tryz.prog 51 #[.agg ⟨cs⟩] w fun e w'=>e= .returned (.int .i64 (cntT t 0:Nat))/\Below w.heap.size w w':=by
 have HCL:=I (zo hv)
 have HV:=I hv
 clear hv
 go_enter Tryz.func51,Tryz.ntmps51
 go_upto_region 1 with (fail)
 have HB:=I (zd w (.cells ⟨cs⟩ 45))
 have HR:=I (zv w cs 45)
 generalize w.alloc (.cells ⟨cs⟩ 45)= W at*
 have HC:=I (z9c t 0 cs W (by omega) (HV.o.next HB.o))
 go_wp2_with (first|((with_reducible refine za 45 _ rfl ?_ w.heap.size 0 cs _ rfl HR.o Tryz.underlying45 rfl ?_ ?_);(exact wA rfl);rw[HCL.o.1];kernel_rfl)|(go_at_call 88;refine HC.o.mono ?_;rintro e w' ⟨rfl,hb⟩;have HB2:=I hb;clear hb))
 go_ret
 exact⟨rfl,HB.o.trans (HB2.o.mono HB.o.size)⟩
theorem zeq (x:TT) (cs:List Value) (w:World) (hv:TypAt w w.heap.size cs x):Calls Tryz.prog 28 #[.agg ⟨cs⟩] w (z52 w):=by
 have HCL:=I (zo hv)
 have HV:=I hv
 clear hv
 go_enter Tryz.func28,Tryz.ntmps28
 go_upto_region 1 with (fail)
 have HB:=I (zd w (.cells ⟨cs⟩ 45))
 have HR:=I (zv w cs 45)
 have HSZ:=I (zw w (.cells ⟨cs⟩ 45))
 generalize w.alloc (.cells ⟨cs⟩ 45)= W at*
 have HC:=I (zei x 40 cs W (by omega) (HV.o.next HB.o))
 go_wp2_with (first|((with_reducible refine za 45 _ rfl ?_ w.heap.size 0 cs _ rfl HR.o Tryz.underlying45 rfl ?_ ?_);(exact wA rfl);rw[HCL.o.1];kernel_rfl)|(go_at_call 50;fail))
 refine HC.o.mono ?_
 rintro e w2 ⟨z,rfl,hb⟩
 have HB2:=I (HB.o.trans (hb.mono HB.o.size))
 have HR2:=I (zc HR.o hb HSZ.o)
 have HC2:=I (z5y x cs w2 (HV.o.next HB2.o))
 clear hb HC
 by_cases hz:z<=30
 ·go_wp2_with (first|((with_reducible refine za 45 _ rfl ?_ w.heap.size 0 cs _ rfl HR2.o Tryz.underlying45 rfl ?_ ?_);(exact wA rfl);rw[HCL.o.1];kernel_rfl)|(go_at_call 51;refine HC2.o.mono ?_;rintro e w' ⟨rfl,hb⟩;have HB3:=I hb;clear hb))
  all_goals
   go_ret
   exact⟨_,rfl,HB2.o.trans (HB3.o.mono HB2.o.size)⟩
 ·go_wp2
  all_goals
   go_ret
   exact⟨_,rfl,HB2.o⟩
theorem z9e:∀ (t:TT) (far d:Nat) (cs:List Value) (w:World),far+d= 13->TypAt w w.heap.size cs t->
  Calls Tryz.prog 80 #[.agg ⟨cs⟩,.int .i64 far] w fun e w'=>e= .returned (.bool (zY t d))/\Below w.heap.size w w':=by
 intro t
 induction t using TT.ind with
 |h k ns its ih=>
  intro far d cs w hfd hv
  have IH:=I ih
  obtain⟨vn,vi,rfl,_,hn,_,hi⟩:=hv.inv
  obtain⟨_,NA,nc,rfl,_⟩:=id hn
  obtain⟨A,c,rfl,hil,hA⟩:=z4s hi
  have hnl:=hn.1
  have HN:=I hn
  have HA:=I hA
  have hf13:far<=13:=by omega
  have hfd':d= 13 - far:=by omega
  have HO:Hid (zY (.mk k ns its) d= if 12 < d then false
   else if k= 5 then(its.length ==1) && ((ns.length ==0) && z0E its (d+1))
   else if k= 6 then(ns.length ==its.length) && (riseB none ns && z0E its (d+1))
   else if k= 1\/k= 2\/k= 3\/k= 4\/k= 7 then(ns.length ==0) && (its.length ==0)
   else false):=I (by rw[zY])
  generalize hres:zY (.mk k ns its) d= res at*
  have HW:=I (zd w (.cells ⟨[.int .i64 k,.slice NA ns.length nc,.slice A its.length c]⟩ 45))
  have HSZ:=I (zw w (.cells ⟨[.int .i64 k,.slice NA ns.length nc,.slice A its.length c]⟩ 45))
  have HRG:=I (zv w [.int .i64 k,.slice NA ns.length nc,.slice A its.length c] 45)
  clear ih hv hn hi hA hres
  by_cases hdeep:far= 0
  ·subst hdeep
   have HR:Hid (res= false):=I (HO.o.trans (if_pos (by omega)))
   have t1:((0:Nat):Int) < 1:=by omega
   clear HO
   (try clear hi0);(try clear hm0);(try clear hi1)
   go_enter Tryz.func80,Tryz.ntmps80
   go_upto_region 1 with (fail)
   generalize w.alloc (.cells ⟨[.int .i64 k,.slice NA ns.length nc,.slice A its.length c]⟩ 45)= W at*
   have d0:W.cell? ⟨w.heap.size,0,none⟩= some (.int .i64 k):=by have:=HRG.o 0 _ rfl;simpa using this
   have d1:W.cell? ⟨w.heap.size,1,none⟩= some (.slice NA ns.length nc):=by have:=HRG.o 1 _ rfl;simpa using this
   have d2:W.cell? ⟨w.heap.size,2,none⟩= some (.slice A its.length c):=by have:=HRG.o 2 _ rfl;simpa using this
   go_wp2
   go_ret
   exact⟨z7 HR.o.symm,HW.o⟩
  have t1: ¬ ((far:Int) < 1):=by omega
  have HO1:=I (HO.o.trans (if_neg (by omega)))
  clear HO
  by_cases k5:k= 5
  ·subst k5
   have HV:=I (HO1.o.trans (if_pos rfl))
   clear HO1
   by_cases hi1:its.length= 1
   ·have j1:((its.length:Int) ==1)= true:=by rw[hi1];rfl
    have j1':(its.length ==1)= true:=by rw[hi1];rfl
    have j2:((its.length:Int) !=1)= false:=by rw[hi1];rfl
    by_cases hm0:ns.length= 0
    ·have m1:((ns.length:Int) ==0)= true:=by rw[hm0];rfl
     have m1':(ns.length ==0)= true:=by rw[hm0];rfl
     have m2:((ns.length:Int) !=0)= false:=by rw[hm0];rfl
     have HM0:=I hm0
     have HI1:=I hi1
     have HR:Hid (res= z0E its (d+1)):=I (by rw[HV.o];simp[m1',j1'])
     clear m1 m1' m2 j1 j1' j2
     (try clear hi0);(try clear hm0);(try clear hi1)
     go_enter Tryz.func80,Tryz.ntmps80
     go_upto_region 1 with (fail)
     generalize w.alloc (.cells ⟨[.int .i64 5,.slice NA ns.length nc,.slice A its.length c]⟩ 45)= W at*
     have d0:W.cell? ⟨w.heap.size,0,none⟩= some (.int .i64 5):=by have:=HRG.o 0 _ rfl;simpa using this
     have d1:W.cell? ⟨w.heap.size,1,none⟩= some (.slice NA ns.length nc):=by have:=HRG.o 1 _ rfl;simpa using this
     have d2:W.cell? ⟨w.heap.size,2,none⟩= some (.slice A its.length c):=by have:=HRG.o 2 _ rfl;simpa using this
     have D5:=I d2
     have hm0:=HM0.o
     rw[hm0] at d1
     have hi1:=HI1.o
     rw[hi1] at d2
     clear hm0 hi1
     go_wp2
     clear d2
     go_loopg [5] its.length (fun q x u=>∃ j:Nat,j+q= its.length/\x= .int .i64 j/\Below W.heap.size W u/\z0E (its.drop j) (d+1)= res)
     case atStart=>exact⟨0,by omega,rfl,Below.refl _ _,HR.o.symm⟩
     case round=>
      obtain⟨j,hj,rfl,hb,hres⟩:=hrel
      have HR2:=I hres
      have HBK:=I hb
      have d5':=(hb.cell (p:=⟨w.heap.size,2,none⟩) HSZ.o).trans D5.o
      clear hres hb
      cases gk with
      |zero=>
       obtain rfl:j= its.length:=by omega
       have hge: ¬ ((its.length:Int) <(its.length:Int)):=by omega
       have HVE:=I (HR2.o.symm.trans z5f)
       go_wp2
       go_ret
       exact⟨z7 HVE.o.symm,HW.o.trans (HBK.o.mono HW.o.size)⟩
      |succ q=>
       have hlt:(j:Int) <(its.length:Int):=by omega
       obtain⟨x,hx⟩:∃ x,its[j]?= some x:=⟨_,List.getElem?_eq_getElem (by omega)⟩
       obtain⟨b,o',rfl,hbl,hc⟩:=HA.o (by omega)
       obtain⟨ks,hks,hvx⟩:=hc j x hx
       have HVS:=I (HR2.o.symm.trans (z4F hx))
       have HBT:=I (HW.o.trans (HBK.o.mono HW.o.size))
       have HKS:=I (zc hks HBT.o hbl)
       have HKL:=I (zo hvx)
       have HC:=I (IH.o x (List.mem_of_getElem? hx) (far - 1) (d+1) ks wr (by omega) (hvx.next HBT.o))
       have hd1:((far - 1:Nat):Int)=(far:Int) - 1:=by omega
       rw[hd1] at HC
       clear hc hks hvx hx hd1
       generalize zY x (d+1)= rx at*
       cases rx with
       |true=>
        have HV2:=I (HVS.o.trans (Bool.true_and _))
        clear HVS
        go_wp2_with (first|((with_reducible refine za 45 _ rfl ?_ b (o'+j*3) ks _ rfl HKS.o Tryz.underlying45 rfl ?_ ?_);(exact wA rfl);rw[HKL.o.1];kernel_rfl)|(go_at_call 80;refine HC.o.mono ?_;rintro e z ⟨rfl,hbz⟩;have HB3:=I hbz;clear hbz))
        go_roundg q
        case measure=>omega
        case rel=>exact⟨j+1,by omega,by go_num,HBK.o.trans (HB3.o.mono HBK.o.size),HV2.o.symm⟩
       |false=>
        have HV2:Hid (res= false):=I (HVS.o.trans (Bool.false_and _))
        clear HVS
        go_wp2_with (first|((with_reducible refine za 45 _ rfl ?_ b (o'+j*3) ks _ rfl HKS.o Tryz.underlying45 rfl ?_ ?_);(exact wA rfl);rw[HKL.o.1];kernel_rfl)|(go_at_call 80;refine HC.o.mono ?_;rintro e z ⟨rfl,hbz⟩;have HB3:=I hbz;clear hbz))
        go_ret
        exact⟨z7 HV2.o.symm,HBT.o.trans (HB3.o.mono HBT.o.size)⟩
    ·have m1:((ns.length:Int) ==0)= false:=by rw[beq_eq_false_iff_ne];omega
     have m1':(ns.length ==0)= false:=by simpa using hm0
     have m2:((ns.length:Int) !=0)= true:=by rw[bne_iff_ne];omega
     have HR:Hid (res= false):=I (by rw[HV.o];simp[m1',j1'])
     (try clear hi0);(try clear hm0);(try clear hi1)
     go_enter Tryz.func80,Tryz.ntmps80
     go_upto_region 1 with (fail)
     generalize w.alloc (.cells ⟨[.int .i64 5,.slice NA ns.length nc,.slice A its.length c]⟩ 45)= W at*
     have d0:W.cell? ⟨w.heap.size,0,none⟩= some (.int .i64 5):=by have:=HRG.o 0 _ rfl;simpa using this
     have d1:W.cell? ⟨w.heap.size,1,none⟩= some (.slice NA ns.length nc):=by have:=HRG.o 1 _ rfl;simpa using this
     have d2:W.cell? ⟨w.heap.size,2,none⟩= some (.slice A its.length c):=by have:=HRG.o 2 _ rfl;simpa using this
     go_wp2
     go_ret
     exact⟨z7 HR.o.symm,HW.o⟩
   ·have j1':(its.length ==1)= false:=by simpa using hi1
    have j2:((its.length:Int) !=1)= true:=by rw[bne_iff_ne];omega
    have HR:Hid (res= false):=I (by rw[HV.o];simp[j1'])
    (try clear hi0);(try clear hm0);(try clear hi1)
    go_enter Tryz.func80,Tryz.ntmps80
    go_upto_region 1 with (fail)
    generalize w.alloc (.cells ⟨[.int .i64 5,.slice NA ns.length nc,.slice A its.length c]⟩ 45)= W at*
    have d0:W.cell? ⟨w.heap.size,0,none⟩= some (.int .i64 5):=by have:=HRG.o 0 _ rfl;simpa using this
    have d1:W.cell? ⟨w.heap.size,1,none⟩= some (.slice NA ns.length nc):=by have:=HRG.o 1 _ rfl;simpa using this
    have d2:W.cell? ⟨w.heap.size,2,none⟩= some (.slice A its.length c):=by have:=HRG.o 2 _ rfl;simpa using this
    go_wp2
    go_ret
    exact⟨z7 HR.o.symm,HW.o⟩
  have HO2:=I (HO1.o.trans (if_neg k5))
  clear HO1
  by_cases k6:k= 6
  ·subst k6
   have HV:=I (HO2.o.trans (if_pos rfl))
   clear HO2
   have HNS:=I (fun z (hz:Below w.heap.size w z)=>z5I (.slice NA ns.length nc) ns its.length z ((HN.o.below hz fun _ _ _ h=>h).more hz.size))
   cases hnm:(riseB none ns && (ns.length ==its.length)) with
   |true=>
    have hq:=hnm
    rw[Bool.and_eq_true] at hq
    obtain⟨q1,q2⟩:=hq
    rw[hnm] at HNS
    have HR:Hid (res= z0E its (d+1)):=I (by rw[HV.o,q1,q2];simp)
    clear q1 q2
    (try clear hi0);(try clear hm0);(try clear hi1)
    go_enter Tryz.func80,Tryz.ntmps80
    go_upto_region 1 with (fail)
    generalize w.alloc (.cells ⟨[.int .i64 6,.slice NA ns.length nc,.slice A its.length c]⟩ 45)= W at*
    have d0:W.cell? ⟨w.heap.size,0,none⟩= some (.int .i64 6):=by have:=HRG.o 0 _ rfl;simpa using this
    have d1:W.cell? ⟨w.heap.size,1,none⟩= some (.slice NA ns.length nc):=by have:=HRG.o 1 _ rfl;simpa using this
    have d2:W.cell? ⟨w.heap.size,2,none⟩= some (.slice A its.length c):=by have:=HRG.o 2 _ rfl;simpa using this
    have D5:=I d2
    go_wp2_with (go_at_call 87;refine(HNS.o _ HW.o).mono ?_;rintro e z2 ⟨rfl,hbz⟩;have HB4:=I hbz;clear hbz)
    clear d2
    go_loopg [5] its.length (fun q x u=>∃ j:Nat,j+q= its.length/\x= .int .i64 j/\Below W.heap.size W u/\z0E (its.drop j) (d+1)= res)
    case atStart=>exact⟨0,by omega,rfl,HB4.o,HR.o.symm⟩
    case round=>
     obtain⟨j,hj,rfl,hb,hres⟩:=hrel
     have HR2:=I hres
     have HBK:=I hb
     have d5':=(hb.cell (p:=⟨w.heap.size,2,none⟩) HSZ.o).trans D5.o
     clear hres hb
     cases gk with
     |zero=>
      obtain rfl:j= its.length:=by omega
      have hge: ¬ ((its.length:Int) <(its.length:Int)):=by omega
      have HVE:=I (HR2.o.symm.trans z5f)
      go_wp2
      go_ret
      exact⟨z7 HVE.o.symm,HW.o.trans (HBK.o.mono HW.o.size)⟩
     |succ q=>
      have hlt:(j:Int) <(its.length:Int):=by omega
      obtain⟨x,hx⟩:∃ x,its[j]?= some x:=⟨_,List.getElem?_eq_getElem (by omega)⟩
      obtain⟨b,o',rfl,hbl,hc⟩:=HA.o (by omega)
      obtain⟨ks,hks,hvx⟩:=hc j x hx
      have HVS:=I (HR2.o.symm.trans (z4F hx))
      have HBT:=I (HW.o.trans (HBK.o.mono HW.o.size))
      have HKS:=I (zc hks HBT.o hbl)
      have HKL:=I (zo hvx)
      have HC:=I (IH.o x (List.mem_of_getElem? hx) (far - 1) (d+1) ks wr (by omega) (hvx.next HBT.o))
      have hd1:((far - 1:Nat):Int)=(far:Int) - 1:=by omega
      rw[hd1] at HC
      clear hc hks hvx hx hd1
      generalize zY x (d+1)= rx at*
      cases rx with
      |true=>
       have HV2:=I (HVS.o.trans (Bool.true_and _))
       clear HVS
       go_wp2_with (first|((with_reducible refine za 45 _ rfl ?_ b (o'+j*3) ks _ rfl HKS.o Tryz.underlying45 rfl ?_ ?_);(exact wA rfl);rw[HKL.o.1];kernel_rfl)|(go_at_call 80;refine HC.o.mono ?_;rintro e z ⟨rfl,hbz⟩;have HB3:=I hbz;clear hbz))
       go_roundg q
       case measure=>omega
       case rel=>exact⟨j+1,by omega,by go_num,HBK.o.trans (HB3.o.mono HBK.o.size),HV2.o.symm⟩
      |false=>
       have HV2:Hid (res= false):=I (HVS.o.trans (Bool.false_and _))
       clear HVS
       go_wp2_with (first|((with_reducible refine za 45 _ rfl ?_ b (o'+j*3) ks _ rfl HKS.o Tryz.underlying45 rfl ?_ ?_);(exact wA rfl);rw[HKL.o.1];kernel_rfl)|(go_at_call 80;refine HC.o.mono ?_;rintro e z ⟨rfl,hbz⟩;have HB3:=I hbz;clear hbz))
       go_ret
       exact⟨z7 HV2.o.symm,HBT.o.trans (HB3.o.mono HBT.o.size)⟩
   |false=>
    rw[hnm] at HNS
    have HR:Hid (res= false):=I (by
     rw[HV.o]
     cases h1:riseB none ns with
     |false=>simp
     |true=>rw[h1,Bool.true_and] at hnm;rw[hnm];simp)
    (try clear hi0);(try clear hm0);(try clear hi1)
    go_enter Tryz.func80,Tryz.ntmps80
    go_upto_region 1 with (fail)
    generalize w.alloc (.cells ⟨[.int .i64 6,.slice NA ns.length nc,.slice A its.length c]⟩ 45)= W at*
    have d0:W.cell? ⟨w.heap.size,0,none⟩= some (.int .i64 6):=by have:=HRG.o 0 _ rfl;simpa using this
    have d1:W.cell? ⟨w.heap.size,1,none⟩= some (.slice NA ns.length nc):=by have:=HRG.o 1 _ rfl;simpa using this
    have d2:W.cell? ⟨w.heap.size,2,none⟩= some (.slice A its.length c):=by have:=HRG.o 2 _ rfl;simpa using this
    go_wp2_with (go_at_call 87;refine(HNS.o _ HW.o).mono ?_;rintro e z2 ⟨rfl,hbz⟩;have HB4:=I hbz;clear hbz)
    go_ret
    exact⟨z7 HR.o.symm,HW.o.trans (HB4.o.mono HW.o.size)⟩
  have HO3:=I (HO2.o.trans (if_neg k6))
  clear HO2
  by_cases k1:k= 1
  ·subst k1
   have HV:=I (HO3.o.trans (if_pos (by decide)))
   clear HO3
   by_cases hi0:its.length= 0
   ·have i1:((its.length:Int) ==0)= true:=by rw[hi0];rfl
    have i1':(its.length ==0)= true:=by rw[hi0];rfl
    by_cases hm0:ns.length= 0
    ·have m1:((ns.length:Int) ==0)= true:=by rw[hm0];rfl
     have m1':(ns.length ==0)= true:=by rw[hm0];rfl
     have m2:((ns.length:Int) !=0)= false:=by rw[hm0];rfl
     have HR:Hid (res= true):=I (by rw[HV.o];simp[m1',i1'])
     (try clear hi0);(try clear hm0);(try clear hi1)
     go_enter Tryz.func80,Tryz.ntmps80
     go_upto_region 1 with (fail)
     generalize w.alloc (.cells ⟨[.int .i64 1,.slice NA ns.length nc,.slice A its.length c]⟩ 45)= W at*
     have d0:W.cell? ⟨w.heap.size,0,none⟩= some (.int .i64 1):=by have:=HRG.o 0 _ rfl;simpa using this
     have d1:W.cell? ⟨w.heap.size,1,none⟩= some (.slice NA ns.length nc):=by have:=HRG.o 1 _ rfl;simpa using this
     have d2:W.cell? ⟨w.heap.size,2,none⟩= some (.slice A its.length c):=by have:=HRG.o 2 _ rfl;simpa using this
     go_wp2
     go_ret
     exact⟨z7 HR.o.symm,HW.o⟩
    ·have m1:((ns.length:Int) ==0)= false:=by rw[beq_eq_false_iff_ne];omega
     have m1':(ns.length ==0)= false:=by simpa using hm0
     have m2:((ns.length:Int) !=0)= true:=by rw[bne_iff_ne];omega
     have HR:Hid (res= false):=I (by rw[HV.o];simp[m1',i1'])
     (try clear hi0);(try clear hm0);(try clear hi1)
     go_enter Tryz.func80,Tryz.ntmps80
     go_upto_region 1 with (fail)
     generalize w.alloc (.cells ⟨[.int .i64 1,.slice NA ns.length nc,.slice A its.length c]⟩ 45)= W at*
     have d0:W.cell? ⟨w.heap.size,0,none⟩= some (.int .i64 1):=by have:=HRG.o 0 _ rfl;simpa using this
     have d1:W.cell? ⟨w.heap.size,1,none⟩= some (.slice NA ns.length nc):=by have:=HRG.o 1 _ rfl;simpa using this
     have d2:W.cell? ⟨w.heap.size,2,none⟩= some (.slice A its.length c):=by have:=HRG.o 2 _ rfl;simpa using this
     go_wp2
     go_ret
     exact⟨z7 HR.o.symm,HW.o⟩
   ·have i1:((its.length:Int) ==0)= false:=by rw[beq_eq_false_iff_ne];omega
    have i1':(its.length ==0)= false:=by simpa using hi0
    have HR:Hid (res= false):=I (by rw[HV.o];simp[i1'])
    (try clear hi0);(try clear hm0);(try clear hi1)
    go_enter Tryz.func80,Tryz.ntmps80
    go_upto_region 1 with (fail)
    generalize w.alloc (.cells ⟨[.int .i64 1,.slice NA ns.length nc,.slice A its.length c]⟩ 45)= W at*
    have d0:W.cell? ⟨w.heap.size,0,none⟩= some (.int .i64 1):=by have:=HRG.o 0 _ rfl;simpa using this
    have d1:W.cell? ⟨w.heap.size,1,none⟩= some (.slice NA ns.length nc):=by have:=HRG.o 1 _ rfl;simpa using this
    have d2:W.cell? ⟨w.heap.size,2,none⟩= some (.slice A its.length c):=by have:=HRG.o 2 _ rfl;simpa using this
    go_wp2
    go_ret
    exact⟨z7 HR.o.symm,HW.o⟩
  by_cases k2:k= 2
  ·subst k2
   have HV:=I (HO3.o.trans (if_pos (by decide)))
   clear HO3
   by_cases hi0:its.length= 0
   ·have i1:((its.length:Int) ==0)= true:=by rw[hi0];rfl
    have i1':(its.length ==0)= true:=by rw[hi0];rfl
    by_cases hm0:ns.length= 0
    ·have m1:((ns.length:Int) ==0)= true:=by rw[hm0];rfl
     have m1':(ns.length ==0)= true:=by rw[hm0];rfl
     have m2:((ns.length:Int) !=0)= false:=by rw[hm0];rfl
     have HR:Hid (res= true):=I (by rw[HV.o];simp[m1',i1'])
     (try clear hi0);(try clear hm0);(try clear hi1)
     go_enter Tryz.func80,Tryz.ntmps80
     go_upto_region 1 with (fail)
     generalize w.alloc (.cells ⟨[.int .i64 2,.slice NA ns.length nc,.slice A its.length c]⟩ 45)= W at*
     have d0:W.cell? ⟨w.heap.size,0,none⟩= some (.int .i64 2):=by have:=HRG.o 0 _ rfl;simpa using this
     have d1:W.cell? ⟨w.heap.size,1,none⟩= some (.slice NA ns.length nc):=by have:=HRG.o 1 _ rfl;simpa using this
     have d2:W.cell? ⟨w.heap.size,2,none⟩= some (.slice A its.length c):=by have:=HRG.o 2 _ rfl;simpa using this
     go_wp2
     go_ret
     exact⟨z7 HR.o.symm,HW.o⟩
    ·have m1:((ns.length:Int) ==0)= false:=by rw[beq_eq_false_iff_ne];omega
     have m1':(ns.length ==0)= false:=by simpa using hm0
     have m2:((ns.length:Int) !=0)= true:=by rw[bne_iff_ne];omega
     have HR:Hid (res= false):=I (by rw[HV.o];simp[m1',i1'])
     (try clear hi0);(try clear hm0);(try clear hi1)
     go_enter Tryz.func80,Tryz.ntmps80
     go_upto_region 1 with (fail)
     generalize w.alloc (.cells ⟨[.int .i64 2,.slice NA ns.length nc,.slice A its.length c]⟩ 45)= W at*
     have d0:W.cell? ⟨w.heap.size,0,none⟩= some (.int .i64 2):=by have:=HRG.o 0 _ rfl;simpa using this
     have d1:W.cell? ⟨w.heap.size,1,none⟩= some (.slice NA ns.length nc):=by have:=HRG.o 1 _ rfl;simpa using this
     have d2:W.cell? ⟨w.heap.size,2,none⟩= some (.slice A its.length c):=by have:=HRG.o 2 _ rfl;simpa using this
     go_wp2
     go_ret
     exact⟨z7 HR.o.symm,HW.o⟩
   ·have i1:((its.length:Int) ==0)= false:=by rw[beq_eq_false_iff_ne];omega
    have i1':(its.length ==0)= false:=by simpa using hi0
    have HR:Hid (res= false):=I (by rw[HV.o];simp[i1'])
    (try clear hi0);(try clear hm0);(try clear hi1)
    go_enter Tryz.func80,Tryz.ntmps80
    go_upto_region 1 with (fail)
    generalize w.alloc (.cells ⟨[.int .i64 2,.slice NA ns.length nc,.slice A its.length c]⟩ 45)= W at*
    have d0:W.cell? ⟨w.heap.size,0,none⟩= some (.int .i64 2):=by have:=HRG.o 0 _ rfl;simpa using this
    have d1:W.cell? ⟨w.heap.size,1,none⟩= some (.slice NA ns.length nc):=by have:=HRG.o 1 _ rfl;simpa using this
    have d2:W.cell? ⟨w.heap.size,2,none⟩= some (.slice A its.length c):=by have:=HRG.o 2 _ rfl;simpa using this
    go_wp2
    go_ret
    exact⟨z7 HR.o.symm,HW.o⟩
  by_cases k3:k= 3
  ·subst k3
   have HV:=I (HO3.o.trans (if_pos (by decide)))
   clear HO3
   by_cases hi0:its.length= 0
   ·have i1:((its.length:Int) ==0)= true:=by rw[hi0];rfl
    have i1':(its.length ==0)= true:=by rw[hi0];rfl
    by_cases hm0:ns.length= 0
    ·have m1:((ns.length:Int) ==0)= true:=by rw[hm0];rfl
     have m1':(ns.length ==0)= true:=by rw[hm0];rfl
     have m2:((ns.length:Int) !=0)= false:=by rw[hm0];rfl
     have HR:Hid (res= true):=I (by rw[HV.o];simp[m1',i1'])
     (try clear hi0);(try clear hm0);(try clear hi1)
     go_enter Tryz.func80,Tryz.ntmps80
     go_upto_region 1 with (fail)
     generalize w.alloc (.cells ⟨[.int .i64 3,.slice NA ns.length nc,.slice A its.length c]⟩ 45)= W at*
     have d0:W.cell? ⟨w.heap.size,0,none⟩= some (.int .i64 3):=by have:=HRG.o 0 _ rfl;simpa using this
     have d1:W.cell? ⟨w.heap.size,1,none⟩= some (.slice NA ns.length nc):=by have:=HRG.o 1 _ rfl;simpa using this
     have d2:W.cell? ⟨w.heap.size,2,none⟩= some (.slice A its.length c):=by have:=HRG.o 2 _ rfl;simpa using this
     go_wp2
     go_ret
     exact⟨z7 HR.o.symm,HW.o⟩
    ·have m1:((ns.length:Int) ==0)= false:=by rw[beq_eq_false_iff_ne];omega
     have m1':(ns.length ==0)= false:=by simpa using hm0
     have m2:((ns.length:Int) !=0)= true:=by rw[bne_iff_ne];omega
     have HR:Hid (res= false):=I (by rw[HV.o];simp[m1',i1'])
     (try clear hi0);(try clear hm0);(try clear hi1)
     go_enter Tryz.func80,Tryz.ntmps80
     go_upto_region 1 with (fail)
     generalize w.alloc (.cells ⟨[.int .i64 3,.slice NA ns.length nc,.slice A its.length c]⟩ 45)= W at*
     have d0:W.cell? ⟨w.heap.size,0,none⟩= some (.int .i64 3):=by have:=HRG.o 0 _ rfl;simpa using this
     have d1:W.cell? ⟨w.heap.size,1,none⟩= some (.slice NA ns.length nc):=by have:=HRG.o 1 _ rfl;simpa using this
     have d2:W.cell? ⟨w.heap.size,2,none⟩= some (.slice A its.length c):=by have:=HRG.o 2 _ rfl;simpa using this
     go_wp2
     go_ret
     exact⟨z7 HR.o.symm,HW.o⟩
   ·have i1:((its.length:Int) ==0)= false:=by rw[beq_eq_false_iff_ne];omega
    have i1':(its.length ==0)= false:=by simpa using hi0
    have HR:Hid (res= false):=I (by rw[HV.o];simp[i1'])
    (try clear hi0);(try clear hm0);(try clear hi1)
    go_enter Tryz.func80,Tryz.ntmps80
    go_upto_region 1 with (fail)
    generalize w.alloc (.cells ⟨[.int .i64 3,.slice NA ns.length nc,.slice A its.length c]⟩ 45)= W at*
    have d0:W.cell? ⟨w.heap.size,0,none⟩= some (.int .i64 3):=by have:=HRG.o 0 _ rfl;simpa using this
    have d1:W.cell? ⟨w.heap.size,1,none⟩= some (.slice NA ns.length nc):=by have:=HRG.o 1 _ rfl;simpa using this
    have d2:W.cell? ⟨w.heap.size,2,none⟩= some (.slice A its.length c):=by have:=HRG.o 2 _ rfl;simpa using this
    go_wp2
    go_ret
    exact⟨z7 HR.o.symm,HW.o⟩
  by_cases k4:k= 4
  ·subst k4
   have HV:=I (HO3.o.trans (if_pos (by decide)))
   clear HO3
   by_cases hi0:its.length= 0
   ·have i1:((its.length:Int) ==0)= true:=by rw[hi0];rfl
    have i1':(its.length ==0)= true:=by rw[hi0];rfl
    by_cases hm0:ns.length= 0
    ·have m1:((ns.length:Int) ==0)= true:=by rw[hm0];rfl
     have m1':(ns.length ==0)= true:=by rw[hm0];rfl
     have m2:((ns.length:Int) !=0)= false:=by rw[hm0];rfl
     have HR:Hid (res= true):=I (by rw[HV.o];simp[m1',i1'])
     (try clear hi0);(try clear hm0);(try clear hi1)
     go_enter Tryz.func80,Tryz.ntmps80
     go_upto_region 1 with (fail)
     generalize w.alloc (.cells ⟨[.int .i64 4,.slice NA ns.length nc,.slice A its.length c]⟩ 45)= W at*
     have d0:W.cell? ⟨w.heap.size,0,none⟩= some (.int .i64 4):=by have:=HRG.o 0 _ rfl;simpa using this
     have d1:W.cell? ⟨w.heap.size,1,none⟩= some (.slice NA ns.length nc):=by have:=HRG.o 1 _ rfl;simpa using this
     have d2:W.cell? ⟨w.heap.size,2,none⟩= some (.slice A its.length c):=by have:=HRG.o 2 _ rfl;simpa using this
     go_wp2
     go_ret
     exact⟨z7 HR.o.symm,HW.o⟩
    ·have m1:((ns.length:Int) ==0)= false:=by rw[beq_eq_false_iff_ne];omega
     have m1':(ns.length ==0)= false:=by simpa using hm0
     have m2:((ns.length:Int) !=0)= true:=by rw[bne_iff_ne];omega
     have HR:Hid (res= false):=I (by rw[HV.o];simp[m1',i1'])
     (try clear hi0);(try clear hm0);(try clear hi1)
     go_enter Tryz.func80,Tryz.ntmps80
     go_upto_region 1 with (fail)
     generalize w.alloc (.cells ⟨[.int .i64 4,.slice NA ns.length nc,.slice A its.length c]⟩ 45)= W at*
     have d0:W.cell? ⟨w.heap.size,0,none⟩= some (.int .i64 4):=by have:=HRG.o 0 _ rfl;simpa using this
     have d1:W.cell? ⟨w.heap.size,1,none⟩= some (.slice NA ns.length nc):=by have:=HRG.o 1 _ rfl;simpa using this
     have d2:W.cell? ⟨w.heap.size,2,none⟩= some (.slice A its.length c):=by have:=HRG.o 2 _ rfl;simpa using this
     go_wp2
     go_ret
     exact⟨z7 HR.o.symm,HW.o⟩
   ·have i1:((its.length:Int) ==0)= false:=by rw[beq_eq_false_iff_ne];omega
    have i1':(its.length ==0)= false:=by simpa using hi0
    have HR:Hid (res= false):=I (by rw[HV.o];simp[i1'])
    (try clear hi0);(try clear hm0);(try clear hi1)
    go_enter Tryz.func80,Tryz.ntmps80
    go_upto_region 1 with (fail)
    generalize w.alloc (.cells ⟨[.int .i64 4,.slice NA ns.length nc,.slice A its.length c]⟩ 45)= W at*
    have d0:W.cell? ⟨w.heap.size,0,none⟩= some (.int .i64 4):=by have:=HRG.o 0 _ rfl;simpa using this
    have d1:W.cell? ⟨w.heap.size,1,none⟩= some (.slice NA ns.length nc):=by have:=HRG.o 1 _ rfl;simpa using this
    have d2:W.cell? ⟨w.heap.size,2,none⟩= some (.slice A its.length c):=by have:=HRG.o 2 _ rfl;simpa using this
    go_wp2
    go_ret
    exact⟨z7 HR.o.symm,HW.o⟩
  by_cases k7:k= 7
  ·subst k7
   have HV:=I (HO3.o.trans (if_pos (by decide)))
   clear HO3
   by_cases hi0:its.length= 0
   ·have i1:((its.length:Int) ==0)= true:=by rw[hi0];rfl
    have i1':(its.length ==0)= true:=by rw[hi0];rfl
    by_cases hm0:ns.length= 0
    ·have m1:((ns.length:Int) ==0)= true:=by rw[hm0];rfl
     have m1':(ns.length ==0)= true:=by rw[hm0];rfl
     have m2:((ns.length:Int) !=0)= false:=by rw[hm0];rfl
     have HR:Hid (res= true):=I (by rw[HV.o];simp[m1',i1'])
     (try clear hi0);(try clear hm0);(try clear hi1)
     go_enter Tryz.func80,Tryz.ntmps80
     go_upto_region 1 with (fail)
     generalize w.alloc (.cells ⟨[.int .i64 7,.slice NA ns.length nc,.slice A its.length c]⟩ 45)= W at*
     have d0:W.cell? ⟨w.heap.size,0,none⟩= some (.int .i64 7):=by have:=HRG.o 0 _ rfl;simpa using this
     have d1:W.cell? ⟨w.heap.size,1,none⟩= some (.slice NA ns.length nc):=by have:=HRG.o 1 _ rfl;simpa using this
     have d2:W.cell? ⟨w.heap.size,2,none⟩= some (.slice A its.length c):=by have:=HRG.o 2 _ rfl;simpa using this
     go_wp2
     go_ret
     exact⟨z7 HR.o.symm,HW.o⟩
    ·have m1:((ns.length:Int) ==0)= false:=by rw[beq_eq_false_iff_ne];omega
     have m1':(ns.length ==0)= false:=by simpa using hm0
     have m2:((ns.length:Int) !=0)= true:=by rw[bne_iff_ne];omega
     have HR:Hid (res= false):=I (by rw[HV.o];simp[m1',i1'])
     (try clear hi0);(try clear hm0);(try clear hi1)
     go_enter Tryz.func80,Tryz.ntmps80
     go_upto_region 1 with (fail)
     generalize w.alloc (.cells ⟨[.int .i64 7,.slice NA ns.length nc,.slice A its.length c]⟩ 45)= W at*
     have d0:W.cell? ⟨w.heap.size,0,none⟩= some (.int .i64 7):=by have:=HRG.o 0 _ rfl;simpa using this
     have d1:W.cell? ⟨w.heap.size,1,none⟩= some (.slice NA ns.length nc):=by have:=HRG.o 1 _ rfl;simpa using this
     have d2:W.cell? ⟨w.heap.size,2,none⟩= some (.slice A its.length c):=by have:=HRG.o 2 _ rfl;simpa using this
     go_wp2
     go_ret
     exact⟨z7 HR.o.symm,HW.o⟩
   ·have i1:((its.length:Int) ==0)= false:=by rw[beq_eq_false_iff_ne];omega
    have i1':(its.length ==0)= false:=by simpa using hi0
    have HR:Hid (res= false):=I (by rw[HV.o];simp[i1'])
    (try clear hi0);(try clear hm0);(try clear hi1)
    go_enter Tryz.func80,Tryz.ntmps80
    go_upto_region 1 with (fail)
    generalize w.alloc (.cells ⟨[.int .i64 7,.slice NA ns.length nc,.slice A its.length c]⟩ 45)= W at*
    have d0:W.cell? ⟨w.heap.size,0,none⟩= some (.int .i64 7):=by have:=HRG.o 0 _ rfl;simpa using this
    have d1:W.cell? ⟨w.heap.size,1,none⟩= some (.slice NA ns.length nc):=by have:=HRG.o 1 _ rfl;simpa using this
    have d2:W.cell? ⟨w.heap.size,2,none⟩= some (.slice A its.length c):=by have:=HRG.o 2 _ rfl;simpa using this
    go_wp2
    go_ret
    exact⟨z7 HR.o.symm,HW.o⟩
  have HR:=I (HO3.o.trans (if_neg (by omega)))
  clear HO3
  by_cases k0:k < 1
  ·have c1:decide (k < 1)= true:=decide_eq_true k0
   clear k1 k2 k3 k4 k5 k6 k7 k0
   (try clear hi0);(try clear hm0);(try clear hi1)
   go_enter Tryz.func80,Tryz.ntmps80
   go_upto_region 1 with (fail)
   generalize w.alloc (.cells ⟨[.int .i64 k,.slice NA ns.length nc,.slice A its.length c]⟩ 45)= W at*
   have d0:W.cell? ⟨w.heap.size,0,none⟩= some (.int .i64 k):=by have:=HRG.o 0 _ rfl;simpa using this
   have d1:W.cell? ⟨w.heap.size,1,none⟩= some (.slice NA ns.length nc):=by have:=HRG.o 1 _ rfl;simpa using this
   have d2:W.cell? ⟨w.heap.size,2,none⟩= some (.slice A its.length c):=by have:=HRG.o 2 _ rfl;simpa using this
   go_wp2
   go_ret
   exact⟨z7 HR.o.symm,HW.o⟩
  ·have c1:decide (k < 1)= false:=decide_eq_false k0
   have c2:decide (7 < k)= true:=decide_eq_true (by omega)
   clear k1 k2 k3 k4 k5 k6 k7 k0
   (try clear hi0);(try clear hm0);(try clear hi1)
   go_enter Tryz.func80,Tryz.ntmps80
   go_upto_region 1 with (fail)
   generalize w.alloc (.cells ⟨[.int .i64 k,.slice NA ns.length nc,.slice A its.length c]⟩ 45)= W at*
   have d0:W.cell? ⟨w.heap.size,0,none⟩= some (.int .i64 k):=by have:=HRG.o 0 _ rfl;simpa using this
   have d1:W.cell? ⟨w.heap.size,1,none⟩= some (.slice NA ns.length nc):=by have:=HRG.o 1 _ rfl;simpa using this
   have d2:W.cell? ⟨w.heap.size,2,none⟩= some (.slice A its.length c):=by have:=HRG.o 2 _ rfl;simpa using this
   go_wp2
   go_ret
   exact⟨z7 HR.o.symm,HW.o⟩
theorem z1N (t:TT) (cs:List Value) (w:World) (hv:TypAt w w.heap.size cs t):Calls Tryz.prog 43 #[.agg ⟨cs⟩] w fun e w'=>e= .returned (.bool (decide (cntT t 0<=200) && zY t 1))/\Below w.heap.size w w':=by
 have HB1:=I (zd w (.cells ⟨cs⟩ 45))
 have HS1:=I (zw w (.cells ⟨cs⟩ 45))
 have HR1:=I (zv w cs 45)
 have HL:=I (zo hv)
 have HV:=I (hv.next HB1.o)
 clear hv
 go_enter Tryz.func43,Tryz.ntmps43
 go_upto_region 1 with (fail)
 generalize w.alloc (.cells ⟨cs⟩ 45)= W at*
 have HP:=I (z5y t cs W HV.o)
 by_cases hc:cntT t 0<=200
 ·have t1:((cntT t 0:Nat):Int)<=200:=by omega
  have HD:Hid ((decide (cntT t 0<=200) && zY t 1)= zY t 1):=I (by rw[decide_eq_true hc];exact Bool.true_and _)
  go_wp2_with (first|((with_reducible refine za 45 _ rfl ?_ w.heap.size 0 cs _ rfl HR1.o Tryz.underlying45 rfl ?_ ?_);(exact wA rfl);rw[HL.o.1];kernel_rfl)|(go_at_call 51;refine HP.o.mono ?_;rintro e z ⟨rfl,hbz⟩;have HB2:=I hbz;have HR2:=I (zc HR1.o hbz HS1.o);clear hbz)|((with_reducible refine za 45 _ rfl ?_ w.heap.size 0 cs _ rfl HR2.o Tryz.underlying45 rfl ?_ ?_);(exact wA rfl);rw[HL.o.1];kernel_rfl)|(go_at_call 80;refine(z9e t 12 1 cs _ (by decide) (HV.o.next HB2.o)).mono ?_;rintro e z2 ⟨rfl,hbz⟩;have HB3:=I hbz;clear hbz))
  go_ret
  exact⟨z7 HD.o.symm,HB1.o.trans ((HB2.o.trans (HB3.o.mono HB2.o.size)).mono HB1.o.size)⟩
 ·have t1: ¬ (((cntT t 0:Nat):Int)<=200):=by omega
  have HD:Hid ((decide (cntT t 0<=200) && zY t 1)= false):=I (by rw[decide_eq_false hc];exact Bool.false_and _)
  go_wp2_with (first|((with_reducible refine za 45 _ rfl ?_ w.heap.size 0 cs _ rfl HR1.o Tryz.underlying45 rfl ?_ ?_);(exact wA rfl);rw[HL.o.1];kernel_rfl)|(go_at_call 51;refine HP.o.mono ?_;rintro e z ⟨rfl,hbz⟩;have HB2:=I hbz;clear hbz))
  go_ret
  first|exact⟨z7 HD.o.symm,HB1.o.trans (HB2.o.mono HB1.o.size)⟩|exact⟨rfl,HB1.o.trans (HB2.o.mono HB1.o.size)⟩
end
section
open Go Go.RowKit
theorem za1 (a b:ByteArray) (w:World):Calls Tryz.prog 78 #[.string a,.string b] w fun e w'=>e= .returned (.int .i64 (cmpS a b))/\w'= w:=by
 obtain⟨h1,h2⟩:=z2K a.data.toList b.data.toList
 obtain⟨k1,k2⟩:=z2K b.data.toList a.data.toList
 have h3:=z1y a.data.toList b.data.toList
 have h4:=z2n a.data.toList b.data.toList
 rw[← toList_eq,← toList_eq] at h1 h2 h3 k1 k2 h4
 have hc:cmpS a b= Lib.compareBytes a.toList b.toList:=by unfold cmpS;rw[toList_eq,toList_eq]
 rw[hc]
 rcases h3 with h|h|h
 ·rw[h]
  have t1:Op.bytesLess a.toList b.toList= true:=h1.2 h
  clear h1 h2 k1 k2 h4 hc h
  go_enter Tryz.func78,Tryz.ntmps78
  go_wp2
  go_ret
  exact⟨rfl,rfl⟩
 ·rw[h]
  have t1:Op.bytesLess a.toList b.toList= false:=by rw[Bool.eq_false_iff];intro e;have:=h1.1 e;omega
  have t2:Op.bytesLess b.toList a.toList= false:=by rw[Bool.eq_false_iff];intro e;have:=k1.1 e;omega
  have t3:(a.toList ==b.toList)= true:=h2.2 h
  clear h1 h2 k1 k2 h4 hc h
  go_enter Tryz.func78,Tryz.ntmps78
  go_wp2
  go_ret
  exact⟨rfl,rfl⟩
 ·rw[h]
  have t1:Op.bytesLess a.toList b.toList= false:=by rw[Bool.eq_false_iff];intro e;have:=h1.1 e;omega
  have t2:Op.bytesLess b.toList a.toList= true:=k1.2 (by omega)
  have t3:(a.toList ==b.toList)= false:=by rw[Bool.eq_false_iff];intro e;have:=h2.1 e;omega
  clear h1 h2 k1 k2 h4 hc h
  go_enter Tryz.func78,Tryz.ntmps78
  go_wp2
  go_ret
  exact⟨rfl,rfl⟩
theorem zbq (a b:Int) (w:World):Calls Tryz.prog 76 #[.int .i64 a,.int .i64 b] w fun e w'=>e= .returned (.int .i64 (cmpI a b))/\w'= w:=by
 rcases z0R a b with ⟨h,k⟩|⟨h,k⟩|⟨h,k⟩
 ·rw[h]
  go_enter Tryz.func76,Tryz.ntmps76
  go_wp2
  go_ret
  exact⟨rfl,rfl⟩
 ·rw[h]
  have t1: ¬ (a < b):=by omega
  have t2: ¬ (b < a):=by omega
  clear k h
  go_enter Tryz.func76,Tryz.ntmps76
  go_wp2
  go_ret
  exact⟨rfl,rfl⟩
 ·rw[h]
  have t1: ¬ (a < b):=by omega
  go_enter Tryz.func76,Tryz.ntmps76
  go_wp2
  go_ret
  exact⟨rfl,rfl⟩
theorem z9q {α:Type} {f:α->α->Int} {l r:List α} {k:Nat} (hl:k<=l.length) (hr:k<=r.length) (h:k= l.length\/k= r.length):listC f (l.drop k) (r.drop k)= cmpI l.length r.length:=by
 unfold cmpI
 by_cases h1:l.length < r.length
 ·rw[if_pos (by omega),z4d (by omega) (by omega)]
 ·rw[if_neg (by omega)]
  by_cases h2:r.length < l.length
  ·rw[if_pos (by omega)]
   obtain⟨x,hx⟩:∃ x,l[k]?= some x:=⟨_,List.getElem?_eq_getElem (by omega)⟩
   exact z3g hx (by omega)
  ·rw[if_neg (by omega),z3y (by omega) (by omega)]
theorem z6B {a b:ByteArray}:cmpS a b= 0↔a= b:=by
 obtain⟨_,h2⟩:=z2K a.data.toList b.data.toList
 have h3:(a.data.toList ==b.data.toList)= true↔a= b:=by
  rw[beq_iff_eq]
  constructor
  ·intro h
   cases a with|mk x=>cases b with|mk y=>exact congrArg ByteArray.mk (Array.toList_inj.1 h)
  ·rintro rfl;rfl
 exact⟨fun h=>h3.1 (h2.2 h),fun h=>h2.1 (h3.2 h)⟩
theorem z32:∀ {l r:List ByteArray},listC cmpS l r= 0↔l= r
 |[],[]=>by simp[listC]
 |[],_::_=>by simp[listC]
 |_::_,[]=>by simp[listC]
 |a::l,b::r=>by
  unfold listC
  by_cases h:cmpS a b= 0
  ·rw[if_neg (fun k=>k h),z32,z6B.1 h];simp
  ·rw[if_pos h]
   constructor
   ·intro k;exact absurd k h
   ·intro k;injection k with k1 k2;exact absurd (z6B.2 k1) h
theorem z9Z (u v:Value) (l r:List ByteArray) (w:World) (hu:SlAt w w.heap.size 1 StrR u l) (hv:SlAt w w.heap.size 1 StrR v r):
  Calls Tryz.prog 79 #[u,v] w fun e w'=>e= .returned (.int .i64 (listC cmpS l r))/\∃ m,w'= w.drewN m:=by
 obtain⟨_,A,ca,rfl,_⟩:=id hu
 obtain⟨_,D,cb,rfl,_⟩:=id hv
 obtain⟨_,hl,ha⟩:=z1J hu
 obtain⟨_,hr,hb⟩:=z1J hv
 have HA:=I ha
 have HB:=I hb
 have HS:=I (fun k x y=>z36 (f:=cmpS) (l:=l) (r:=r) (k:=k) (x:=x) (y:=y))
 have HT:=I (fun k=>z9q (f:=cmpS) (l:=l) (r:=r) (k:=k))
 have H0:Hid (listC cmpS (l.drop 0) (r.drop 0)= listC cmpS l r):=I rfl
 have HSG:=I (fun z=>zbq (l.length:Int) (r.length:Int) z)
 have hl2:(l.length:Int)<=9223372036854775807:=by omega
 have hr2:(r.length:Int)<=9223372036854775807:=by omega
 clear ha hb hu hv
 generalize listC cmpS l r= res at*
 go_enter Tryz.func79,Tryz.ntmps79
 go_wp2
 go_loopg [5] l.length (fun q x u=>∃ k m:Nat,k+q= l.length/\k<=r.length/\x= .int .i64 k/\u= w.drewN m/\listC cmpS (l.drop k) (r.drop k)= res)
 case atStart=>exact⟨0,0,by omega,by omega,rfl,rfl,H0.o⟩
 case round=>
  obtain⟨k,m,hk,hkr,rfl,rfl,hres⟩:=hrel
  have HR:=I hres
  clear hres
  cases gk with
  |zero=>
   obtain rfl:k= l.length:=by omega
   have hge: ¬ ((l.length:Int) <(l.length:Int)):=by omega
   have HV:=I ((HR.o).symm.trans (HT.o l.length (Nat.le_refl _) hkr (.inl rfl)))
   rw[← HV.o] at HSG
   clear HR
   go_wp2_with (go_at_call 76;refine(HSG.o _).mono ?_;rintro e z ⟨rfl,rfl⟩)
   go_ret
   exact⟨rfl,_,rfl⟩
  |succ q=>
   have hlt:(k:Int) <(l.length:Int):=by omega
   by_cases hkr2:k < r.length
   ·have hlt2:(k:Int) <(r.length:Int):=by omega
    obtain⟨x,hx⟩:∃ x,l[k]?= some x:=⟨_,List.getElem?_eq_getElem (by omega)⟩
    obtain⟨y,hy⟩:∃ y,r[k]?= some y:=⟨_,List.getElem?_eq_getElem hkr2⟩
    obtain⟨b1,o1,rfl,_,c1⟩:=HA.o (by omega)
    obtain⟨b2,o2,rfl,_,c2⟩:=HB.o (by omega)
    obtain⟨wm,hwm⟩:∃ wm,w.drewN m= wm:=⟨_,rfl⟩
    have d1:wm.cell? ⟨b1,o1+k,none⟩= some (.string x):=by rw[← hwm];exact(c1 k x hx).1
    have d2:wm.cell? ⟨b2,o2+k,none⟩= some (.string y):=by rw[← hwm];exact(c2 k y hy).1
    have HDM:Hid (∀ q,∃ m',wm.drewN q= w.drewN m'):=I fun q=>⟨m+q,by rw[← hwm,World.drewN_drewN]⟩
    rw[hwm]
    have HV:=I ((HR.o).symm.trans (HS.o k x y hx hy))
    have HC:=I (fun w=>za1 x y w)
    clear c1 c2 hx hy hkr hwm
    generalize cmpS x y= cv at*
    by_cases hc:cv= 0
    ·subst hc
     have HV2:=I (HV.o.trans (if_neg (fun h=>h rfl)))
     clear HV
     go_upto_region 4 with (fail)
     go_quiet ((go_at_call 78;exact Calls.quiet_of_same (HC.o _)))
     obtain⟨m',hm'⟩:=HDM.o nq
     rw[hm']
     go_wp2
     go_roundg q
     case measure=>omega
     case rel=>exact⟨k+1,_,by omega,by omega,by go_num,rfl,HV2.o.symm⟩
    ·have HV2:=I (HV.o.trans (if_pos hc))
     have t2:(cv !=0)= true:=by simpa using hc
     clear HV hc
     go_upto_region 4 with (fail)
     go_quiet ((go_at_call 78;exact Calls.quiet_of_same (HC.o _)))
     obtain⟨m',hm'⟩:=HDM.o nq
     rw[hm']
     go_wp2
     go_ret
     exact⟨z04 HV2.o.symm,_,rfl⟩
   ·have HV:=I ((HR.o).symm.trans (HT.o k (by omega) hkr (.inr (by omega))))
    have hge: ¬ ((k:Int) <(r.length:Int)):=by omega
    rw[← HV.o] at HSG
    clear HR hkr hkr2
    go_wp2_with (go_at_call 76;refine(HSG.o _).mono ?_;rintro e z ⟨rfl,rfl⟩)
    go_ret
    exact⟨rfl,_,rfl⟩
end
section
open Go Go.RowKit
mutual
def fitsV:VT->TT->Bool
 | .mk k n f s ns its,.mk k' ns' ts=>(k ==k') && (if k= 5 then fitsA its ts else if k= 6 then decide (ns= ns') && fitsL its ts else true)
def fitsA:List VT->List TT->Bool
 |[],_=>true
 |a::l,t::r=>fitsV a t && fitsA l (t::r)
 |_::_,[]=>true
def fitsL:List VT->List TT->Bool
 |[],_=>true
 |a::l,t::r=>fitsV a t && fitsL l r
 |_::_,[]=>true
end
theorem z92 {l:List VT} {r:List TT} {k:Nat} {x:VT} {t:TT} (hx:l[k]?= some x) (ht:r[0]?= some t):fitsA (l.drop k) r=(fitsV x t && fitsA (l.drop (k+1)) r):=by
 cases r with
 |nil=>simp at ht
 |cons y r=>
  obtain rfl:y= t:=by simpa using ht
  rw[z0e hx,fitsA]
theorem zbH {l:List VT} {r:List TT}:fitsA (l.drop l.length) r= true:=by
 rw[List.drop_eq_nil_of_le (Nat.le_refl _),fitsA]
theorem z9y {l:List VT} {r:List TT} {k:Nat} {x:VT} {t:TT} (hx:l[k]?= some x) (ht:r[k]?= some t):fitsL (l.drop k) (r.drop k)=(fitsV x t && fitsL (l.drop (k+1)) (r.drop (k+1))):=by
 rw[z0e hx,z0e ht,fitsL]
theorem zap {l:List VT} {r:List TT}:fitsL (l.drop l.length) (r.drop l.length)= true:=by
 rw[List.drop_eq_nil_of_le (Nat.le_refl _),fitsL]
theorem z3v:∀ {l:List VT} {d:Nat},zF l d= true->∀ x∈l,zm x d= true
 |[],_,_,x,hx=>by cases hx
 |a::l,d,h,x,hx=>by
  rw[zF,Bool.and_eq_true] at h
  rcases List.mem_cons.1 hx with rfl|hx
  ·exact h.1
  ·exact z3v h.2 x hx
theorem z1K:∀ {l:List TT} {d:Nat},z0E l d= true->∀ x∈l,zY x d= true
 |[],_,_,x,hx=>by cases hx
 |a::l,d,h,x,hx=>by
  rw[z0E,Bool.and_eq_true] at h
  rcases List.mem_cons.1 hx with rfl|hx
  ·exact h.1
  ·exact z1K h.2 x hx
theorem z5R {n:Int} {f:Nat} {s:ByteArray} {ns:List ByteArray} {its:List VT} {d:Nat} (h:zm (.mk 5 n f s ns its) d= true):∀ x∈its,zm x (d+1)= true:=by
 rw[zm] at h
 by_cases hd:12 < d
 ·rw[if_pos hd] at h;cases h
 ·rw[if_neg hd] at h
  simp only[show ¬ ((5:Int)= 1) by decide,show ¬ ((5:Int)= 2) by decide,show ¬ ((5:Int)= 3) by decide,show ¬ ((5:Int)= 4) by decide,show ¬ ((5:Int)= 6) by decide,if_false,if_true,Bool.and_eq_true] at h
  exact z3v h.2.2
theorem z44 {n:Int} {f:Nat} {s:ByteArray} {ns:List ByteArray} {its:List VT} {d:Nat} (h:zm (.mk 6 n f s ns its) d= true):ns.length= its.length/\∀ x∈its,zm x (d+1)= true:=by
 rw[zm] at h
 by_cases hd:12 < d
 ·rw[if_pos hd] at h;cases h
 ·rw[if_neg hd] at h
  simp only[show ¬ ((6:Int)= 1) by decide,show ¬ ((6:Int)= 2) by decide,show ¬ ((6:Int)= 3) by decide,show ¬ ((6:Int)= 4) by decide,if_false,if_true,Bool.and_eq_true,beq_iff_eq] at h
  exact⟨h.1,z3v h.2.2.2⟩
theorem z5w {n:Int} {f:Nat} {s:ByteArray} {ns:List ByteArray} {its:List VT} {d:Nat}:zm (.mk 7 n f s ns its) d= false:=by
 rw[zm]
 simp
theorem z1q {ns:List ByteArray} {its:List TT} {d:Nat} (h:zY (.mk 5 ns its) d= true):its.length= 1/\∀ x∈its,zY x (d+1)= true:=by
 rw[zY] at h
 by_cases hd:12 < d
 ·rw[if_pos hd] at h;cases h
 ·rw[if_neg hd,if_pos rfl] at h
  simp only[Bool.and_eq_true,beq_iff_eq] at h
  exact⟨h.1,z1K h.2.2⟩
theorem z2O {ns:List ByteArray} {its:List TT} {d:Nat} (h:zY (.mk 6 ns its) d= true):ns.length= its.length/\∀ x∈its,zY x (d+1)= true:=by
 rw[zY] at h
 by_cases hd:12 < d
 ·rw[if_pos hd] at h;cases h
 ·rw[if_neg hd,if_neg (by decide),if_pos rfl] at h
  simp only[Bool.and_eq_true,beq_iff_eq] at h
  exact⟨h.1,z1K h.2.2⟩
end
section
open Go Go.RowKit
theorem zbu:∀ (x:VT) (t:TT) (d e:Nat) (cs cs':List Value) (w:World),zm x d= true->zY t e= true->ValAt w w.heap.size cs x->TypAt w w.heap.size cs' t->
  Calls Tryz.prog 44 #[.agg ⟨cs⟩,.agg ⟨cs'⟩] w fun en w'=>en= .returned (.bool (fitsV x t))/\Below w.heap.size w w':=by
 intro x
 induction x using VT.ind with
 |h k n f s ns its ih=>
  intro t d e cs cs' w hrx hty hv hv'
  cases t with
  |mk k' ns' ts=>
  have IH:=I ih
  obtain⟨vn,vi,rfl,_,_,_,_,hn,_,hi⟩:=hv.inv
  obtain⟨A,c,rfl,hil,hA⟩:=z1k hi
  obtain⟨vn',vi',rfl,_,hn',_,hi'⟩:=hv'.inv
  obtain⟨A',c',rfl,hil',hA'⟩:=z4s hi'
  have HN:=I hn
  have HN':=I hn'
  have HA:=I hA
  have HA':=I hA'
  have HO:Hid (fitsV (.mk k n f s ns its) (.mk k' ns' ts)=((k ==k') && (if k= 5 then fitsA its ts else if k= 6 then decide (ns= ns') && fitsL its ts else true))):=I (by rw[fitsV])
  generalize hres:fitsV (.mk k n f s ns its) (.mk k' ns' ts)= res at*
  have HRX:=I hrx
  have HTY:=I hty
  have hk7:k≠7:=by rintro rfl;rw[z5w] at hrx;cases hrx
  clear ih hv hv' hn hn' hi hi' hA hA' hres hrx hty
  by_cases hck:k= k'
  case neg=>
   have HR:Hid (res= false):=I (HO.o.trans (by rw[beq_eq_false_iff_ne.2 hck];exact Bool.false_and _))
   have t2:(k !=k')= true:=by simpa using hck
   clear hck HO hk7
   go_enter Tryz.func44,Tryz.ntmps44
   go_upto_region 1 with (fail)
   have HA0:=I (zv w [.int .i64 k,.int .i64 n,.float .f64 f,.string s,vn,.slice A its.length c] 26)
   have HB1:=I (zd w (.cells ⟨[.int .i64 k,.int .i64 n,.float .f64 f,.string s,vn,.slice A its.length c]⟩ 26))
   have HS1:=I (zw w (.cells ⟨[.int .i64 k,.int .i64 n,.float .f64 f,.string s,vn,.slice A its.length c]⟩ 26))
   have HSE:Hid ((w.alloc (.cells ⟨[.int .i64 k,.int .i64 n,.float .f64 f,.string s,vn,.slice A its.length c]⟩ 26)).heap.size= w.heap.size+1):=I (by simp)
   generalize w.alloc (.cells ⟨[.int .i64 k,.int .i64 n,.float .f64 f,.string s,vn,.slice A its.length c]⟩ 26)= W1 at*
   have HB:=I (zv W1 [.int .i64 k',vn',.slice A' ts.length c'] 45)
   have HB2:=I (zd W1 (.cells ⟨[.int .i64 k',vn',.slice A' ts.length c']⟩ 45))
   have HS2:=I (zw W1 (.cells ⟨[.int .i64 k',vn',.slice A' ts.length c']⟩ 45))
   generalize W1.alloc (.cells ⟨[.int .i64 k',vn',.slice A' ts.length c']⟩ 45)= W at*
   have HAW:=I (zc HA0.o HB2.o HS1.o)
   have HBW:=I (HB1.o.trans (HB2.o.mono HB1.o.size))
   have HLT:=I (Nat.lt_of_lt_of_le HS1.o HB2.o.size)
   rw[HSE.o] at HB HS2
   obtain⟨pb,hpb⟩:∃ pb,w.heap.size+1= pb:=⟨_,rfl⟩
   rw[hpb] at HB HS2
   rw[hpb]
   clear HA0 HB1 HS1 HSE HB2 hpb
   have d0:W.cell? ⟨w.heap.size,0,none⟩= some (.int .i64 k):=by have:=HAW.o 0 _ rfl;simpa using this
   have e0:W.cell? ⟨pb,0,none⟩= some (.int .i64 k'):=by have:=HB.o 0 _ rfl;simpa using this
   have D5:Hid (W.cell? ⟨w.heap.size,5,none⟩= some (.slice A its.length c)):=I (by have:=HAW.o 5 _ rfl;simpa using this)
   have E2:Hid (W.cell? ⟨pb,2,none⟩= some (.slice A' ts.length c')):=I (by have:=HB.o 2 _ rfl;simpa using this)
   go_wp2
   go_ret
   exact⟨z7 HR.o.symm,HBW.o⟩
  subst hck
  have HO1:=I (HO.o.trans (by rw[beq_self_eq_true,Bool.true_and]))
  clear HO
  by_cases k5:k= 5
  ·subst k5
   have HR:Hid (res= fitsA its ts):=I (HO1.o.trans (if_pos rfl))
   clear HO1 hk7
   go_enter Tryz.func44,Tryz.ntmps44
   go_upto_region 1 with (fail)
   have HA0:=I (zv w [.int .i64 5,.int .i64 n,.float .f64 f,.string s,vn,.slice A its.length c] 26)
   have HB1:=I (zd w (.cells ⟨[.int .i64 5,.int .i64 n,.float .f64 f,.string s,vn,.slice A its.length c]⟩ 26))
   have HS1:=I (zw w (.cells ⟨[.int .i64 5,.int .i64 n,.float .f64 f,.string s,vn,.slice A its.length c]⟩ 26))
   have HSE:Hid ((w.alloc (.cells ⟨[.int .i64 5,.int .i64 n,.float .f64 f,.string s,vn,.slice A its.length c]⟩ 26)).heap.size= w.heap.size+1):=I (by simp)
   generalize w.alloc (.cells ⟨[.int .i64 5,.int .i64 n,.float .f64 f,.string s,vn,.slice A its.length c]⟩ 26)= W1 at*
   have HB:=I (zv W1 [.int .i64 5,vn',.slice A' ts.length c'] 45)
   have HB2:=I (zd W1 (.cells ⟨[.int .i64 5,vn',.slice A' ts.length c']⟩ 45))
   have HS2:=I (zw W1 (.cells ⟨[.int .i64 5,vn',.slice A' ts.length c']⟩ 45))
   generalize W1.alloc (.cells ⟨[.int .i64 5,vn',.slice A' ts.length c']⟩ 45)= W at*
   have HAW:=I (zc HA0.o HB2.o HS1.o)
   have HBW:=I (HB1.o.trans (HB2.o.mono HB1.o.size))
   have HLT:=I (Nat.lt_of_lt_of_le HS1.o HB2.o.size)
   rw[HSE.o] at HB HS2
   obtain⟨pb,hpb⟩:∃ pb,w.heap.size+1= pb:=⟨_,rfl⟩
   rw[hpb] at HB HS2
   rw[hpb]
   clear HA0 HB1 HS1 HSE HB2 hpb
   have d0:W.cell? ⟨w.heap.size,0,none⟩= some (.int .i64 5):=by have:=HAW.o 0 _ rfl;simpa using this
   have e0:W.cell? ⟨pb,0,none⟩= some (.int .i64 5):=by have:=HB.o 0 _ rfl;simpa using this
   have D5:Hid (W.cell? ⟨w.heap.size,5,none⟩= some (.slice A its.length c)):=I (by have:=HAW.o 5 _ rfl;simpa using this)
   have E2:Hid (W.cell? ⟨pb,2,none⟩= some (.slice A' ts.length c')):=I (by have:=HB.o 2 _ rfl;simpa using this)
   have D0:=I d0
   have c5:=D5.o
   go_wp2
   clear d0 e0 c5
   go_loopg [5] its.length (fun g x u=>∃ j:Nat,j+g= its.length/\x= .int .i64 j/\Below W.heap.size W u/\fitsA (its.drop j) ts= res)
   case atStart=>exact⟨0,by omega,rfl,Below.refl _ _,HR.o.symm⟩
   case round=>
    obtain⟨j,hj,rfl,hb,hres⟩:=hrel
    have HR2:=I hres
    have HBK:=I hb
    have c0:wr.cell? ⟨w.heap.size,0,none⟩= some (.int .i64 5):=(hb.cell (p:=⟨w.heap.size,0,none⟩) HLT.o).trans D0.o
    have c5:=(hb.cell (p:=⟨w.heap.size,5,none⟩) HLT.o).trans D5.o
    clear hres hb
    cases gk with
    |zero=>
     obtain rfl:j= its.length:=by omega
     have hge: ¬ ((its.length:Int) <(its.length:Int)):=by omega
     have HVE:=I (HR2.o.symm.trans zbH)
     go_wp2
     go_ret
     exact⟨z7 HVE.o.symm,HBW.o.trans (HBK.o.mono HBW.o.size)⟩
    |succ g=>
     have hlt:(j:Int) <(its.length:Int):=by omega
     obtain⟨x,hx⟩:∃ x,its[j]?= some x:=⟨_,List.getElem?_eq_getElem (by omega)⟩
     obtain⟨b,o',rfl,hbl,hc⟩:=HA.o (by omega)
     obtain⟨ks,hks,hvx⟩:=hc j x hx
     obtain⟨y,hy⟩:∃ y,ts[0]?= some y:=⟨_,List.getElem?_eq_getElem (by have:=(z1q HTY.o).1;omega)⟩
     obtain⟨b',o'',rfl,hbl',hc'⟩:=HA'.o (by have:=(z1q HTY.o).1;omega)
     obtain⟨ks',hks0,hvy⟩:=hc' 0 y hy
     have hks':w.rangeAt b' o'' ks':=by simpa using hks0
     have hlt1:(0:Int) <(ts.length:Int):=by have:=(z1q HTY.o).1;omega
     have hne:ts≠[]:=fun h=>by rw[h] at hlt1;simp at hlt1
     have HVS:=I (HR2.o.symm.trans (z92 hx hy))
     have HKS:=I (zc hks HBW.o hbl)
     have HKS':=I (zc hks' HBW.o hbl')
     have HKB:=I (Nat.lt_of_lt_of_le hbl HBW.o.size)
     have HKB':=I (Nat.lt_of_lt_of_le hbl' HBW.o.size)
     have HKL:=I (zj hvx)
     have HKL':=I (zo hvy)
     have HC:=I (fun(z:World) (hz:Below W.heap.size W z)=>IH.o x (List.mem_of_getElem? hx) y (d+1) (e+1) ks ks' z (z5R HRX.o x (List.mem_of_getElem? hx)) ((z1q HTY.o).2 y (List.mem_of_getElem? hy)) (hvx.next (HBW.o.trans (hz.mono HBW.o.size))) (hvy.next (HBW.o.trans (hz.mono HBW.o.size))))
     clear hc hks hvx hx hc' hks0 hks' hvy hy
     generalize fitsV x y= rx at*
     go_upto_region 7 with (fail)
     clear c0 c5
     cases rx with
     |true=>
      have HV2:=I (HVS.o.trans (Bool.true_and _))
      clear HVS
      refine zB [(0,true),(1,true),(2,true),(3,true),(4,true),(5,true),(6,true),(7,true),(8,true),(9,false),(10,true)]
       (fun z=>Below W.heap.size W z) (by kernel_rfl) (by kernel_rfl) (by kernel_rfl) rfl (by intro c a d v w h;cases d<;>exact h) ?_
      have hs:Below W.heap.size W wr.drew:=HBK.o.drew
      refine z8 (some 27) (.pointer (some ⟨w.heap.size,5,none⟩)) _ rfl rfl (by exact wA rfl) hs (fun z hz=>by go_simp) ?_
      go_frame
      refine z8 (some 28) (.slice (some ⟨b,o',none⟩) its.length c) _ rfl rfl (by exact wA rfl) hs (fun z hz=>by have dd:=(hz.cell (p:=⟨w.heap.size,5,none⟩) HLT.o).trans D5.o;go_simp) ?_
      go_frame
      refine zg (some 29) (.int .i64 j) _ _ rfl rfl rfl (by exact wA rfl) hs rfl ?_
      go_frame
      refine z8 (some 30) (.pointer (some ⟨b,o'+j*6,none⟩)) _ rfl rfl (by exact wA rfl) hs (fun z hz=>by go_simp) ?_
      go_frame
      refine z8 (some 31) (.agg ⟨ks⟩) _ rfl rfl (by exact wA rfl) hs (fun z hz=>zt 26 rfl b (o'+j*6) ks _ rfl (zc HKS.o hz HKB.o) Tryz.underlying26 rfl (by rw[HKL.o.1];kernel_rfl)) ?_
      go_frame
      refine z8 (some 32) (.pointer (some ⟨pb,2,none⟩)) _ rfl rfl (by exact wA rfl) hs (fun z hz=>by go_simp) ?_
      go_frame
      refine z8 (some 33) (.slice (some ⟨b',o'',none⟩) ts.length c') _ rfl rfl (by exact wA rfl) hs (fun z hz=>by have dd:=(hz.cell (p:=⟨pb,2,none⟩) HS2.o).trans E2.o;go_simp) ?_
      go_frame
      refine z8 (some 34) (.pointer (some ⟨b',o'',none⟩)) _ rfl rfl (by exact wA rfl) hs (fun z hz=>by go_simp) ?_
      go_frame
      refine z8 (some 35) (.agg ⟨ks'⟩) _ rfl rfl (by exact wA rfl) hs (fun z hz=>zt 45 rfl b' o'' ks' _ rfl (zc HKS'.o hz HKB'.o) Tryz.underlying45 rfl (by rw[HKL'.o.1];kernel_rfl)) ?_
      go_frame
      refine zD (some 36) 44 Tryz.func44 (by kernel_rfl) (by kernel_rfl) [.agg ⟨ks⟩,.agg ⟨ks'⟩] _ _ _ rfl rfl rfl (by exact wA rfl) rfl ?_
      refine(HC.o _ hs).mono ?_
      rintro e z1 ⟨rfl,hb1⟩
      have hs2:Below W.heap.size W z1:=hs.trans (hb1.mono hs.size)
      refine⟨.bool true,rfl,hs2,?_⟩
      clear hb1
      go_frame
      refine z8 (some 37) (.bool false) _ rfl rfl (by exact wA rfl) hs2 (fun z hz=>by go_simp) ?_
      go_frame
      refine z08 ?_
      have HB3:=I hs2
      clear hs hs2
      go_wp2
      go_roundg g
      case measure=>omega
      case rel=>exact⟨j+1,by omega,by go_num,HB3.o,HV2.o.symm⟩
     |false=>
      have HV2:Hid (res= false):=I (HVS.o.trans (Bool.false_and _))
      clear HVS
      refine zB [(0,true),(1,true),(2,true),(3,true),(4,true),(5,true),(6,true),(7,true),(8,true),(9,false),(10,true)]
       (fun z=>Below W.heap.size W z) (by kernel_rfl) (by kernel_rfl) (by kernel_rfl) rfl (by intro c a d v w h;cases d<;>exact h) ?_
      have hs:Below W.heap.size W wr.drew:=HBK.o.drew
      refine z8 (some 27) (.pointer (some ⟨w.heap.size,5,none⟩)) _ rfl rfl (by exact wA rfl) hs (fun z hz=>by go_simp) ?_
      go_frame
      refine z8 (some 28) (.slice (some ⟨b,o',none⟩) its.length c) _ rfl rfl (by exact wA rfl) hs (fun z hz=>by have dd:=(hz.cell (p:=⟨w.heap.size,5,none⟩) HLT.o).trans D5.o;go_simp) ?_
      go_frame
      refine zg (some 29) (.int .i64 j) _ _ rfl rfl rfl (by exact wA rfl) hs rfl ?_
      go_frame
      refine z8 (some 30) (.pointer (some ⟨b,o'+j*6,none⟩)) _ rfl rfl (by exact wA rfl) hs (fun z hz=>by go_simp) ?_
      go_frame
      refine z8 (some 31) (.agg ⟨ks⟩) _ rfl rfl (by exact wA rfl) hs (fun z hz=>zt 26 rfl b (o'+j*6) ks _ rfl (zc HKS.o hz HKB.o) Tryz.underlying26 rfl (by rw[HKL.o.1];kernel_rfl)) ?_
      go_frame
      refine z8 (some 32) (.pointer (some ⟨pb,2,none⟩)) _ rfl rfl (by exact wA rfl) hs (fun z hz=>by go_simp) ?_
      go_frame
      refine z8 (some 33) (.slice (some ⟨b',o'',none⟩) ts.length c') _ rfl rfl (by exact wA rfl) hs (fun z hz=>by have dd:=(hz.cell (p:=⟨pb,2,none⟩) HS2.o).trans E2.o;go_simp) ?_
      go_frame
      refine z8 (some 34) (.pointer (some ⟨b',o'',none⟩)) _ rfl rfl (by exact wA rfl) hs (fun z hz=>by go_simp) ?_
      go_frame
      refine z8 (some 35) (.agg ⟨ks'⟩) _ rfl rfl (by exact wA rfl) hs (fun z hz=>zt 45 rfl b' o'' ks' _ rfl (zc HKS'.o hz HKB'.o) Tryz.underlying45 rfl (by rw[HKL'.o.1];kernel_rfl)) ?_
      go_frame
      refine zD (some 36) 44 Tryz.func44 (by kernel_rfl) (by kernel_rfl) [.agg ⟨ks⟩,.agg ⟨ks'⟩] _ _ _ rfl rfl rfl (by exact wA rfl) rfl ?_
      refine(HC.o _ hs).mono ?_
      rintro e z1 ⟨rfl,hb1⟩
      have hs2:Below W.heap.size W z1:=hs.trans (hb1.mono hs.size)
      refine⟨.bool false,rfl,hs2,?_⟩
      clear hb1
      go_frame
      refine z8 (some 37) (.bool true) _ rfl rfl (by exact wA rfl) hs2 (fun z hz=>by go_simp) ?_
      go_frame
      refine z08 ?_
      have HB3:=I hs2
      clear hs hs2
      go_wp2
      go_ret
      exact⟨z7 HV2.o.symm,HBW.o.trans (HB3.o.mono HBW.o.size)⟩
  have HO2:=I (HO1.o.trans (if_neg k5))
  clear HO1
  by_cases k6:k= 6
  ·subst k6
   have HV:Hid (res=(decide (ns= ns') && fitsL its ts)):=I (HO2.o.trans (if_pos rfl))
   clear HO2 hk7
   go_enter Tryz.func44,Tryz.ntmps44
   go_upto_region 1 with (fail)
   have HA0:=I (zv w [.int .i64 6,.int .i64 n,.float .f64 f,.string s,vn,.slice A its.length c] 26)
   have HB1:=I (zd w (.cells ⟨[.int .i64 6,.int .i64 n,.float .f64 f,.string s,vn,.slice A its.length c]⟩ 26))
   have HS1:=I (zw w (.cells ⟨[.int .i64 6,.int .i64 n,.float .f64 f,.string s,vn,.slice A its.length c]⟩ 26))
   have HSE:Hid ((w.alloc (.cells ⟨[.int .i64 6,.int .i64 n,.float .f64 f,.string s,vn,.slice A its.length c]⟩ 26)).heap.size= w.heap.size+1):=I (by simp)
   generalize w.alloc (.cells ⟨[.int .i64 6,.int .i64 n,.float .f64 f,.string s,vn,.slice A its.length c]⟩ 26)= W1 at*
   have HB:=I (zv W1 [.int .i64 6,vn',.slice A' ts.length c'] 45)
   have HB2:=I (zd W1 (.cells ⟨[.int .i64 6,vn',.slice A' ts.length c']⟩ 45))
   have HS2:=I (zw W1 (.cells ⟨[.int .i64 6,vn',.slice A' ts.length c']⟩ 45))
   generalize W1.alloc (.cells ⟨[.int .i64 6,vn',.slice A' ts.length c']⟩ 45)= W at*
   have HAW:=I (zc HA0.o HB2.o HS1.o)
   have HBW:=I (HB1.o.trans (HB2.o.mono HB1.o.size))
   have HLT:=I (Nat.lt_of_lt_of_le HS1.o HB2.o.size)
   rw[HSE.o] at HB HS2
   obtain⟨pb,hpb⟩:∃ pb,w.heap.size+1= pb:=⟨_,rfl⟩
   rw[hpb] at HB HS2
   rw[hpb]
   clear HA0 HB1 HS1 HSE HB2 hpb
   have d0:W.cell? ⟨w.heap.size,0,none⟩= some (.int .i64 6):=by have:=HAW.o 0 _ rfl;simpa using this
   have e0:W.cell? ⟨pb,0,none⟩= some (.int .i64 6):=by have:=HB.o 0 _ rfl;simpa using this
   have D5:Hid (W.cell? ⟨w.heap.size,5,none⟩= some (.slice A its.length c)):=I (by have:=HAW.o 5 _ rfl;simpa using this)
   have E2:Hid (W.cell? ⟨pb,2,none⟩= some (.slice A' ts.length c')):=I (by have:=HB.o 2 _ rfl;simpa using this)
   have D0:=I d0
   have c4:W.cell? ⟨w.heap.size,4,none⟩= some vn:=by have:=HAW.o 4 _ rfl;simpa using this
   have f1:W.cell? ⟨pb,1,none⟩= some vn':=by have:=HB.o 1 _ rfl;simpa using this
   have c5:=D5.o
   have HSE:=I (z9Z vn vn' ns ns' W ((HN.o.below HBW.o fun _ _ _ h=>h).more HBW.o.size) ((HN'.o.below HBW.o fun _ _ _ h=>h).more HBW.o.size))
   by_cases hnn:ns= ns'
   ·have hz0:listC cmpS ns ns'= 0:=z32.2 hnn
    have HR:Hid (res= fitsL its ts):=I (HV.o.trans (by rw[decide_eq_true hnn];exact Bool.true_and _))
    have HLN:Hid (its.length= ts.length):=I (by rw[← (z44 HRX.o).1,← (z2O HTY.o).1,hnn])
    rw[hz0] at HSE
    clear hnn HV hz0
    go_wp2_with (go_at_call 79;refine HSE.o.mono ?_;rintro en z ⟨rfl,hzm⟩;have HB4:Hid (Below W.heap.size W z):=I (by obtain⟨m,rfl⟩:=hzm;exact zI (Below.refl _ _) _);clear hzm;have c5':=(HB4.o.cell (p:=⟨w.heap.size,5,none⟩) HLT.o).trans D5.o)
    clear d0 e0 c4 f1 c5 c5'
    go_loopg [6] its.length (fun g x u=>∃ j:Nat,j+g= its.length/\x= .int .i64 j/\Below W.heap.size W u/\fitsL (its.drop j) (ts.drop j)= res)
    case atStart=>exact⟨0,by omega,rfl,HB4.o,HR.o.symm⟩
    case round=>
     obtain⟨j,hj,rfl,hb,hres⟩:=hrel
     have HR2:=I hres
     have HBK:=I hb
     have c0:wr.cell? ⟨w.heap.size,0,none⟩= some (.int .i64 6):=(hb.cell (p:=⟨w.heap.size,0,none⟩) HLT.o).trans D0.o
     have c5:=(hb.cell (p:=⟨w.heap.size,5,none⟩) HLT.o).trans D5.o
     clear hres hb
     cases gk with
     |zero=>
      obtain rfl:j= its.length:=by omega
      have hge: ¬ ((its.length:Int) <(its.length:Int)):=by omega
      have HVE:=I (HR2.o.symm.trans zap)
      go_wp2
      go_ret
      exact⟨z7 HVE.o.symm,HBW.o.trans (HBK.o.mono HBW.o.size)⟩
     |succ g=>
      have hlt:(j:Int) <(its.length:Int):=by omega
      obtain⟨x,hx⟩:∃ x,its[j]?= some x:=⟨_,List.getElem?_eq_getElem (by omega)⟩
      obtain⟨b,o',rfl,hbl,hc⟩:=HA.o (by omega)
      obtain⟨ks,hks,hvx⟩:=hc j x hx
      have hjt:j < ts.length:=HLN.o▸ (by omega:j < its.length)
      have hlt1:(j:Int) <(ts.length:Int):=by omega
      obtain⟨y,hy⟩:∃ y,ts[j]?= some y:=⟨_,List.getElem?_eq_getElem hjt⟩
      obtain⟨b',o'',rfl,hbl',hc'⟩:=HA'.o (by omega)
      obtain⟨ks',hks',hvy⟩:=hc' j y hy
      have HVS:=I (HR2.o.symm.trans (z9y hx hy))
      have HKS:=I (zc hks HBW.o hbl)
      have HKS':=I (zc hks' HBW.o hbl')
      have HKB:=I (Nat.lt_of_lt_of_le hbl HBW.o.size)
      have HKB':=I (Nat.lt_of_lt_of_le hbl' HBW.o.size)
      have HKL:=I (zj hvx)
      have HKL':=I (zo hvy)
      have HC:=I (fun(z:World) (hz:Below W.heap.size W z)=>IH.o x (List.mem_of_getElem? hx) y (d+1) (e+1) ks ks' z ((z44 HRX.o).2 x (List.mem_of_getElem? hx)) ((z2O HTY.o).2 y (List.mem_of_getElem? hy)) (hvx.next (HBW.o.trans (hz.mono HBW.o.size))) (hvy.next (HBW.o.trans (hz.mono HBW.o.size))))
      clear hc hks hvx hx hc' hks' hvy hy
      generalize fitsV x y= rx at*
      go_upto_region 15 with (fail)
      clear c0 c5
      cases rx with
      |true=>
       have HV2:=I (HVS.o.trans (Bool.true_and _))
       clear HVS
       refine zB [(0,true),(1,true),(2,true),(3,true),(4,true),(5,true),(6,true),(7,true),(8,true),(9,true),(10,false),(11,true)]
        (fun z=>Below W.heap.size W z) (by kernel_rfl) (by kernel_rfl) (by kernel_rfl) rfl (by intro c a d v w h;cases d<;>exact h) ?_
       have hs:Below W.heap.size W wr.drew:=HBK.o.drew
       refine z8 (some 54) (.pointer (some ⟨w.heap.size,5,none⟩)) _ rfl rfl (by exact wA rfl) hs (fun z hz=>by go_simp) ?_
       go_frame
       refine z8 (some 55) (.slice (some ⟨b,o',none⟩) its.length c) _ rfl rfl (by exact wA rfl) hs (fun z hz=>by have dd:=(hz.cell (p:=⟨w.heap.size,5,none⟩) HLT.o).trans D5.o;go_simp) ?_
       go_frame
       refine zg (some 56) (.int .i64 j) _ _ rfl rfl rfl (by exact wA rfl) hs rfl ?_
       go_frame
       refine z8 (some 57) (.pointer (some ⟨b,o'+j*6,none⟩)) _ rfl rfl (by exact wA rfl) hs (fun z hz=>by go_simp) ?_
       go_frame
       refine z8 (some 58) (.agg ⟨ks⟩) _ rfl rfl (by exact wA rfl) hs (fun z hz=>zt 26 rfl b (o'+j*6) ks _ rfl (zc HKS.o hz HKB.o) Tryz.underlying26 rfl (by rw[HKL.o.1];kernel_rfl)) ?_
       go_frame
       refine z8 (some 59) (.pointer (some ⟨pb,2,none⟩)) _ rfl rfl (by exact wA rfl) hs (fun z hz=>by go_simp) ?_
       go_frame
       refine z8 (some 60) (.slice (some ⟨b',o'',none⟩) ts.length c') _ rfl rfl (by exact wA rfl) hs (fun z hz=>by have dd:=(hz.cell (p:=⟨pb,2,none⟩) HS2.o).trans E2.o;go_simp) ?_
       go_frame
       refine zg (some 61) (.int .i64 j) _ _ rfl rfl rfl (by exact wA rfl) hs rfl ?_
       go_frame
       refine z8 (some 62) (.pointer (some ⟨b',(o''+j*3),none⟩)) _ rfl rfl (by exact wA rfl) hs (fun z hz=>by go_simp) ?_
       go_frame
       refine z8 (some 63) (.agg ⟨ks'⟩) _ rfl rfl (by exact wA rfl) hs (fun z hz=>zt 45 rfl b' (o''+j*3) ks' _ rfl (zc HKS'.o hz HKB'.o) Tryz.underlying45 rfl (by rw[HKL'.o.1];kernel_rfl)) ?_
       go_frame
       refine zD (some 64) 44 Tryz.func44 (by kernel_rfl) (by kernel_rfl) [.agg ⟨ks⟩,.agg ⟨ks'⟩] _ _ _ rfl rfl rfl (by exact wA rfl) rfl ?_
       refine(HC.o _ hs).mono ?_
       rintro e z1 ⟨rfl,hb1⟩
       have hs2:Below W.heap.size W z1:=hs.trans (hb1.mono hs.size)
       refine⟨.bool true,rfl,hs2,?_⟩
       clear hb1
       go_frame
       refine z8 (some 65) (.bool false) _ rfl rfl (by exact wA rfl) hs2 (fun z hz=>by go_simp) ?_
       go_frame
       refine z08 ?_
       have HB3:=I hs2
       clear hs hs2
       go_wp2
       go_roundg g
       case measure=>omega
       case rel=>exact⟨j+1,by omega,by go_num,HB3.o,HV2.o.symm⟩
      |false=>
       have HV2:Hid (res= false):=I (HVS.o.trans (Bool.false_and _))
       clear HVS
       refine zB [(0,true),(1,true),(2,true),(3,true),(4,true),(5,true),(6,true),(7,true),(8,true),(9,true),(10,false),(11,true)]
        (fun z=>Below W.heap.size W z) (by kernel_rfl) (by kernel_rfl) (by kernel_rfl) rfl (by intro c a d v w h;cases d<;>exact h) ?_
       have hs:Below W.heap.size W wr.drew:=HBK.o.drew
       refine z8 (some 54) (.pointer (some ⟨w.heap.size,5,none⟩)) _ rfl rfl (by exact wA rfl) hs (fun z hz=>by go_simp) ?_
       go_frame
       refine z8 (some 55) (.slice (some ⟨b,o',none⟩) its.length c) _ rfl rfl (by exact wA rfl) hs (fun z hz=>by have dd:=(hz.cell (p:=⟨w.heap.size,5,none⟩) HLT.o).trans D5.o;go_simp) ?_
       go_frame
       refine zg (some 56) (.int .i64 j) _ _ rfl rfl rfl (by exact wA rfl) hs rfl ?_
       go_frame
       refine z8 (some 57) (.pointer (some ⟨b,o'+j*6,none⟩)) _ rfl rfl (by exact wA rfl) hs (fun z hz=>by go_simp) ?_
       go_frame
       refine z8 (some 58) (.agg ⟨ks⟩) _ rfl rfl (by exact wA rfl) hs (fun z hz=>zt 26 rfl b (o'+j*6) ks _ rfl (zc HKS.o hz HKB.o) Tryz.underlying26 rfl (by rw[HKL.o.1];kernel_rfl)) ?_
       go_frame
       refine z8 (some 59) (.pointer (some ⟨pb,2,none⟩)) _ rfl rfl (by exact wA rfl) hs (fun z hz=>by go_simp) ?_
       go_frame
       refine z8 (some 60) (.slice (some ⟨b',o'',none⟩) ts.length c') _ rfl rfl (by exact wA rfl) hs (fun z hz=>by have dd:=(hz.cell (p:=⟨pb,2,none⟩) HS2.o).trans E2.o;go_simp) ?_
       go_frame
       refine zg (some 61) (.int .i64 j) _ _ rfl rfl rfl (by exact wA rfl) hs rfl ?_
       go_frame
       refine z8 (some 62) (.pointer (some ⟨b',(o''+j*3),none⟩)) _ rfl rfl (by exact wA rfl) hs (fun z hz=>by go_simp) ?_
       go_frame
       refine z8 (some 63) (.agg ⟨ks'⟩) _ rfl rfl (by exact wA rfl) hs (fun z hz=>zt 45 rfl b' (o''+j*3) ks' _ rfl (zc HKS'.o hz HKB'.o) Tryz.underlying45 rfl (by rw[HKL'.o.1];kernel_rfl)) ?_
       go_frame
       refine zD (some 64) 44 Tryz.func44 (by kernel_rfl) (by kernel_rfl) [.agg ⟨ks⟩,.agg ⟨ks'⟩] _ _ _ rfl rfl rfl (by exact wA rfl) rfl ?_
       refine(HC.o _ hs).mono ?_
       rintro e z1 ⟨rfl,hb1⟩
       have hs2:Below W.heap.size W z1:=hs.trans (hb1.mono hs.size)
       refine⟨.bool false,rfl,hs2,?_⟩
       clear hb1
       go_frame
       refine z8 (some 65) (.bool true) _ rfl rfl (by exact wA rfl) hs2 (fun z hz=>by go_simp) ?_
       go_frame
       refine z08 ?_
       have HB3:=I hs2
       clear hs hs2
       go_wp2
       go_ret
       exact⟨z7 HV2.o.symm,HBW.o.trans (HB3.o.mono HBW.o.size)⟩
   ·have hz0:listC cmpS ns ns'≠0:=fun h=>hnn (z32.1 h)
    have HR:Hid (res= false):=I (HV.o.trans (by rw[decide_eq_false hnn];exact Bool.false_and _))
    generalize listC cmpS ns ns'= cv at*
    have t2:(cv !=0)= true:=by simpa using hz0
    clear hnn HV hz0
    go_wp2_with (go_at_call 79;refine HSE.o.mono ?_;rintro en z ⟨rfl,hzm⟩;have HB4:Hid (Below W.heap.size W z):=I (by obtain⟨m,rfl⟩:=hzm;exact zI (Below.refl _ _) _);clear hzm;have c5':=(HB4.o.cell (p:=⟨w.heap.size,5,none⟩) HLT.o).trans D5.o)
    go_ret
    exact⟨z7 HR.o.symm,HBW.o.trans (HB4.o.mono HBW.o.size)⟩
  have HR:Hid (res= true):=I (HO2.o.trans (if_neg k6))
  have s5:(k ==5)= false:=by simpa using k5
  have s6:(k ==6)= false:=by simpa using k6
  have s7:(k ==7)= false:=by simpa using hk7
  clear HO2 k5 k6 hk7
  go_enter Tryz.func44,Tryz.ntmps44
  go_upto_region 1 with (fail)
  have HA0:=I (zv w [.int .i64 k,.int .i64 n,.float .f64 f,.string s,vn,.slice A its.length c] 26)
  have HB1:=I (zd w (.cells ⟨[.int .i64 k,.int .i64 n,.float .f64 f,.string s,vn,.slice A its.length c]⟩ 26))
  have HS1:=I (zw w (.cells ⟨[.int .i64 k,.int .i64 n,.float .f64 f,.string s,vn,.slice A its.length c]⟩ 26))
  have HSE:Hid ((w.alloc (.cells ⟨[.int .i64 k,.int .i64 n,.float .f64 f,.string s,vn,.slice A its.length c]⟩ 26)).heap.size= w.heap.size+1):=I (by simp)
  generalize w.alloc (.cells ⟨[.int .i64 k,.int .i64 n,.float .f64 f,.string s,vn,.slice A its.length c]⟩ 26)= W1 at*
  have HB:=I (zv W1 [.int .i64 k,vn',.slice A' ts.length c'] 45)
  have HB2:=I (zd W1 (.cells ⟨[.int .i64 k,vn',.slice A' ts.length c']⟩ 45))
  have HS2:=I (zw W1 (.cells ⟨[.int .i64 k,vn',.slice A' ts.length c']⟩ 45))
  generalize W1.alloc (.cells ⟨[.int .i64 k,vn',.slice A' ts.length c']⟩ 45)= W at*
  have HAW:=I (zc HA0.o HB2.o HS1.o)
  have HBW:=I (HB1.o.trans (HB2.o.mono HB1.o.size))
  have HLT:=I (Nat.lt_of_lt_of_le HS1.o HB2.o.size)
  rw[HSE.o] at HB HS2
  obtain⟨pb,hpb⟩:∃ pb,w.heap.size+1= pb:=⟨_,rfl⟩
  rw[hpb] at HB HS2
  rw[hpb]
  clear HA0 HB1 HS1 HSE HB2 hpb
  have d0:W.cell? ⟨w.heap.size,0,none⟩= some (.int .i64 k):=by have:=HAW.o 0 _ rfl;simpa using this
  have e0:W.cell? ⟨pb,0,none⟩= some (.int .i64 k):=by have:=HB.o 0 _ rfl;simpa using this
  have D5:Hid (W.cell? ⟨w.heap.size,5,none⟩= some (.slice A its.length c)):=I (by have:=HAW.o 5 _ rfl;simpa using this)
  have E2:Hid (W.cell? ⟨pb,2,none⟩= some (.slice A' ts.length c')):=I (by have:=HB.o 2 _ rfl;simpa using this)
  go_wp2
  go_ret
  exact⟨z7 HR.o.symm,HBW.o⟩
def z1P (x:VT):Bool:=decide (cntV x 0<=200) && zm x 1
def typeT (t:TT):Bool:=decide (cntT t 0<=200) && zY t 1
def fitT (x:VT) (t:TT):Bool:=z1P x && (typeT t && fitsV x t)
theorem z6q (x:VT) (t:TT) (cs cs':List Value) (w:World) (hv:ValAt w w.heap.size cs x) (hv':TypAt w w.heap.size cs' t):
  Calls Tryz.prog 18 #[.agg ⟨cs⟩,.agg ⟨cs'⟩] w fun en w'=>en= .returned (.bool (fitT x t))/\Below w.heap.size w w':=by
 have HV:=I hv
 have HV':=I hv'
 have HL:=I (zj hv)
 have HL':=I (zo hv')
 have HO:Hid (fitT x t=(z1P x && (typeT t && fitsV x t))):=I rfl
 generalize hres:fitT x t= res at*
 clear hv hv' hres
 go_enter Tryz.func18,Tryz.ntmps18
 go_upto_region 1 with (fail)
 have HA0:=I (zv w cs 26)
 have HB1:=I (zd w (.cells ⟨cs⟩ 26))
 have HS1:=I (zw w (.cells ⟨cs⟩ 26))
 have HSE:Hid ((w.alloc (.cells ⟨cs⟩ 26)).heap.size= w.heap.size+1):=I (by simp)
 generalize w.alloc (.cells ⟨cs⟩ 26)= W1 at*
 have HB:=I (zv W1 cs' 45)
 have HB2:=I (zd W1 (.cells ⟨cs'⟩ 45))
 have HS2:=I (zw W1 (.cells ⟨cs'⟩ 45))
 generalize W1.alloc (.cells ⟨cs'⟩ 45)= W at*
 have HAW:=I (zc HA0.o HB2.o HS1.o)
 have HBW:=I (HB1.o.trans (HB2.o.mono HB1.o.size))
 have HLT:=I (Nat.lt_of_lt_of_le HS1.o HB2.o.size)
 rw[HSE.o] at HB HS2
 obtain⟨pb,hpb⟩:∃ pb,w.heap.size+1= pb:=⟨_,rfl⟩
 rw[hpb] at HB HS2
 rw[hpb]
 clear HA0 HB1 HS1 HSE HB2 hpb
 have HVW:=I (HV.o.next HBW.o)
 have HC1:=I (z3B x cs W HVW.o)
 change Hid (Calls _ _ _ _ fun e w'=>e= .returned (.bool (z1P x))/\_) at HC1
 have HC2:=I (fun(z:World) (hz:Below W.heap.size W z)=>z1N t cs' z (HV'.o.next (HBW.o.trans (hz.mono HBW.o.size))))
 change Hid (∀ z:World,_->Calls _ _ _ _ fun e w'=>e= .returned (.bool (typeT t))/\_) at HC2
 cases hr1:z1P x with
 |false=>
  have HR:Hid (res= false):=I (HO.o.trans (by simp[hr1]))
  rw[hr1] at HC1
  go_wp2_with (first|((with_reducible refine za 26 _ rfl ?_ w.heap.size 0 cs _ rfl HAW.o Tryz.underlying26 rfl ?_ ?_);(exact wA rfl);rw[HL.o.1];kernel_rfl)|(go_at_call 21;refine HC1.o.mono ?_;rintro e z1 ⟨rfl,hbz⟩;have HBA:=I hbz;clear hbz))
  go_ret
  first|exact⟨z7 HR.o.symm,HBW.o.trans (HBA.o.mono HBW.o.size)⟩|exact⟨rfl,HBW.o.trans (HBA.o.mono HBW.o.size)⟩
 |true=>
  have HO2:Hid (res=(typeT t && fitsV x t)):=I (by rw[HO.o,hr1,Bool.true_and])
  rw[hr1] at HC1
  cases ht2:typeT t with
  |false=>
   have HR:Hid (res= false):=I (HO2.o.trans (by simp[ht2]))
   rw[ht2] at HC2
   go_wp2_with (first|((with_reducible refine za 26 _ rfl ?_ w.heap.size 0 cs _ rfl HAW.o Tryz.underlying26 rfl ?_ ?_);(exact wA rfl);rw[HL.o.1];kernel_rfl)|(go_at_call 21;refine HC1.o.mono ?_;rintro e z1 ⟨rfl,hbz⟩;have HBA:=I hbz;clear hbz)|((with_reducible refine za 45 _ rfl ?_ pb 0 cs' _ rfl (zc HB.o HBA.o HS2.o) Tryz.underlying45 rfl ?_ ?_);(exact wA rfl);rw[HL'.o.1];kernel_rfl)|(go_at_call 43;refine(HC2.o _ HBA.o).mono ?_;rintro e z2 ⟨rfl,hbz⟩;have HBC:=I (HBA.o.trans (hbz.mono HBA.o.size));clear hbz))
   go_ret
   first|exact⟨z7 HR.o.symm,HBW.o.trans (HBC.o.mono HBW.o.size)⟩|exact⟨rfl,HBW.o.trans (HBC.o.mono HBW.o.size)⟩
  |true=>
   have HR:Hid (res= fitsV x t):=I (HO2.o.trans (by rw[ht2];exact Bool.true_and _))
   rw[ht2] at HC2
   have hx1:zm x 1= true:=by unfold z1P at hr1;rw[Bool.and_eq_true] at hr1;exact hr1.2
   have ht1:zY t 1= true:=by unfold typeT at ht2;rw[Bool.and_eq_true] at ht2;exact ht2.2
   have HC3:=I (fun(z:World) (hz:Below W.heap.size W z)=>zbu x t 1 1 cs cs' z hx1 ht1 (HVW.o.next hz) (HV'.o.next (HBW.o.trans (hz.mono HBW.o.size))))
   clear hx1 ht1 hr1 ht2
   go_wp2_with (first|((with_reducible refine za 26 _ rfl ?_ w.heap.size 0 cs _ rfl (zc HAW.o HBC.o HLT.o) Tryz.underlying26 rfl ?_ ?_);(exact wA rfl);rw[HL.o.1];kernel_rfl)|((with_reducible refine za 45 _ rfl ?_ pb 0 cs' _ rfl (zc HB.o HBC.o HS2.o) Tryz.underlying45 rfl ?_ ?_);(exact wA rfl);rw[HL'.o.1];kernel_rfl)|((with_reducible refine za 26 _ rfl ?_ w.heap.size 0 cs _ rfl HAW.o Tryz.underlying26 rfl ?_ ?_);(exact wA rfl);rw[HL.o.1];kernel_rfl)|(go_at_call 21;refine HC1.o.mono ?_;rintro e z1 ⟨rfl,hbz⟩;have HBA:=I hbz;clear hbz)|((with_reducible refine za 45 _ rfl ?_ pb 0 cs' _ rfl (zc HB.o HBA.o HS2.o) Tryz.underlying45 rfl ?_ ?_);(exact wA rfl);rw[HL'.o.1];kernel_rfl)|(go_at_call 43;refine(HC2.o _ HBA.o).mono ?_;rintro e z2 ⟨rfl,hbz⟩;have HBC:=I (HBA.o.trans (hbz.mono HBA.o.size));clear hbz)|(go_at_call 44;refine(HC3.o _ HBC.o).mono ?_;rintro e z3 ⟨rfl,hbz⟩;have HBD:=I (HBC.o.trans (hbz.mono HBC.o.size));clear hbz))
   go_ret
   exact⟨z7 HR.o.symm,HBW.o.trans (HBD.o.mono HBW.o.size)⟩
end
section
open Go Go.RowKit
theorem zdY:∀ (x:ET) (far:Nat) (cs:List Value) (w:World),far<=40->ExpAt w w.heap.size cs x->Calls Tryz.prog 24 #[.agg ⟨cs⟩,.int .i64 far] w (z5X w):=by
 intro x
 induction x using ET.ind with
 |h k s t ns its ih=>
  intro far cs w hfar hv
  obtain⟨v0,v1,v2,v3,v4,v5,vn,vi,rfl,_,_,_,_,hil,hi⟩:=hv.inv
  obtain⟨_,A,c,rfl,hA⟩:=hi
  have HA:=I hA
  have IH:=I ih
  unfold maxLen at hil
  clear hA hv ih
  go_enter Tryz.func24,Tryz.ntmps24
  go_upto_region 1 with (fail)
  have hb0:=zd w (.cells ⟨[.int .i64 k,.string s,v0,v1,v2,v3,v4,v5,vn,.slice A its.length c]⟩ 29)
  have hz0:=zw w (.cells ⟨[.int .i64 k,.string s,v0,v1,v2,v3,v4,v5,vn,.slice A its.length c]⟩ 29)
  have c5:=zA w ⟨[.int .i64 k,.string s,v0,v1,v2,v3,v4,v5,vn,.slice A its.length c]⟩ 29 9
  generalize w.alloc (.cells ⟨[.int .i64 k,.string s,v0,v1,v2,v3,v4,v5,vn,.slice A its.length c]⟩ 29)= W at*
  have HB:=I hb0
  have C5:=I c5
  have HSZ:=I hz0
  clear hb0 c5 hz0
  go_wp2
  go_loopg [5,6] its.length (fun g m i wr=>∃ (j:Nat) (x:Int),j+g= its.length/\i= .int .i64 j/\m= .int .i64 x/\Below W.heap.size W wr)
  case atStart=>exact⟨0,0,by omega,rfl,rfl,Below.refl _ _⟩
  case round=>
   obtain⟨j,x,hj,rfl,rfl,hb⟩:=hrel
   have HB1:=I hb
   have d5:=(hb.cell (p:=⟨w.heap.size,9,none⟩) HSZ.o).trans C5.o
   clear hb
   simp only[List.getElem?_toArray,List.getElem?_cons_succ,List.getElem?_cons_zero] at d5
   cases gk with
   |zero=>
    have hge: ¬ ((j:Int) <(its.length:Int)):=by omega
    go_wp2
    go_ret
    exact⟨_,rfl,HB.o.trans (HB1.o.mono HB.o.size)⟩
   |succ g=>
    have hlt:(j:Int) <(its.length:Int):=by omega
    by_cases h0:far= 0
    ·subst h0
     go_wp2
     go_ret
     exact⟨_,rfl,HB.o.trans (HB1.o.mono HB.o.size)⟩
    ·have hpos:(0:Int) <(far:Int):=by omega
     have hz2:w.heap.size<=wr.heap.size:=Nat.le_trans HB.o.size HB1.o.size
     obtain⟨y,hy⟩:∃ y,its[j]?= some y:=⟨_,List.getElem?_eq_getElem (by omega)⟩
     obtain⟨b,o,rfl,hbb,hc⟩:=HA.o (by omega)
     obtain⟨cs,hcl,hr,hR⟩:=hc j y hy
     have hB2:=HB.o.trans (HB1.o.mono HB.o.size)
     have HR:=I (zc hr hB2 hbb)
     have HC:=I (IH.o y (List.mem_of_getElem? hy) (far - 1) cs wr (by omega) ((hR.under hB2).more hB2.size))
     have HCL:=I hcl
     have hf1:((far - 1:Nat):Int)=(far:Int) - 1:=by omega
     clear hc hr hR hB2 hy hcl h0
     rw[hf1] at HC
     clear hf1
     go_wp2_with (first|(with_reducible refine za 29 _ rfl ?hw b (o+j*10) cs _ rfl HR.o Tryz.underlying29 rfl ?hi ?_;(case hw=>exact wA rfl);(case hi=>rw[HCL.o];kernel_rfl))|(go_at_call 24;refine HC.o.mono ?_;rintro e w' ⟨z,rfl,hb⟩;have HB2:=I hb;clear hb))
     all_goals
      go_roundg g
      case measure=>omega
      case rel=>exact⟨j+1,_,by omega,by go_num,rfl,HB1.o.trans (HB2.o.mono HB1.o.size)⟩
theorem z88 (t:ET) (cs:List Value) (w:World) (hv:ExpAt w w.heap.size cs t):Calls Tryz.prog 25 #[.agg ⟨cs⟩] w (z4M w):=
 (z4H t cs w hv).mono fun e w' ⟨h,hb⟩=>⟨(cntE t 0:Nat),by omega,by have:=z63 t 0 (by omega);omega,h,hb⟩
theorem zdW:∀ (x:ET) (cs:List Value) (w:World),ExpAt w w.heap.size cs x->Calls Tryz.prog 11 #[.agg ⟨cs⟩] w (z52 w):=by
 intro x
 induction x using ET.ind with
 |h k s t ns its ih=>
  intro cs w hv
  have HV:=I hv
  have HCL:=I (eslen hv)
  obtain⟨v0,v1,v2,v3,v4,v5,vn,vi,hcs,_,_,ht,_,hil,hi⟩:=hv.inv
  obtain⟨_,A,c,rfl,hA⟩:=hi
  have HA:=I hA
  have IH:=I ih
  have HT:=I ht
  have HCS:=I hcs
  unfold maxLen at hil
  clear hA hv ih ht hcs
  go_enter Tryz.func11,Tryz.ntmps11
  go_upto_region 1 with (fail)
  have HB:=I (zd w (.cells ⟨cs⟩ 29))
  have HR:=I (zv w cs 29)
  have HSZ:=I (zw w (.cells ⟨cs⟩ 29))
  generalize w.alloc (.cells ⟨cs⟩ 29)= W at*
  have HR2:Hid (∀ z:World,Below W.heap.size W z->z.rangeAt w.heap.size 0 cs/\z.rangeAt w.heap.size 2 [v0,v1,v2,v3,v4,v5]/\z.cell? ⟨w.heap.size,9,none⟩= some (.slice A its.length c)):=I fun z hz=>by
   have hr:=zc HR.o hz HSZ.o
   refine⟨hr,?_,?_⟩
   ·rw[HCS.o] at hr
    exact z40 (p:=[.int .i64 k,.string s]) (cs:=[v0,v1,v2,v3,v4,v5]) (q:=[vn,.slice A its.length c]) hr 2 rfl
   ·rw[HCS.o] at hr
    exact z5N hr 9 rfl
  have HC:=I (zdY (.mk k s t ns its) 40 cs W (by omega) ((HV.o.under HB.o).more HB.o.size))
  go_wp2_with (first|(with_reducible refine za 29 _ rfl ?hw w.heap.size 0 cs _ rfl HR.o Tryz.underlying29 rfl ?hi ?_;(case hw=>exact wA rfl);(case hi=>rw[HCL.o];kernel_rfl))|(go_at_call 24;fail))
  refine HC.o.mono ?_
  rintro e w2 ⟨z,rfl,hb⟩
  have HB2:=I hb
  have HRZ:=I (HR2.o w2 hb).1
  have HB2':=I (HB.o.trans (hb.mono HB.o.size))
  have HC2:=I (z88 (.mk k s t ns its) cs w2 ((HV.o.under HB2'.o).more HB2'.o.size))
  clear hb HC
  by_cases hz:z<=30
  ·have hz':decide ((30:Int) < z)= false:=by simp;omega
   go_wp2_with (first|(with_reducible refine za 29 _ rfl ?hw w.heap.size 0 cs _ rfl HRZ.o Tryz.underlying29 rfl ?hi ?_;(case hw=>exact wA rfl);(case hi=>rw[HCL.o];kernel_rfl))|(go_at_call 25;fail))
   refine HC2.o.mono ?_
   rintro e w3 ⟨y,hy0,hy1,rfl,hb⟩
   have HB3:=I (HB2.o.trans (hb.mono HB2.o.size))
   have HRY:=I (HR2.o w3 HB3.o).2.1
   have HB3':=I (HB.o.trans (HB3.o.mono HB.o.size))
   have HC3:=I (za2 t [v0,v1,v2,v3,v4,v5] w3 ((HT.o.under HB3'.o).more HB3'.o.size))
   clear hb HC2 HRZ HB2 HB2'
   by_cases hy:y < 500
   ·have hy':decide ((500:Int)<=y)= false:=by simp;omega
    go_wp2_with (first|(with_reducible refine za 26 _ rfl ?hw w.heap.size 2 [v0,v1,v2,v3,v4,v5] _ rfl HRY.o Tryz.underlying26 rfl ?hi ?_;(case hw=>exact wA rfl);(case hi=>kernel_rfl))|(go_at_call 20;fail))
    refine HC3.o.mono ?_
    rintro e w4 ⟨q,rfl,hb⟩
    have HB4:=I (HB3.o.trans (hb.mono HB3.o.size))
    have HB4':=I (HB.o.trans (HB4.o.mono HB.o.size))
    clear hb HC3 HRY HB3 HB3'
    cases q with
    |false=>
     go_wp2
     go_ret
     exact⟨_,rfl,HB4'.o⟩
    |true=>
     go_wp2
     go_loopg [3] its.length (fun g i wr=>∃ j:Nat,j+g= its.length/\i= .int .i64 j/\Below W.heap.size W wr)
     case atStart=>exact⟨0,by omega,rfl,HB4.o⟩
     case round=>
      obtain⟨j,hj,rfl,hb⟩:=hrel
      have HB5:=I hb
      have HB5':=I (HB.o.trans (hb.mono HB.o.size))
      have d9:=(HR2.o wr hb).2.2
      clear hb
      cases gk with
      |zero=>
       have hge: ¬ ((j:Int) <(its.length:Int)):=by omega
       go_wp2
       go_ret
       exact⟨_,rfl,HB5'.o⟩
      |succ g=>
       have hlt:(j:Int) <(its.length:Int):=by omega
       obtain⟨y,hy⟩:∃ y,its[j]?= some y:=⟨_,List.getElem?_eq_getElem (by omega)⟩
       obtain⟨b,o,rfl,hbb,hc⟩:=HA.o (by omega)
       obtain⟨ks,hcl,hr,hR⟩:=hc j y hy
       have HRK:=I (zc hr HB5'.o hbb)
       have HCK:=I (IH.o y (List.mem_of_getElem? hy) ks wr ((hR.under HB5'.o).more HB5'.o.size))
       have HKL:=I hcl
       clear hc hr hR hy hcl
       go_wp2_with (first|(with_reducible refine za 29 _ rfl ?hw b (o+j*10) ks _ rfl HRK.o Tryz.underlying29 rfl ?hi ?_;(case hw=>exact wA rfl);(case hi=>rw[HKL.o];kernel_rfl))|(go_at_call 11;fail))
       refine HCK.o.mono ?_
       rintro e w6 ⟨q,rfl,hb⟩
       have HB6:=I (HB5.o.trans (hb.mono HB5.o.size))
       clear hb
       cases q with
       |false=>
        go_wp2
        go_ret
        exact⟨_,rfl,HB.o.trans (HB6.o.mono HB.o.size)⟩
       |true=>
        go_wp2
        go_roundg g
        case measure=>omega
        case rel=>exact⟨j+1,by omega,by go_num,HB6.o⟩
   ·have hy':decide ((500:Int)<=y)= true:=by simp;omega
    go_wp2
    go_ret
    exact⟨_,rfl,HB3'.o⟩
  ·have hz':decide ((30:Int) < z)= true:=by simp;omega
   go_wp2
   go_ret
   exact⟨_,rfl,HB2'.o⟩
def zbK (E:List VarT) (w:World) (e:Ending) (w':World):Prop:=∃ b:Bool,e= .returned (.bool b)/\(b= true->E.length<=40)/\Below w.heap.size w w'
theorem zdp (E:List VarT) (v:Value) (w:World) (hv:SlAt w w.heap.size 11 (VarAt w w.heap.size) v E) (hE:E.length<=maxLen):
  Calls Tryz.prog 12 #[v] w (zbK E w):=by
 obtain⟨hel,EA,ec,rfl,hea⟩:=hv
 have HEB:=I hea
 unfold maxLen at hE
 clear hea hel
 go_enter Tryz.func12,Tryz.ntmps12
 go_wp2
 go_loopg [3] E.length (fun q x u=>∃ j:Nat,j+q= E.length/\x= .int .i64 j/\Below w.heap.size w u)
 case atStart=>exact⟨0,by omega,rfl,Below.refl _ _⟩
 case round=>
  obtain⟨jj,hj,rfl,hb⟩:=hrel
  have HBK:=I hb
  clear hb
  cases gk with
  |zero=>
   obtain rfl:jj= E.length:=by omega
   have hge: ¬ ((E.length:Int) <(E.length:Int)):=by omega
   by_cases h40:(E.length:Int)<=40
   ·go_wp2
    go_ret
    exact⟨_,rfl,(fun _=>by omega),HBK.o⟩
   ·go_wp2
    go_ret
    exact⟨_,rfl,nofun,HBK.o⟩
  |succ q=>
   have hlt2:(jj:Int) <(E.length:Int):=by omega
   obtain⟨x,he⟩:∃ e,E[jj]?= some e:=⟨_,List.getElem?_eq_getElem (by omega)⟩
   obtain⟨bb,o,rfl,hbl,hc⟩:=HEB.o (by omega)
   obtain⟨ks,hkl,hks,hva⟩:=hc jj x he
   obtain⟨ct,ci,hce,h3,h6,hct,hci⟩:=hva.ex
   have hnm:=hva.name
   unfold maxLen at hnm
   have HRG:Hid (∀ z:World,Below w.heap.size w z->z.cell? ⟨bb,o+jj*11,none⟩= some (.string x.name)/\z.rangeAt bb (o+jj*11+2) ct/\z.rangeAt bb (o+jj*11+5) ci):=I fun z hz=>by
    have hr0:=zc hks hz hbl
    rw[hce] at hr0
    refine⟨z5N hr0 0 rfl,z40 (p:=[.string x.name,.int .i64 x.label]) (cs:=ct) (q:=ci) hr0 _ rfl,?_⟩
    exact z40 (p:=[.string x.name,.int .i64 x.label] ++ ct) (cs:=ci) (q:=[]) (by rw[List.append_nil];exact hr0) _ (by simp[h3])
   have HT:=I (fun z (hz:Below w.heap.size w z)=>zeq x.type ct z ((hct.under hz).more hz.size))
   have HI:=I (fun z (hz:Below w.heap.size w z)=>za2 x.init ci z ((hci.under hz).more hz.size))
   have HL3:=I h3
   have HL6:=I h6
   have HC1:=I (HT.o wr HBK.o)
   have HR1:=I (HRG.o wr HBK.o).2.1
   clear hc he hks hva hkl hct hci hce h3 h6
   go_wp2_with (first|(with_reducible refine za 45 _ rfl ?hw bb (o+jj*11+2) ct _ rfl HR1.o Tryz.underlying45 rfl ?hi ?_;(case hw=>exact wA rfl);(case hi=>rw[HL3.o];kernel_rfl))|(go_at_call 28;fail))
   refine HC1.o.mono ?_
   rintro e w2 ⟨q1,rfl,hb⟩
   have HB2:=I (HBK.o.trans (hb.mono HBK.o.size))
   clear hb HC1
   cases q1 with
   |false=>
    go_wp2
    go_ret
    exact⟨_,rfl,nofun,HB2.o⟩
   |true=>
    have HC2:=I (HI.o w2 HB2.o)
    have HR2:=I (HRG.o w2 HB2.o).2.2
    go_wp2_with (first|(with_reducible refine za 26 _ rfl ?hw bb (o+jj*11+5) ci _ rfl HR2.o Tryz.underlying26 rfl ?hi ?_;(case hw=>exact wA rfl);(case hi=>rw[HL6.o];kernel_rfl))|(go_at_call 20;fail))
    refine HC2.o.mono ?_
    rintro e w3 ⟨q2,rfl,hb⟩
    have HB3:=I (HB2.o.trans (hb.mono HB2.o.size))
    clear hb HC2
    cases q2 with
    |false=>
     go_wp2
     go_ret
     exact⟨_,rfl,nofun,HB3.o⟩
    |true=>
     have c0:=(HRG.o w3 HB3.o).1
     by_cases h300:(300:Int) <(x.name.size:Int)
     ·go_wp2
      go_ret
      exact⟨_,rfl,nofun,HB3.o⟩
     ·go_wp2
      go_roundg q
      case measure=>omega
      case rel=>exact⟨jj+1,by omega,by go_num,HB3.o⟩
end
end Go.Proofs.YtmpbepjjbaeebaaGreatDoor
