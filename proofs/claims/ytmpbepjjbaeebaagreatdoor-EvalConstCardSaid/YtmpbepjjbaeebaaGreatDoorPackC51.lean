/- Parts of a proof: RKey, ROrd. -/
import Derived.Test.YtmpbepjjbaeebaaGreatDoorPackC13
import Derived.Test.YtmpbepjjbaeebaaGreatDoorPackC14
import Derived.Test.YtmpbepjjbaeebaaGreatDoorPackC23
import Derived.Test.YtmpbepjjbaeebaaGreatDoorPackC50
set_option maxHeartbeats 8000000
set_option maxRecDepth 100000
set_option linter.unusedVariables false
set_option linter.unusedSimpArgs false
namespace Go.Proofs.YtmpbepjjbaeebaaGreatDoor
section
open Go Go.RowKit
theorem zcs {f:Nat} (hf:f < 2 ^ 64):nanR f= decide (9218868437227405312 < f % 9223372036854775808):=by
 unfold nanR
 rw[IntKind.wrap_u64]
 by_cases h:9218868437227405312 < f % 9223372036854775808
 ·rw[decide_eq_true h,decide_eq_true (by omega)]
 ·rw[decide_eq_false h,decide_eq_false (by omega)]
theorem z7u (f:Nat) (hf:f < 2 ^ 64) (w:World):Calls Tryz.prog 135 #[.float .f64 f] w fun e w'=>e= .returned (.int .i64 (keyZ f))/\w'= w:=by
 have e1:∀ W:World,(callFunc 166 #[.float .f64 f]).run Tryz.prog W= .ok (.value (.int .u64 f)) W:=fun W=>by
  rw[run_callFunc_extern Tryz.func166 (by kernel_rfl) (by kernel_rfl) (by kernel_rfl) (e:=Extern.MathFloatBits.float64bits) (by kernel_rfl)]
  rfl
 have HC:=I (fun w=>z3j f hf w)
 have hn:=zcs hf
 by_cases h:9218868437227405312 < f % 9223372036854775808
 ·have HV:Hid (keyZ f= 9223372036854775807):=I (by unfold keyZ;rw[if_pos h])
  rw[hn,decide_eq_true h] at HC
  clear hn h hf
  go_enter Tryz.func135,Tryz.ntmps135
  go_wp2_with (go_at_call 138;refine(HC.out _).mono ?_;rintro e z ⟨rfl,rfl⟩)
  go_ret
  exact⟨by rw[HV.out];rfl,rfl⟩
 ·rw[hn,decide_eq_false h] at HC
  by_cases h2:9223372036854775808<=f
  ·have HV:Hid (keyZ f= -1 - ((f:Int) - 9223372036854775808)):=I (by unfold keyZ;rw[if_neg h,if_pos h2])
   have t1:(9223372036854775808:Int)<=(f:Int):=by omega
   have t2:(f:Int) < 18446744073709551616:=by omega
   clear hn h hf h2
   go_enter Tryz.func135,Tryz.ntmps135
   go_wp2_with (go_at_call 138;refine(HC.out _).mono ?_;rintro e z ⟨rfl,rfl⟩)
   go_ret
   exact⟨by rw[HV.out];rfl,rfl⟩
  ·have HV:Hid (keyZ f= f):=I (by unfold keyZ;rw[if_neg h,if_neg h2])
   have t1:decide ((9223372036854775808:Int)<=(f:Int))= false:=decide_eq_false (by omega)
   have t2:IntKind.i64.wrap (f:Int)= f:=by rw[IntKind.wrap_i64];omega
   clear hn h hf h2
   go_enter Tryz.func135,Tryz.ntmps135
   go_wp2_with (go_at_call 138;refine(HC.out _).mono ?_;rintro e z ⟨rfl,rfl⟩)
   go_ret
   exact⟨by rw[HV.out];rfl,rfl⟩
theorem z8q (f g:Nat) (hf:f < 2 ^ 64) (hg:g < 2 ^ 64) (w:World):Calls Tryz.prog 77 #[.float .f64 f,.float .f64 g] w fun e w'=>e= .returned (.int .i64 (cmpF f g))/\w'= w:=by
 have HF:=I (fun w=>z7u f hf w)
 have HG:=I (fun w=>z7u g hg w)
 have HV:=I (zaZ hf hg)
 clear hf hg
 generalize keyZ f= a at*
 generalize keyZ g= b at*
 rcases z00 a b with ⟨h1,h2⟩|⟨h1,h2⟩|⟨h1,h2⟩
 ·rw[h1] at HV
  clear h1
  go_enter Tryz.func77,Tryz.ntmps77
  go_wp2_with (first|(go_at_call 135;with_reducible refine(HF.out _).mono ?_;rintro e z ⟨rfl,rfl⟩)|(go_at_call 135;with_reducible refine(HG.out _).mono ?_;rintro e z ⟨rfl,rfl⟩))
  go_ret
  exact⟨by rw[HV.out];rfl,rfl⟩
 ·rw[h1] at HV
  subst h2
  clear h1
  have t1: ¬ a < a:=by omega
  go_enter Tryz.func77,Tryz.ntmps77
  go_wp2_with (first|(go_at_call 135;with_reducible refine(HF.out _).mono ?_;rintro e z ⟨rfl,rfl⟩)|(go_at_call 135;with_reducible refine(HG.out _).mono ?_;rintro e z ⟨rfl,rfl⟩))
  go_ret
  exact⟨by rw[HV.out];rfl,rfl⟩
 ·rw[h1] at HV
  clear h1
  have t1: ¬ a < b:=by omega
  go_enter Tryz.func77,Tryz.ntmps77
  go_wp2_with (first|(go_at_call 135;with_reducible refine(HF.out _).mono ?_;rintro e z ⟨rfl,rfl⟩)|(go_at_call 135;with_reducible refine(HG.out _).mono ?_;rintro e z ⟨rfl,rfl⟩))
  go_ret
  exact⟨by rw[HV.out];rfl,rfl⟩
end
section
open Go Go.RowKit
theorem zcl {α:Type} {f:α->α->Int} {l r:List α} {k:Nat} {x y:α} (h:l[k]?= some x) (h':r[k]?= some y):listC f (l.drop k) (r.drop k)= if f x y≠0 then f x y else listC f (l.drop (k+1)) (r.drop (k+1)):=by
 obtain⟨h1,h2⟩:=List.getElem?_eq_some_iff.1 h
 obtain⟨h3,h4⟩:=List.getElem?_eq_some_iff.1 h'
 rw[List.drop_eq_getElem_cons h1,List.drop_eq_getElem_cons h3,h2,h4,listC]
theorem zb7 {k n n':Int} {f f':Nat} {s s':ByteArray} {ns ns':List ByteArray} (h1: ¬ (k= 1\/k= 2)) (h3: ¬ k= 3) (h4: ¬ k= 4):
  rowV k n n' f f' s s' ns ns'= if k= 5 then(if k= 5\/k= 6 then 0 else if cmpI n n'≠0 then cmpI n n' else cmpS s s') else
   if(if k= 5\/k= 6 then 0 else if cmpI n n'≠0 then cmpI n n' else cmpS s s')≠0 then(if k= 5\/k= 6 then 0 else if cmpI n n'≠0 then cmpI n n' else cmpS s s') else listC cmpS ns ns':=by
 unfold rowV
 rw[if_neg h1,if_neg h3,if_neg h4]
 by_cases h5:k= 5
 ·rw[if_pos h5,if_pos h5,if_pos (Or.inl h5)]
 ·rw[if_neg h5,if_neg h5]
  by_cases h6:k= 6
  ·have h56:k= 5\/k= 6:=Or.inr h6
   rw[if_pos h6]
   simp only[if_pos h56]
   simp
  ·have h56: ¬ (k= 5\/k= 6):=fun h=>h.elim h5 h6
   rw[if_neg h6]
   simp only[if_neg h56]
   unfold or3
   by_cases h0:cmpI n n'= 0
   ·simp[h0]
   ·simp[h0]
theorem vlen6 {w:World} {B:Nat} {cs:List Value} {t:VT} (h:ValAt w B cs t):cs.length= 6:=(zi h).1
theorem z9B:∀ (t t':VT) (cs cs':List Value) (w:World),ValAt w w.heap.size cs t->ValAt w w.heap.size cs' t'->
  Calls Tryz.prog 42 #[.agg ⟨cs⟩,.agg ⟨cs'⟩] w fun e w'=>e= .returned (.int .i64 (ordV t t'))/\Below w.heap.size w w':=by
 intro t
 induction t using VT.ind with
 |h k n f s ns its ih=>
  intro t' cs cs' w hv hv'
  cases t' with
  |mk k' n' f' s' ns' its'=>
  have IH:=I ih
  obtain⟨vn,vi,rfl,_,_,hf,_,hn,_,hi⟩:=hv.inv
  obtain⟨A,c,rfl,hil,hA⟩:=z0F hi
  obtain⟨vn',vi',rfl,_,_,hf',_,hn',_,hi'⟩:=hv'.inv
  obtain⟨A',c',rfl,hil',hA'⟩:=z0F hi'
  have HF:=I (wf64 hf)
  have HF':=I (wf64 hf')
  have HN:=I hn
  have HN':=I hn'
  have HA:=I hA
  have HA':=I hA'
  have HO:Hid (ordV (.mk k n f s ns its) (.mk k' n' f' s' ns' its')= if cmpI k k'≠0 then cmpI k k' else if rowV k n n' f f' s s' ns ns'≠0\/leafK k= true then rowV k n n' f f' s s' ns ns' else listC ordV its its'):=I (by rw[ordV,z4a])
  generalize ordV (.mk k n f s ns its) (.mk k' n' f' s' ns' its')= res at*
  have hB0:=ze w (.cells ⟨[.int .i64 k,.int .i64 n,.float .f64 f,.string s,vn,.slice A its.length c]⟩ 26)
  have hB1:=ze (w.alloc (.cells ⟨[.int .i64 k,.int .i64 n,.float .f64 f,.string s,vn,.slice A its.length c]⟩ 26)) (.cells ⟨[.int .i64 k',.int .i64 n',.float .f64 f',.string s',vn',.slice A' its'.length c']⟩ 26)
  have HB:=I (hB0.trans (hB1.mono hB0.size))
  have HSB:Hid (w.heap.size+1 <((w.alloc (.cells ⟨[.int .i64 k,.int .i64 n,.float .f64 f,.string s,vn,.slice A its.length c]⟩ 26)).alloc (.cells ⟨[.int .i64 k',.int .i64 n',.float .f64 f',.string s',vn',.slice A' its'.length c']⟩ 26)).heap.size):=I (by simp)
  have hRA:=zd (zq w [.int .i64 k,.int .i64 n,.float .f64 f,.string s,vn,.slice A its.length c] 26) hB1 (zt w _)
  have hRB:=zq (w.alloc (.cells ⟨[.int .i64 k,.int .i64 n,.float .f64 f,.string s,vn,.slice A its.length c]⟩ 26)) [.int .i64 k',.int .i64 n',.float .f64 f',.string s',vn',.slice A' its'.length c'] 26
  rw[World.size_alloc] at hRB
  have HRA:=I hRA
  have HRB:=I hRB
  clear ih hv hn hi hA hf hv' hn' hi' hA' hf' hB0 hB1 hRA hRB
  go_enter Tryz.func42,Tryz.ntmps42
  go_upto_region 1 with (fail)
  generalize (w.alloc (.cells ⟨[.int .i64 k,.int .i64 n,.float .f64 f,.string s,vn,.slice A its.length c]⟩ 26)).alloc (.cells ⟨[.int .i64 k',.int .i64 n',.float .f64 f',.string s',vn',.slice A' its'.length c']⟩ 26)= W at*
  obtain⟨pb,hpb⟩:∃ pb,w.heap.size+1= pb:=⟨_,rfl⟩
  rw[hpb] at HRB HSB
  rw[hpb]
  have HPB:Hid (w.heap.size < pb):=I (by omega)
  clear hpb
  have d0:W.cell? ⟨w.heap.size,0,none⟩= some (.int .i64 k):=by have:=HRA.out 0 _ rfl;simpa using this
  have d1:W.cell? ⟨w.heap.size,1,none⟩= some (.int .i64 n):=by have:=HRA.out 1 _ rfl;simpa using this
  have d2:W.cell? ⟨w.heap.size,2,none⟩= some (.float .f64 f):=by have:=HRA.out 2 _ rfl;simpa using this
  have d3:W.cell? ⟨w.heap.size,3,none⟩= some (.string s):=by have:=HRA.out 3 _ rfl;simpa using this
  have d4:W.cell? ⟨w.heap.size,4,none⟩= some vn:=by have:=HRA.out 4 _ rfl;simpa using this
  have d5:W.cell? ⟨w.heap.size,5,none⟩= some (.slice A its.length c):=by have:=HRA.out 5 _ rfl;simpa using this
  have e0:W.cell? ⟨pb,0,none⟩= some (.int .i64 k'):=by have:=HRB.out 0 _ rfl;simpa using this
  have e1:W.cell? ⟨pb,1,none⟩= some (.int .i64 n'):=by have:=HRB.out 1 _ rfl;simpa using this
  have e2:W.cell? ⟨pb,2,none⟩= some (.float .f64 f'):=by have:=HRB.out 2 _ rfl;simpa using this
  have e3:W.cell? ⟨pb,3,none⟩= some (.string s'):=by have:=HRB.out 3 _ rfl;simpa using this
  have e4:W.cell? ⟨pb,4,none⟩= some vn':=by have:=HRB.out 4 _ rfl;simpa using this
  have e5:W.cell? ⟨pb,5,none⟩= some (.slice A' its'.length c'):=by have:=HRB.out 5 _ rfl;simpa using this
  have D5:=I d5
  have E5:=I e5
  clear HRA HRB
  have HSG:=I z3y
  have HTX:=I z6b
  by_cases hk:k= k'
  ·subst hk
   have hkk:(k !=k)= false:=by simp
   have HO1:Hid (res= if rowV k n n' f f' s s' ns ns'≠0\/leafK k= true then rowV k n n' f f' s s' ns ns' else listC ordV its its'):=I (by rw[HO.out];simp[cmpI])
   clear HO
   by_cases k1:k= 1
   ·subst k1
    have HV:Hid (res= cmpI n n'):=I (by rw[HO1.out,if_pos (.inr rfl)];rfl)
    go_wp2_with (go_at_call 76;refine(HSG.out _ _ _).mono ?_;rintro en z ⟨rfl,h⟩;rw[h];clear h z)
    go_ret
    exact⟨zH HV.out.symm,HB.out⟩
   by_cases k2:k= 2
   ·subst k2
    have HV:Hid (res= cmpI n n'):=I (by rw[HO1.out,if_pos (.inr rfl)];rfl)
    go_wp2_with (go_at_call 76;refine(HSG.out _ _ _).mono ?_;rintro en z ⟨rfl,h⟩;rw[h];clear h z)
    go_ret
    exact⟨zH HV.out.symm,HB.out⟩
   by_cases k3:k= 3
   ·subst k3
    have HV:Hid (res= cmpF f f'):=I (by rw[HO1.out,if_pos (.inr rfl)];rfl)
    have HFO:=I (fun z=>z8q f f' HF.out HF'.out z)
    go_wp2_with (go_at_call 77;refine(HFO.out _).mono ?_;rintro en z ⟨rfl,h⟩;rw[h];clear h z)
    go_ret
    exact⟨zH HV.out.symm,HB.out⟩
   by_cases k4:k= 4
   ·subst k4
    have HV:Hid (res= cmpS s s'):=I (by rw[HO1.out,if_pos (.inr rfl)];rfl)
    go_wp2_with (go_at_call 78;refine(HTX.out _ _ _).mono ?_;rintro en z ⟨rfl,h⟩;rw[h];clear h z)
    go_ret
    exact⟨zH HV.out.symm,HB.out⟩
   have q1:(k ==1)= false:=by simpa using k1
   have q2:(k ==2)= false:=by simpa using k2
   have q3:(k ==3)= false:=by simpa using k3
   have q4:(k ==4)= false:=by simpa using k4
   have hlf:leafK k= false:=by
    unfold leafK
    cases h1:decide (1<=k) with
    |false=>rfl
    |true=>rw[Bool.true_and,decide_eq_false_iff_not];have:=of_decide_eq_true h1;omega
   obtain⟨rv,hrv⟩:∃ rv,rowV k n n' f f' s s' ns ns'= rv:=⟨_,rfl⟩
   have HRV:=I hrv
   have HO2:Hid (res= if rv≠0 then rv else listC ordV its its'):=I (by rw[HO1.out,hrv,hlf];simp)
   have HKN:=I (show ¬ (k= 1\/k= 2)/\¬ k= 3/\¬ k= 4 from⟨fun h=>h.elim k1 k2,k3,k4⟩)
   clear HO1 hlf hrv k1 k2 k3 k4
   obtain⟨ca,hca⟩:∃ ca,(if k= 5\/k= 6 then 0 else if cmpI n n'≠0 then cmpI n n' else cmpS s s')= ca:=⟨_,rfl⟩
   have HCA:=I hca
   clear hca d2 e2
   go_upto_region 12 with (fail)
   go_cut [48] (fun v z=>v= .bool (!decide (k= 5) && !decide (k= 6))/\z= W)
   case first=>
    by_cases h5:k= 5
    ·have h5a:(k !=5)= false:=by simpa using h5
     have HV:Hid ((!decide (k= 5) && !decide (k= 6))= false):=I (by rw[decide_eq_true h5];rfl)
     clear h5
     go_wp2
     go_meet
     case rel=>exact⟨by rw[HV.out],rfl⟩
    ·have h5a:(k !=5)= true:=by simpa using h5
     by_cases h6:k= 6
     ·have h6a:(k !=6)= false:=by simpa using h6
      have HV:Hid ((!decide (k= 5) && !decide (k= 6))= false):=I (by rw[decide_eq_true h6];simp)
      clear h5 h6
      go_wp2
      go_meet
      case rel=>exact⟨by rw[HV.out],rfl⟩
     ·have h6a:(k !=6)= true:=by simpa using h6
      have HV:Hid ((!decide (k= 5) && !decide (k= 6))= true):=I (by rw[decide_eq_false h6,decide_eq_false h5];rfl)
      clear h5 h6
      go_wp2
      go_meet
      case rel=>exact⟨by rw[HV.out],rfl⟩
   case rest=>
   obtain⟨rfl,rfl⟩:=hcut
   obtain⟨b48,hb48⟩:∃ b,(!decide (k= 5) && !decide (k= 6))= b:=⟨_,rfl⟩
   have HB48:=I hb48
   rw[hb48]
   clear hb48
   go_upto_if 48 with (fail)
   go_cut [5] (fun v z=>v= .int .i64 ca/\z= wc)
   case first=>
    cases b48 with
    |false=>
     have HV:Hid (ca= 0):=I (by
      rw[← HCA.out,if_pos]
      have:=HB48.out
      by_cases h5:k= 5
      ·exact .inl h5
      ·rw[decide_eq_false h5] at this;simp at this;exact .inr this)
     go_wp2
     go_meet
     case rel=>exact⟨by rw[HV.out],rfl⟩
    |true=>
      have HV:Hid (ca= if cmpI n n'≠0 then cmpI n n' else cmpS s s'):=I (by
       have:=HB48.out
       simp at this
       rw[← HCA.out,if_neg (by omega)])
      have HSN:=I (z3y n n')
      generalize cmpI n n'= c1 at*
      by_cases h0:c1= 0
      ·have HV2:Hid (ca= cmpS s s'):=I (by rw[HV.out,if_neg (by omega)])
       subst h0
       go_wp2_with (first|(go_at_call 76;refine(HSN.out _).mono ?_;rintro en z ⟨rfl,h⟩;rw[h];clear h z)|(go_at_call 78;refine(HTX.out _ _ _).mono ?_;rintro en z ⟨rfl,h⟩;rw[h];clear h z))
       go_meet
       case rel=>exact⟨by rw[HV2.out],rfl⟩
      ·have HV2:Hid (ca= c1):=I (by rw[HV.out,if_pos h0])
       have h0a:(c1 ==0)= false:=by simpa using h0
       clear h0
       go_wp2_with (first|(go_at_call 76;refine(HSN.out _).mono ?_;rintro en z ⟨rfl,h⟩;rw[h];clear h z))
       go_meet
       case rel=>exact⟨by rw[HV2.out],rfl⟩
   case rest=>
   obtain⟨rfl,rfl⟩:=hcut
   have HCB:Hid (rv= if k= 5 then ca else if ca≠0 then ca else listC cmpS ns ns'):=I (by rw[← HRV.out,← HCA.out];exact zb7 HKN.out.1 HKN.out.2.1 HKN.out.2.2)
   clear HCA HRV HKN d1 d3 e1 e3
   have HRW:=I (z69 vn vn' ns ns' wc ((HN.out.below HB.out (R':=StrR) fun _ _ _ h=>h).more HB.out.size) ((HN'.out.below HB.out (R':=StrR) fun _ _ _ h=>h).more HB.out.size))
   go_upto_region 16 with (fail)
   go_cut [67] (fun v z=>v= .bool (decide (ca= 0) && !decide (k= 5))/\z= wc)
   case first=>
    by_cases h0:ca= 0
    ·have h0b:(ca ==0)= true:=by simpa using h0
     by_cases h5:k= 5
     ·have h5a:(k !=5)= false:=by simpa using h5
      have HV:Hid ((decide (ca= 0) && !decide (k= 5))= false):=I (by rw[decide_eq_true h5];simp)
      clear h5 h0
      go_wp2
      go_meet
      case rel=>exact⟨by rw[HV.out],rfl⟩
     ·have h5a:(k !=5)= true:=by simpa using h5
      have HV:Hid ((decide (ca= 0) && !decide (k= 5))= true):=I (by rw[decide_eq_false h5,decide_eq_true h0];rfl)
      clear h5 h0
      go_wp2
      go_meet
      case rel=>exact⟨by rw[HV.out],rfl⟩
    ·have h0b:(ca ==0)= false:=by simpa using h0
     have HV:Hid ((decide (ca= 0) && !decide (k= 5))= false):=I (by rw[decide_eq_false h0];rfl)
     clear h0
     go_wp2
     go_meet
     case rel=>exact⟨by rw[HV.out],rfl⟩
   case rest=>
   obtain⟨rfl,rfl⟩:=hcut
   obtain⟨b67,hb67⟩:∃ b,(decide (ca= 0) && !decide (k= 5))= b:=⟨_,rfl⟩
   have HB67:=I hb67
   rw[hb67]
   clear hb67
   go_upto_if 67 with (fail)
   go_cut [5] (fun v z=>v= .int .i64 rv/\Below wc.heap.size wc z)
   case first=>
    cases b67 with
    |false=>
     have HV:Hid (rv= ca):=I (by
      rw[HCB.out]
      by_cases h5:k= 5
      ·rw[if_pos h5]
      ·rw[if_neg h5]
       have:=HB67.out
       rw[decide_eq_false h5] at this
       simp at this
       rw[if_pos this])
     go_wp2
     go_meet
     case rel=>exact⟨by rw[HV.out],Below.refl _ _⟩
    |true=>
     have HV2:Hid (rv= listC cmpS ns ns'):=I (by
      have:=HB67.out
      simp at this
      rw[HCB.out,if_neg this.2,if_neg (by rw[this.1];simp)])
     go_wp2_with (go_at_call 79;refine HRW.out.mono ?_;rintro en z ⟨rfl,m,h⟩;have HZ:Hid (Below wc.heap.size wc z):=I (by rw[h];exact zC (Below.refl _ _) _);clear h)
     go_meet
     case rel=>exact⟨by rw[HV2.out],HZ.out⟩
   case rest=>
   obtain⟨rfl,hbc⟩:=hcut
   have hB2:=HB.out.trans (hbc.mono HB.out.size)
   have HB2:=I hB2
   have HSP:Hid (pb < wc.heap.size):=I (Nat.lt_of_lt_of_le HSB.out hbc.size)
   have HX5:=I ((hbc.cell (p:=⟨w.heap.size,5,none⟩) (Nat.lt_trans HPB.out HSB.out)).trans D5.out)
   have HY5:=I ((hbc.cell (p:=⟨pb,5,none⟩) HSB.out).trans E5.out)
   clear hbc hB2 HCB HRW d0 d4 d5 e4 e5 D5 E5 HTX
   go_upto_region 19 with (fail)
   go_loopg [5,6] its.length (fun g v i wr=>∃ (j:Nat) (cv:Int),j+g= its.length/\j<=its'.length/\i= .int .i64 j/\v= .int .i64 cv/\Below wc.heap.size wc wr/\((cv= 0/\listC ordV (its.drop j) (its'.drop j)= res)\/(cv≠0/\cv= res)))
   case atStart=>exact⟨0,rv,by omega,by omega,rfl,rfl,Below.refl _ _,by
    by_cases h0:rv= 0
    ·refine .inl ⟨h0,?_⟩;rw[HO2.out,if_neg (by omega)];rfl
    ·refine .inr ⟨h0,?_⟩;rw[HO2.out,if_pos h0]⟩
   case round=>
    obtain⟨j,cv,hj,hjl,rfl,rfl,hb,hc⟩:=hrel
    have HBW:=I hb
    have HBK:=I (HB2.out.trans (hb.mono HB2.out.size))
    have x5:=(hb.cell (p:=⟨w.heap.size,5,none⟩) (Nat.lt_trans HPB.out HSP.out)).trans HX5.out
    have y5:=(hb.cell (p:=⟨pb,5,none⟩) HSP.out).trans HY5.out
    have HSR:Hid (pb < wr.heap.size):=I (Nat.lt_of_lt_of_le HSP.out hb.size)
    clear hb
    have hil2:(its.length:Int)<=9223372036854775807:=by omega
    have hil3:(its'.length:Int)<=9223372036854775807:=by omega
    have HTL:=I (fun h h2 h3=>z5d (f:=ordV) (l:=its) (r:=its') (k:=j) h h2 h3)
    rcases hc with ⟨rfl,hc⟩|⟨hc0,hc⟩
    ·have HC:=I hc
     clear hc
     by_cases hl1:j < its.length
     ·have hlt:(j:Int) <(its.length:Int):=by omega
      by_cases hl2:j < its'.length
      ·have hlt2:(j:Int) <(its'.length:Int):=by omega
       cases gk with
       |zero=>omega
       |succ g=>
       obtain⟨x,hx⟩:∃ x,its[j]?= some x:=⟨_,List.getElem?_eq_getElem hl1⟩
       obtain⟨y,hy⟩:∃ x,its'[j]?= some x:=⟨_,List.getElem?_eq_getElem hl2⟩
       obtain⟨b1,o1,rfl,hb1,hc1⟩:=HA.out (by omega)
       obtain⟨b2,o2,rfl,hb2,hc2⟩:=HA'.out (by omega)
       obtain⟨ks,hks,hvx⟩:=hc1 j x hx
       obtain⟨ks',hks',hvy⟩:=hc2 j y hy
       have HL1:=I (vlen6 hvx)
       have HL2:=I (vlen6 hvy)
       have HK1:=I (zd hks HBK.out hb1)
       have HK2:=I (zd hks' HBK.out hb2)
       have HST:=I (zcl (f:=ordV) hx hy)
       have HMX:=I (List.mem_of_getElem? hx)
       have HVX:=I hvx
       have HVY:=I hvy
       have HBB:=I (And.intro hb1 hb2)
       clear hx hy hc1 hc2 hks hks' hvx hvy hb1 hb2 hl1 hl2
       go_upto_region 21 with (fail)
       refine zu [(0,true),(1,true),(2,true),(3,true),(4,true),(5,true),(6,true),(7,true),(8,true),(9,true),(10,false),(11,true)] (fun z=>z.cell? ⟨w.heap.size,5,none⟩= some (.slice (some ⟨b1,o1,none⟩) its.length c)/\z.cell? ⟨pb,5,none⟩= some (.slice (some ⟨b2,o2,none⟩) its'.length c')/\z.rangeAt b1 (o1+j*6) ks/\z.rangeAt b2 (o2+j*6) ks') (by kernel_rfl) (by kernel_rfl) (by kernel_rfl) rfl (by intro c a d v w h;cases d<;>exact h) ?_
       have hs9:(fun z=>z.cell? ⟨w.heap.size,5,none⟩= some (.slice (some ⟨b1,o1,none⟩) its.length c)/\z.cell? ⟨pb,5,none⟩= some (.slice (some ⟨b2,o2,none⟩) its'.length c')/\z.rangeAt b1 (o1+j*6) ks/\z.rangeAt b2 (o2+j*6) ks') wr.drew:=⟨x5,y5,HK1.out,HK2.out⟩
       have HWD:Hid (Below wc.heap.size wc wr.drew):=I HBW.out.drew
       have HSd:Hid (pb < wr.drew.heap.size):=HSR
       have HBKd:Hid (Below w.heap.size w wr.drew):=I HBK.out.drew
       clear x5 y5
       generalize wr.drew= wd at*
       refine z8 (some 91) (.pointer (some ⟨w.heap.size,5,none⟩)) _ rfl rfl (by exact wantA rfl) hs9 (fun z _=>by go_simp) ?_
       go_frame
       refine z8 (some 92) (.slice (some ⟨b1,o1,none⟩) its.length c) _ rfl rfl (by exact wantA rfl) hs9 (fun z hz=>by have dd:=hz.1;go_simp) ?_
       go_frame
       refine zk (some 93) (.int .i64 j) _ _ rfl rfl rfl (by exact wantA rfl) hs9 rfl ?_
       go_frame
       refine z8 (some 94) (.pointer (some ⟨b1,o1+j*6,none⟩)) _ rfl rfl (by exact wantA rfl) hs9 (fun z _=>by go_simp) ?_
       go_frame
       refine z8 (some 95) (.agg ks.toArray) _ rfl rfl (by exact wantA rfl) hs9 (fun z hz=>zw 26 rfl b1 (o1+j*6) ks _ rfl hz.2.2.1 Tryz.underlying26 rfl (by rw[HL1.out];kernel_rfl)) ?_
       go_frame
       refine z8 (some 96) (.pointer (some ⟨pb,5,none⟩)) _ rfl rfl (by exact wantA rfl) hs9 (fun z _=>by go_simp) ?_
       go_frame
       refine z8 (some 97) (.slice (some ⟨b2,o2,none⟩) its'.length c') _ rfl rfl (by exact wantA rfl) hs9 (fun z hz=>by have dd:=hz.2.1;go_simp) ?_
       go_frame
       refine zk (some 98) (.int .i64 j) _ _ rfl rfl rfl (by exact wantA rfl) hs9 rfl ?_
       go_frame
       refine z8 (some 99) (.pointer (some ⟨b2,o2+j*6,none⟩)) _ rfl rfl (by exact wantA rfl) hs9 (fun z _=>by go_simp) ?_
       go_frame
       refine z8 (some 100) (.agg ks'.toArray) _ rfl rfl (by exact wantA rfl) hs9 (fun z hz=>zw 26 rfl b2 (o2+j*6) ks' _ rfl hz.2.2.2 Tryz.underlying26 rfl (by rw[HL2.out];kernel_rfl)) ?_
       go_frame
       refine zx (some 101) 42 Tryz.func42 (by kernel_rfl) (by kernel_rfl) [.agg ks.toArray,.agg ks'.toArray] _ _ _ rfl rfl rfl (by exact wantA rfl) rfl ?_
       refine(IH.out x HMX.out y ks ks' wd ((HVX.out.under HBKd.out).more HBKd.out.size) ((HVY.out.under HBKd.out).more HBKd.out.size)).mono ?_
       rintro e z2 ⟨rfl,hb⟩
       have hs8:(fun z=>z.cell? ⟨w.heap.size,5,none⟩= some (.slice (some ⟨b1,o1,none⟩) its.length c)/\z.cell? ⟨pb,5,none⟩= some (.slice (some ⟨b2,o2,none⟩) its'.length c')/\z.rangeAt b1 (o1+j*6) ks/\z.rangeAt b2 (o2+j*6) ks') z2:=⟨(hb.cell (p:=⟨w.heap.size,5,none⟩) (Nat.lt_trans HPB.out HSd.out)).trans hs9.1,(hb.cell (p:=⟨pb,5,none⟩) HSd.out).trans hs9.2.1,zd hs9.2.2.1 hb (by have:=HBB.out;have:=HBKd.out.size;omega),zd hs9.2.2.2 hb (by have:=HBB.out;have:=HBKd.out.size;omega)⟩
       refine⟨_,rfl,hs8,?_⟩
       go_frame
       have HZB:=I (HWD.out.trans (hb.mono HWD.out.size))
       clear hb hs9
       refine z0g (some 5) (.int .i64 (ordV x y)) _ _ rfl rfl rfl (by exact wantA rfl) hs8 rfl ?_
       go_frame
       refine zR ?_
       clear hs8
       have HNX:Hid ((ordV x y= 0/\listC ordV (its.drop (j+1)) (its'.drop (j+1))= res)\/(ordV x y≠0/\ordV x y= res)):=I (by
        have h:=HC.out
        rw[HST.out] at h
        by_cases h0:ordV x y= 0
        ·rw[if_neg (by omega)] at h;exact .inl ⟨h0,h⟩
        ·rw[if_pos h0] at h;exact .inr ⟨h0,h⟩)
       generalize ordV x y= nv at*
       go_wp2
       go_roundg g
       case measure=>omega
       case rel=>exact⟨j+1,nv,by omega,by omega,by go_num,rfl,HZB.out,HNX.out⟩
      ·have hge2: ¬ ((j:Int) <(its'.length:Int)):=by omega
       have HV:Hid (cmpI (its.length:Int) (its'.length:Int)= res):=I ((HTL.out (by omega) (by omega) (.inr (by omega))).symm.trans HC.out)
       clear hl1 hl2 HTL
       go_wp2_with (go_at_call 76;refine(HSG.out _ _ _).mono ?_;rintro en z ⟨rfl,h⟩;rw[h];clear h z)
       go_ret
       exact⟨zH HV.out,HBK.out⟩
     ·have hge1: ¬ ((j:Int) <(its.length:Int)):=by omega
      have HV:Hid (cmpI (its.length:Int) (its'.length:Int)= res):=I ((HTL.out (by omega) (by omega) (.inl (by omega))).symm.trans HC.out)
      clear hl1 HTL
      go_wp2_with (go_at_call 76;refine(HSG.out _ _ _).mono ?_;rintro en z ⟨rfl,h⟩;rw[h];clear h z)
      go_ret
      exact⟨zH HV.out,HBK.out⟩
    ·have HC:=I hc
     have hc0b:(cv ==0)= false:=by simpa using hc0
     clear hc hc0 HTL
     by_cases hl1:j < its.length
     ·have hlt:(j:Int) <(its.length:Int):=by omega
      by_cases hl2:j < its'.length
      ·have hlt2:(j:Int) <(its'.length:Int):=by omega
       go_wp2
       go_ret
       exact⟨zH HC.out,HBK.out⟩
      ·have hge2: ¬ ((j:Int) <(its'.length:Int)):=by omega
       go_wp2
       go_ret
       exact⟨zH HC.out,HBK.out⟩
     ·have hge1: ¬ ((j:Int) <(its.length:Int)):=by omega
      go_wp2
      go_ret
      exact⟨zH HC.out,HBK.out⟩
  ·have hkk:(k !=k')= true:=by simpa using hk
   have HV:Hid (res= cmpI k k'):=I (by rw[HO.out,if_pos];have:=z00 k k';omega)
   clear HO hk
   go_wp2_with (go_at_call 76;refine(HSG.out _ _ _).mono ?_;rintro en z ⟨rfl,h⟩;rw[h];clear h z)
   go_ret
   exact⟨zH HV.out.symm,HB.out⟩
theorem ze7 (t t':VT) (cs cs':List Value) (w:World) (hv:ValAt w w.heap.size cs t) (hv':ValAt w w.heap.size cs' t'):
  Calls Tryz.prog 16 #[.agg ⟨cs⟩,.agg ⟨cs'⟩] w fun e w'=>e= .returned (.bool (ordV t t' ==0))/\Below w.heap.size w w':=by
 have HC1:=I (vlen6 hv)
 have HC2:=I (vlen6 hv')
 have hB0:=ze w (.cells ⟨cs⟩ 26)
 have hB1:=ze (w.alloc (.cells ⟨cs⟩ 26)) (.cells ⟨cs'⟩ 26)
 have HB:=I (hB0.trans (hB1.mono hB0.size))
 have hRA:=zd (zq w cs 26) hB1 (zt w _)
 have hRB:=zq (w.alloc (.cells ⟨cs⟩ 26)) cs' 26
 rw[World.size_alloc] at hRB
 have HRA:=I hRA
 have HRB:=I hRB
 have HV1:=I ((hv.under HB.out).more HB.out.size)
 have HV2:=I ((hv'.under HB.out).more HB.out.size)
 clear hv hv' hB0 hB1 hRA hRB
 go_enter Tryz.func16,Tryz.ntmps16
 go_upto_region 1 with (fail)
 generalize (w.alloc (.cells ⟨cs⟩ 26)).alloc (.cells ⟨cs'⟩ 26)= W at*
 obtain⟨pb,hpb⟩:∃ pb,w.heap.size+1= pb:=⟨_,rfl⟩
 rw[hpb] at HRB
 rw[hpb]
 clear hpb
 have HC:=I (z9B t t' cs cs' W HV1.out HV2.out)
 obtain⟨r,hr⟩:∃ r,ordV t t'= r:=⟨_,rfl⟩
 have HRr:=I hr
 rw[hr] at HC
 clear hr
 go_wp2_with (first|((with_reducible refine zc 26 _ rfl ?hwa w.heap.size 0 cs _ rfl HRA.out Tryz.underlying26 rfl ?hia ?_);(case hwa=>(exact wantA rfl));(case hia=>rw[HC1.out];kernel_rfl))|((with_reducible refine zc 26 _ rfl ?hwb pb 0 cs' _ rfl HRB.out Tryz.underlying26 rfl ?hib ?_);(case hwb=>(exact wantA rfl));(case hib=>rw[HC2.out];kernel_rfl))|(go_at_call 42;refine HC.out.mono ?_;rintro e z ⟨rfl,hb⟩;have HB2:=I hb;clear hb))
 go_ret
 exact⟨by rw[HRr.out];rfl,HB.out.trans (HB2.out.mono HB.out.size)⟩
end
end Go.Proofs.YtmpbepjjbaeebaaGreatDoor
