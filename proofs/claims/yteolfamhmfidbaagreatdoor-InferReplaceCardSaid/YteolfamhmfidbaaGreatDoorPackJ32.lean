/- Parts of a proof: RKey, ROrd, RESame. -/
import Derived.Test.YteolfamhmfidbaaGreatDoorPackJ3
import Derived.Test.YteolfamhmfidbaaGreatDoorPackJ9
import Derived.Test.YteolfamhmfidbaaGreatDoorPackJ10
import Derived.Test.YteolfamhmfidbaaGreatDoorPackJ11
import Derived.Test.YteolfamhmfidbaaGreatDoorPackJ13
import Derived.Test.YteolfamhmfidbaaGreatDoorPackJ18
set_option maxHeartbeats 8000000
set_option maxRecDepth 100000
set_option linter.unusedVariables false
set_option linter.unusedSimpArgs false
namespace Go.Proofs.YteolfamhmfidbaaGreatDoor
section
open Go Go.RowKit
theorem zeu {f:Nat} (hf:f < 2 ^ 64):nanR f= decide (9218868437227405312 < f % 9223372036854775808):=by
 unfold nanR
 rw[IntKind.wrap_u64]
 by_cases h:9218868437227405312 < f % 9223372036854775808
 ·rw[decide_eq_true h,decide_eq_true (by omega)]
 ·rw[decide_eq_false h,decide_eq_false (by omega)]
theorem z8n (f:Nat) (hf:f < 2 ^ 64) (w:World):Calls Tryz.prog 118 #[.float .f64 f] w fun e w'=>e= .returned (.int .i64 (keyZ f))/\w'= w:=by
 have e1:∀ W:World,(callFunc 134 #[.float .f64 f]).run Tryz.prog W= .ok (.value (.int .u64 f)) W:=fun W=>by
  rw[run_callFunc_extern Tryz.func134 (by kernel_rfl) (by kernel_rfl) (by kernel_rfl) (e:=Extern.MathFloatBits.float64bits) (by kernel_rfl)]
  rfl
 have HC:=I (fun w=>z3k f hf w)
 have hn:=zeu hf
 by_cases h:9218868437227405312 < f % 9223372036854775808
 ·have HV:Hid (keyZ f= 9223372036854775807):=I (by unfold keyZ;rw[if_pos h])
  rw[hn,decide_eq_true h] at HC
  clear hn h hf
  go_enter Tryz.func118,Tryz.ntmps118
  go_wp2_with (go_at_call 119;refine(HC.o _).mono ?_;rintro e z ⟨rfl,rfl⟩)
  go_ret
  exact⟨by rw[HV.o];rfl,rfl⟩
 ·rw[hn,decide_eq_false h] at HC
  by_cases h2:9223372036854775808<=f
  ·have HV:Hid (keyZ f= -1 - ((f:Int) - 9223372036854775808)):=I (by unfold keyZ;rw[if_neg h,if_pos h2])
   have t1:(9223372036854775808:Int)<=(f:Int):=by omega
   have t2:(f:Int) < 18446744073709551616:=by omega
   clear hn h hf h2
   go_enter Tryz.func118,Tryz.ntmps118
   go_wp2_with (go_at_call 119;refine(HC.o _).mono ?_;rintro e z ⟨rfl,rfl⟩)
   go_ret
   exact⟨by rw[HV.o];rfl,rfl⟩
  ·have HV:Hid (keyZ f= f):=I (by unfold keyZ;rw[if_neg h,if_neg h2])
   have t1:decide ((9223372036854775808:Int)<=(f:Int))= false:=decide_eq_false (by omega)
   have t2:IntKind.i64.wrap (f:Int)= f:=by rw[IntKind.wrap_i64];omega
   clear hn h hf h2
   go_enter Tryz.func118,Tryz.ntmps118
   go_wp2_with (go_at_call 119;refine(HC.o _).mono ?_;rintro e z ⟨rfl,rfl⟩)
   go_ret
   exact⟨by rw[HV.o];rfl,rfl⟩
theorem z97 (f g:Nat) (hf:f < 2 ^ 64) (hg:g < 2 ^ 64) (w:World):Calls Tryz.prog 74 #[.float .f64 f,.float .f64 g] w fun e w'=>e= .returned (.int .i64 (cmpF f g))/\w'= w:=by
 have HF:=I (fun w=>z8n f hf w)
 have HG:=I (fun w=>z8n g hg w)
 have HV:=I (zcW hf hg)
 clear hf hg
 generalize keyZ f= a at*
 generalize keyZ g= b at*
 rcases zY a b with ⟨h1,h2⟩|⟨h1,h2⟩|⟨h1,h2⟩
 ·rw[h1] at HV
  clear h1
  go_enter Tryz.func74,Tryz.ntmps74
  go_wp2_with (first|(go_at_call 118;with_reducible refine(HF.o _).mono ?_;rintro e z ⟨rfl,rfl⟩)|(go_at_call 118;with_reducible refine(HG.o _).mono ?_;rintro e z ⟨rfl,rfl⟩))
  go_ret
  exact⟨by rw[HV.o];rfl,rfl⟩
 ·rw[h1] at HV
  subst h2
  clear h1
  have t1: ¬ a < a:=by omega
  go_enter Tryz.func74,Tryz.ntmps74
  go_wp2_with (first|(go_at_call 118;with_reducible refine(HF.o _).mono ?_;rintro e z ⟨rfl,rfl⟩)|(go_at_call 118;with_reducible refine(HG.o _).mono ?_;rintro e z ⟨rfl,rfl⟩))
  go_ret
  exact⟨by rw[HV.o];rfl,rfl⟩
 ·rw[h1] at HV
  clear h1
  have t1: ¬ a < b:=by omega
  go_enter Tryz.func74,Tryz.ntmps74
  go_wp2_with (first|(go_at_call 118;with_reducible refine(HF.o _).mono ?_;rintro e z ⟨rfl,rfl⟩)|(go_at_call 118;with_reducible refine(HG.o _).mono ?_;rintro e z ⟨rfl,rfl⟩))
  go_ret
  exact⟨by rw[HV.o];rfl,rfl⟩
end
section
open Go Go.RowKit
theorem zeI {α:Type} {f:α->α->Int} {l r:List α} {k:Nat} {x y:α} (h:l[k]?= some x) (h':r[k]?= some y):listC f (l.drop k) (r.drop k)= if f x y≠0 then f x y else listC f (l.drop (k+1)) (r.drop (k+1)):=by
 obtain⟨h1,h2⟩:=List.getElem?_eq_some_iff.1 h
 obtain⟨h3,h4⟩:=List.getElem?_eq_some_iff.1 h'
 rw[List.drop_eq_getElem_cons h1,List.drop_eq_getElem_cons h3,h2,h4,listC]
theorem zcu {k n n':Int} {f f':Nat} {s s':ByteArray} {ns ns':List ByteArray} (h1: ¬ (k= 1\/k= 2)) (h3: ¬ k= 3) (h4: ¬ k= 4):
  rowV k n n' f f' s s' ns ns'= if k= 5 then(if k= 5\/k= 6 then 0 else if cmpI n n'≠0 then cmpI n n' else cmpS s s') else
   if(if k= 5\/k= 6 then 0 else if cmpI n n'≠0 then cmpI n n' else cmpS s s')≠0 then(if k= 5\/k= 6 then 0 else if cmpI n n'≠0 then cmpI n n' else cmpS s s') else listC cmpS ns ns':=by
 unfold rowV
 rw[if_neg h1,if_neg h3,if_neg h4]
 by_cases h5:k= 5
 ·rw[if_pos h5,if_pos h5,if_pos (Or.inl h5)]
 ·rw[if_neg h5,if_neg h5]
  by_cases h6:k= 6
  ·have h56:k= 5\/k= 6:=Or.inr h6
   rw[if_pos h6]
   simp only[if_pos h56]
   simp
  ·have h56: ¬ (k= 5\/k= 6):=fun h=>h.elim h5 h6
   rw[if_neg h6]
   simp only[if_neg h56]
   unfold or3
   by_cases h0:cmpI n n'= 0
   ·simp[h0]
   ·simp[h0]
theorem vlen6 {w:World} {B:Nat} {cs:List Value} {t:VT} (h:ValAt w B cs t):cs.length= 6:=(zk h).1
theorem za7:∀ (t t':VT) (cs cs':List Value) (w:World),ValAt w w.heap.size cs t->ValAt w w.heap.size cs' t'->
  Calls Tryz.prog 40 #[.agg ⟨cs⟩,.agg ⟨cs'⟩] w fun e w'=>e= .returned (.int .i64 (ordV t t'))/\Below w.heap.size w w':=by
 intro t
 induction t using VT.ind with
 |h k n f s ns its ih=>
  intro t' cs cs' w hv hv'
  cases t' with
  |mk k' n' f' s' ns' its'=>
  have IH:=I ih
  obtain⟨vn,vi,rfl,_,_,hf,_,hn,_,hi⟩:=hv.inv
  obtain⟨A,c,rfl,hil,hA⟩:=z0K hi
  obtain⟨vn',vi',rfl,_,_,hf',_,hn',_,hi'⟩:=hv'.inv
  obtain⟨A',c',rfl,hil',hA'⟩:=z0K hi'
  have HF:=I (wf64 hf)
  have HF':=I (wf64 hf')
  have HN:=I hn
  have HN':=I hn'
  have HA:=I hA
  have HA':=I hA'
  have HO:Hid (ordV (.mk k n f s ns its) (.mk k' n' f' s' ns' its')= if cmpI k k'≠0 then cmpI k k' else if rowV k n n' f f' s s' ns ns'≠0\/leafK k= true then rowV k n n' f f' s s' ns ns' else listC ordV its its'):=I (by rw[ordV,z4B])
  generalize ordV (.mk k n f s ns its) (.mk k' n' f' s' ns' its')= res at*
  have hB0:=zc w (.cells ⟨[.int .i64 k,.int .i64 n,.float .f64 f,.string s,vn,.slice A its.length c]⟩ 27)
  have hB1:=zc (w.alloc (.cells ⟨[.int .i64 k,.int .i64 n,.float .f64 f,.string s,vn,.slice A its.length c]⟩ 27)) (.cells ⟨[.int .i64 k',.int .i64 n',.float .f64 f',.string s',vn',.slice A' its'.length c']⟩ 27)
  have HB:=I (hB0.trans (hB1.mono hB0.size))
  have HSB:Hid (w.heap.size+1 <((w.alloc (.cells ⟨[.int .i64 k,.int .i64 n,.float .f64 f,.string s,vn,.slice A its.length c]⟩ 27)).alloc (.cells ⟨[.int .i64 k',.int .i64 n',.float .f64 f',.string s',vn',.slice A' its'.length c']⟩ 27)).heap.size):=I (by simp)
  have hRA:=za (zm w [.int .i64 k,.int .i64 n,.float .f64 f,.string s,vn,.slice A its.length c] 27) hB1 (zw w _)
  have hRB:=zm (w.alloc (.cells ⟨[.int .i64 k,.int .i64 n,.float .f64 f,.string s,vn,.slice A its.length c]⟩ 27)) [.int .i64 k',.int .i64 n',.float .f64 f',.string s',vn',.slice A' its'.length c'] 27
  rw[World.size_alloc] at hRB
  have HRA:=I hRA
  have HRB:=I hRB
  clear ih hv hn hi hA hf hv' hn' hi' hA' hf' hB0 hB1 hRA hRB
  go_enter Tryz.func40,Tryz.ntmps40
  go_upto_region 1 with (fail)
  generalize (w.alloc (.cells ⟨[.int .i64 k,.int .i64 n,.float .f64 f,.string s,vn,.slice A its.length c]⟩ 27)).alloc (.cells ⟨[.int .i64 k',.int .i64 n',.float .f64 f',.string s',vn',.slice A' its'.length c']⟩ 27)= W at*
  obtain⟨pb,hpb⟩:∃ pb,w.heap.size+1= pb:=⟨_,rfl⟩
  rw[hpb] at HRB HSB
  rw[hpb]
  have HPB:Hid (w.heap.size < pb):=I (by omega)
  clear hpb
  have d0:W.cell? ⟨w.heap.size,0,none⟩= some (.int .i64 k):=by have:=HRA.o 0 _ rfl;simpa using this
  have d1:W.cell? ⟨w.heap.size,1,none⟩= some (.int .i64 n):=by have:=HRA.o 1 _ rfl;simpa using this
  have d2:W.cell? ⟨w.heap.size,2,none⟩= some (.float .f64 f):=by have:=HRA.o 2 _ rfl;simpa using this
  have d3:W.cell? ⟨w.heap.size,3,none⟩= some (.string s):=by have:=HRA.o 3 _ rfl;simpa using this
  have d4:W.cell? ⟨w.heap.size,4,none⟩= some vn:=by have:=HRA.o 4 _ rfl;simpa using this
  have d5:W.cell? ⟨w.heap.size,5,none⟩= some (.slice A its.length c):=by have:=HRA.o 5 _ rfl;simpa using this
  have e0:W.cell? ⟨pb,0,none⟩= some (.int .i64 k'):=by have:=HRB.o 0 _ rfl;simpa using this
  have e1:W.cell? ⟨pb,1,none⟩= some (.int .i64 n'):=by have:=HRB.o 1 _ rfl;simpa using this
  have e2:W.cell? ⟨pb,2,none⟩= some (.float .f64 f'):=by have:=HRB.o 2 _ rfl;simpa using this
  have e3:W.cell? ⟨pb,3,none⟩= some (.string s'):=by have:=HRB.o 3 _ rfl;simpa using this
  have e4:W.cell? ⟨pb,4,none⟩= some vn':=by have:=HRB.o 4 _ rfl;simpa using this
  have e5:W.cell? ⟨pb,5,none⟩= some (.slice A' its'.length c'):=by have:=HRB.o 5 _ rfl;simpa using this
  have D5:=I d5
  have E5:=I e5
  clear HRA HRB
  have HSG:=I z3U
  have HTX:=I z79
  by_cases hk:k= k'
  ·subst hk
   have hkk:(k !=k)= false:=by simp
   have HO1:Hid (res= if rowV k n n' f f' s s' ns ns'≠0\/leafK k= true then rowV k n n' f f' s s' ns ns' else listC ordV its its'):=I (by rw[HO.o];simp[cmpI])
   clear HO
   by_cases k1:k= 1
   ·subst k1
    have HV:Hid (res= cmpI n n'):=I (by rw[HO1.o,if_pos (.inr rfl)];rfl)
    go_wp2_with (go_at_call 73;refine(HSG.o _ _ _).mono ?_;rintro en z ⟨rfl,h⟩;rw[h];clear h z)
    go_ret
    exact⟨zt HV.o.symm,HB.o⟩
   by_cases k2:k= 2
   ·subst k2
    have HV:Hid (res= cmpI n n'):=I (by rw[HO1.o,if_pos (.inr rfl)];rfl)
    go_wp2_with (go_at_call 73;refine(HSG.o _ _ _).mono ?_;rintro en z ⟨rfl,h⟩;rw[h];clear h z)
    go_ret
    exact⟨zt HV.o.symm,HB.o⟩
   by_cases k3:k= 3
   ·subst k3
    have HV:Hid (res= cmpF f f'):=I (by rw[HO1.o,if_pos (.inr rfl)];rfl)
    have HFO:=I (fun z=>z97 f f' HF.o HF'.o z)
    go_wp2_with (go_at_call 74;refine(HFO.o _).mono ?_;rintro en z ⟨rfl,h⟩;rw[h];clear h z)
    go_ret
    exact⟨zt HV.o.symm,HB.o⟩
   by_cases k4:k= 4
   ·subst k4
    have HV:Hid (res= cmpS s s'):=I (by rw[HO1.o,if_pos (.inr rfl)];rfl)
    go_wp2_with (go_at_call 75;refine(HTX.o _ _ _).mono ?_;rintro en z ⟨rfl,h⟩;rw[h];clear h z)
    go_ret
    exact⟨zt HV.o.symm,HB.o⟩
   have q1:(k ==1)= false:=by simpa using k1
   have q2:(k ==2)= false:=by simpa using k2
   have q3:(k ==3)= false:=by simpa using k3
   have q4:(k ==4)= false:=by simpa using k4
   have hlf:leafK k= false:=by
    unfold leafK
    cases h1:decide (1<=k) with
    |false=>rfl
    |true=>rw[Bool.true_and,decide_eq_false_iff_not];have:=of_decide_eq_true h1;omega
   obtain⟨rv,hrv⟩:∃ rv,rowV k n n' f f' s s' ns ns'= rv:=⟨_,rfl⟩
   have HRV:=I hrv
   have HO2:Hid (res= if rv≠0 then rv else listC ordV its its'):=I (by rw[HO1.o,hrv,hlf];simp)
   have HKN:=I (show ¬ (k= 1\/k= 2)/\¬ k= 3/\¬ k= 4 from⟨fun h=>h.elim k1 k2,k3,k4⟩)
   clear HO1 hlf hrv k1 k2 k3 k4
   obtain⟨ca,hca⟩:∃ ca,(if k= 5\/k= 6 then 0 else if cmpI n n'≠0 then cmpI n n' else cmpS s s')= ca:=⟨_,rfl⟩
   have HCA:=I hca
   clear hca d2 e2
   go_upto_region 12 with (fail)
   go_cut [48] (fun v z=>v= .bool (!decide (k= 5) && !decide (k= 6))/\z= W)
   case first=>
    by_cases h5:k= 5
    ·have h5a:(k !=5)= false:=by simpa using h5
     have HV:Hid ((!decide (k= 5) && !decide (k= 6))= false):=I (by rw[decide_eq_true h5];rfl)
     clear h5
     go_wp2
     go_meet
     case rel=>exact⟨by rw[HV.o],rfl⟩
    ·have h5a:(k !=5)= true:=by simpa using h5
     by_cases h6:k= 6
     ·have h6a:(k !=6)= false:=by simpa using h6
      have HV:Hid ((!decide (k= 5) && !decide (k= 6))= false):=I (by rw[decide_eq_true h6];simp)
      clear h5 h6
      go_wp2
      go_meet
      case rel=>exact⟨by rw[HV.o],rfl⟩
     ·have h6a:(k !=6)= true:=by simpa using h6
      have HV:Hid ((!decide (k= 5) && !decide (k= 6))= true):=I (by rw[decide_eq_false h6,decide_eq_false h5];rfl)
      clear h5 h6
      go_wp2
      go_meet
      case rel=>exact⟨by rw[HV.o],rfl⟩
   case rest=>
   obtain⟨rfl,rfl⟩:=hcut
   obtain⟨b48,hb48⟩:∃ b,(!decide (k= 5) && !decide (k= 6))= b:=⟨_,rfl⟩
   have HB48:=I hb48
   rw[hb48]
   clear hb48
   go_upto_if 48 with (fail)
   go_cut [5] (fun v z=>v= .int .i64 ca/\z= wc)
   case first=>
    cases b48 with
    |false=>
     have HV:Hid (ca= 0):=I (by
      rw[← HCA.o,if_pos]
      have:=HB48.o
      by_cases h5:k= 5
      ·exact .inl h5
      ·rw[decide_eq_false h5] at this;simp at this;exact .inr this)
     go_wp2
     go_meet
     case rel=>exact⟨by rw[HV.o],rfl⟩
    |true=>
      have HV:Hid (ca= if cmpI n n'≠0 then cmpI n n' else cmpS s s'):=I (by
       have:=HB48.o
       simp at this
       rw[← HCA.o,if_neg (by omega)])
      have HSN:=I (z3U n n')
      generalize cmpI n n'= c1 at*
      by_cases h0:c1= 0
      ·have HV2:Hid (ca= cmpS s s'):=I (by rw[HV.o,if_neg (by omega)])
       subst h0
       go_wp2_with (first|(go_at_call 73;refine(HSN.o _).mono ?_;rintro en z ⟨rfl,h⟩;rw[h];clear h z)|(go_at_call 75;refine(HTX.o _ _ _).mono ?_;rintro en z ⟨rfl,h⟩;rw[h];clear h z))
       go_meet
       case rel=>exact⟨by rw[HV2.o],rfl⟩
      ·have HV2:Hid (ca= c1):=I (by rw[HV.o,if_pos h0])
       have h0a:(c1 ==0)= false:=by simpa using h0
       clear h0
       go_wp2_with (first|(go_at_call 73;refine(HSN.o _).mono ?_;rintro en z ⟨rfl,h⟩;rw[h];clear h z))
       go_meet
       case rel=>exact⟨by rw[HV2.o],rfl⟩
   case rest=>
   obtain⟨rfl,rfl⟩:=hcut
   have HCB:Hid (rv= if k= 5 then ca else if ca≠0 then ca else listC cmpS ns ns'):=I (by rw[← HRV.o,← HCA.o];exact zcu HKN.o.1 HKN.o.2.1 HKN.o.2.2)
   clear HCA HRV HKN d1 d3 e1 e3
   have HRW:=I (zcv vn vn' ns ns' wc ((HN.o.below HB.o (R':=StrR) fun _ _ _ h=>h).more HB.o.size) ((HN'.o.below HB.o (R':=StrR) fun _ _ _ h=>h).more HB.o.size))
   go_upto_region 16 with (fail)
   go_cut [67] (fun v z=>v= .bool (decide (ca= 0) && !decide (k= 5))/\z= wc)
   case first=>
    by_cases h0:ca= 0
    ·have h0b:(ca ==0)= true:=by simpa using h0
     by_cases h5:k= 5
     ·have h5a:(k !=5)= false:=by simpa using h5
      have HV:Hid ((decide (ca= 0) && !decide (k= 5))= false):=I (by rw[decide_eq_true h5];simp)
      clear h5 h0
      go_wp2
      go_meet
      case rel=>exact⟨by rw[HV.o],rfl⟩
     ·have h5a:(k !=5)= true:=by simpa using h5
      have HV:Hid ((decide (ca= 0) && !decide (k= 5))= true):=I (by rw[decide_eq_false h5,decide_eq_true h0];rfl)
      clear h5 h0
      go_wp2
      go_meet
      case rel=>exact⟨by rw[HV.o],rfl⟩
    ·have h0b:(ca ==0)= false:=by simpa using h0
     have HV:Hid ((decide (ca= 0) && !decide (k= 5))= false):=I (by rw[decide_eq_false h0];rfl)
     clear h0
     go_wp2
     go_meet
     case rel=>exact⟨by rw[HV.o],rfl⟩
   case rest=>
   obtain⟨rfl,rfl⟩:=hcut
   obtain⟨b67,hb67⟩:∃ b,(decide (ca= 0) && !decide (k= 5))= b:=⟨_,rfl⟩
   have HB67:=I hb67
   rw[hb67]
   clear hb67
   go_upto_if 67 with (fail)
   go_cut [5] (fun v z=>v= .int .i64 rv/\Below wc.heap.size wc z)
   case first=>
    cases b67 with
    |false=>
     have HV:Hid (rv= ca):=I (by
      rw[HCB.o]
      by_cases h5:k= 5
      ·rw[if_pos h5]
      ·rw[if_neg h5]
       have:=HB67.o
       rw[decide_eq_false h5] at this
       simp at this
       rw[if_pos this])
     go_wp2
     go_meet
     case rel=>exact⟨by rw[HV.o],Below.refl _ _⟩
    |true=>
     have HV2:Hid (rv= listC cmpS ns ns'):=I (by
      have:=HB67.o
      simp at this
      rw[HCB.o,if_neg this.2,if_neg (by rw[this.1];simp)])
     go_wp2_with (go_at_call 76;refine HRW.o.mono ?_;rintro en z ⟨rfl,m,h⟩;have HZ:Hid (Below wc.heap.size wc z):=I (by rw[h];exact zr (Below.refl _ _) _);clear h)
     go_meet
     case rel=>exact⟨by rw[HV2.o],HZ.o⟩
   case rest=>
   obtain⟨rfl,hbc⟩:=hcut
   have hB2:=HB.o.trans (hbc.mono HB.o.size)
   have HB2:=I hB2
   have HSP:Hid (pb < wc.heap.size):=I (Nat.lt_of_lt_of_le HSB.o hbc.size)
   have HX5:=I ((hbc.cell (p:=⟨w.heap.size,5,none⟩) (Nat.lt_trans HPB.o HSB.o)).trans D5.o)
   have HY5:=I ((hbc.cell (p:=⟨pb,5,none⟩) HSB.o).trans E5.o)
   clear hbc hB2 HCB HRW d0 d4 d5 e4 e5 D5 E5 HTX
   go_upto_region 19 with (fail)
   go_loopg [5,6] its.length (fun g v i wr=>∃ (j:Nat) (cv:Int),j+g= its.length/\j<=its'.length/\i= .int .i64 j/\v= .int .i64 cv/\Below wc.heap.size wc wr/\((cv= 0/\listC ordV (its.drop j) (its'.drop j)= res)\/(cv≠0/\cv= res)))
   case atStart=>exact⟨0,rv,by omega,by omega,rfl,rfl,Below.refl _ _,by
    by_cases h0:rv= 0
    ·refine .inl ⟨h0,?_⟩;rw[HO2.o,if_neg (by omega)];rfl
    ·refine .inr ⟨h0,?_⟩;rw[HO2.o,if_pos h0]⟩
   case round=>
    obtain⟨j,cv,hj,hjl,rfl,rfl,hb,hc⟩:=hrel
    have HBW:=I hb
    have HBK:=I (HB2.o.trans (hb.mono HB2.o.size))
    have x5:=(hb.cell (p:=⟨w.heap.size,5,none⟩) (Nat.lt_trans HPB.o HSP.o)).trans HX5.o
    have y5:=(hb.cell (p:=⟨pb,5,none⟩) HSP.o).trans HY5.o
    have HSR:Hid (pb < wr.heap.size):=I (Nat.lt_of_lt_of_le HSP.o hb.size)
    clear hb
    have hil2:(its.length:Int)<=9223372036854775807:=by omega
    have hil3:(its'.length:Int)<=9223372036854775807:=by omega
    have HTL:=I (fun h h2 h3=>z5X (f:=ordV) (l:=its) (r:=its') (k:=j) h h2 h3)
    rcases hc with ⟨rfl,hc⟩|⟨hc0,hc⟩
    ·have HC:=I hc
     clear hc
     by_cases hl1:j < its.length
     ·have hlt:(j:Int) <(its.length:Int):=by omega
      by_cases hl2:j < its'.length
      ·have hlt2:(j:Int) <(its'.length:Int):=by omega
       cases gk with
       |zero=>omega
       |succ g=>
       obtain⟨x,hx⟩:∃ x,its[j]?= some x:=⟨_,List.getElem?_eq_getElem hl1⟩
       obtain⟨y,hy⟩:∃ x,its'[j]?= some x:=⟨_,List.getElem?_eq_getElem hl2⟩
       obtain⟨b1,o1,rfl,hb1,hc1⟩:=HA.o (by omega)
       obtain⟨b2,o2,rfl,hb2,hc2⟩:=HA'.o (by omega)
       obtain⟨ks,hks,hvx⟩:=hc1 j x hx
       obtain⟨ks',hks',hvy⟩:=hc2 j y hy
       have HL1:=I (vlen6 hvx)
       have HL2:=I (vlen6 hvy)
       have HK1:=I (za hks HBK.o hb1)
       have HK2:=I (za hks' HBK.o hb2)
       have HST:=I (zeI (f:=ordV) hx hy)
       have HMX:=I (List.mem_of_getElem? hx)
       have HVX:=I hvx
       have HVY:=I hvy
       have HBB:=I (And.intro hb1 hb2)
       clear hx hy hc1 hc2 hks hks' hvx hvy hb1 hb2 hl1 hl2
       go_upto_region 21 with (fail)
       refine zF [(0,true),(1,true),(2,true),(3,true),(4,true),(5,true),(6,true),(7,true),(8,true),(9,true),(10,false),(11,true)] (fun z=>z.cell? ⟨w.heap.size,5,none⟩= some (.slice (some ⟨b1,o1,none⟩) its.length c)/\z.cell? ⟨pb,5,none⟩= some (.slice (some ⟨b2,o2,none⟩) its'.length c')/\z.rangeAt b1 (o1+j*6) ks/\z.rangeAt b2 (o2+j*6) ks') (by kernel_rfl) (by kernel_rfl) (by kernel_rfl) rfl (by intro c a d v w h;cases d<;>exact h) ?_
       have hs9:(fun z=>z.cell? ⟨w.heap.size,5,none⟩= some (.slice (some ⟨b1,o1,none⟩) its.length c)/\z.cell? ⟨pb,5,none⟩= some (.slice (some ⟨b2,o2,none⟩) its'.length c')/\z.rangeAt b1 (o1+j*6) ks/\z.rangeAt b2 (o2+j*6) ks') wr.drew:=⟨x5,y5,HK1.o,HK2.o⟩
       have HWD:Hid (Below wc.heap.size wc wr.drew):=I HBW.o.drew
       have HSd:Hid (pb < wr.drew.heap.size):=HSR
       have HBKd:Hid (Below w.heap.size w wr.drew):=I HBK.o.drew
       clear x5 y5
       generalize wr.drew= wd at*
       refine z8 (some 91) (.pointer (some ⟨w.heap.size,5,none⟩)) _ rfl rfl (by exact wA rfl) hs9 (fun z _=>by go_simp) ?_
       go_frame
       refine z8 (some 92) (.slice (some ⟨b1,o1,none⟩) its.length c) _ rfl rfl (by exact wA rfl) hs9 (fun z hz=>by have dd:=hz.1;go_simp) ?_
       go_frame
       refine zh (some 93) (.int .i64 j) _ _ rfl rfl rfl (by exact wA rfl) hs9 rfl ?_
       go_frame
       refine z8 (some 94) (.pointer (some ⟨b1,o1+j*6,none⟩)) _ rfl rfl (by exact wA rfl) hs9 (fun z _=>by go_simp) ?_
       go_frame
       refine z8 (some 95) (.agg ks.toArray) _ rfl rfl (by exact wA rfl) hs9 (fun z hz=>zD 27 rfl b1 (o1+j*6) ks _ rfl hz.2.2.1 Tryz.underlying27 rfl (by rw[HL1.o];kernel_rfl)) ?_
       go_frame
       refine z8 (some 96) (.pointer (some ⟨pb,5,none⟩)) _ rfl rfl (by exact wA rfl) hs9 (fun z _=>by go_simp) ?_
       go_frame
       refine z8 (some 97) (.slice (some ⟨b2,o2,none⟩) its'.length c') _ rfl rfl (by exact wA rfl) hs9 (fun z hz=>by have dd:=hz.2.1;go_simp) ?_
       go_frame
       refine zh (some 98) (.int .i64 j) _ _ rfl rfl rfl (by exact wA rfl) hs9 rfl ?_
       go_frame
       refine z8 (some 99) (.pointer (some ⟨b2,o2+j*6,none⟩)) _ rfl rfl (by exact wA rfl) hs9 (fun z _=>by go_simp) ?_
       go_frame
       refine z8 (some 100) (.agg ks'.toArray) _ rfl rfl (by exact wA rfl) hs9 (fun z hz=>zD 27 rfl b2 (o2+j*6) ks' _ rfl hz.2.2.2 Tryz.underlying27 rfl (by rw[HL2.o];kernel_rfl)) ?_
       go_frame
       refine zx (some 101) 40 Tryz.func40 (by kernel_rfl) (by kernel_rfl) [.agg ks.toArray,.agg ks'.toArray] _ _ _ rfl rfl rfl (by exact wA rfl) rfl ?_
       refine(IH.o x HMX.o y ks ks' wd ((HVX.o.under HBKd.o).more HBKd.o.size) ((HVY.o.under HBKd.o).more HBKd.o.size)).mono ?_
       rintro e z2 ⟨rfl,hb⟩
       have hs8:(fun z=>z.cell? ⟨w.heap.size,5,none⟩= some (.slice (some ⟨b1,o1,none⟩) its.length c)/\z.cell? ⟨pb,5,none⟩= some (.slice (some ⟨b2,o2,none⟩) its'.length c')/\z.rangeAt b1 (o1+j*6) ks/\z.rangeAt b2 (o2+j*6) ks') z2:=⟨(hb.cell (p:=⟨w.heap.size,5,none⟩) (Nat.lt_trans HPB.o HSd.o)).trans hs9.1,(hb.cell (p:=⟨pb,5,none⟩) HSd.o).trans hs9.2.1,za hs9.2.2.1 hb (by have:=HBB.o;have:=HBKd.o.size;omega),za hs9.2.2.2 hb (by have:=HBB.o;have:=HBKd.o.size;omega)⟩
       refine⟨_,rfl,hs8,?_⟩
       go_frame
       have HZB:=I (HWD.o.trans (hb.mono HWD.o.size))
       clear hb hs9
       refine z21 (some 5) (.int .i64 (ordV x y)) _ _ rfl rfl rfl (by exact wA rfl) hs8 rfl ?_
       go_frame
       refine z0a ?_
       clear hs8
       have HNX:Hid ((ordV x y= 0/\listC ordV (its.drop (j+1)) (its'.drop (j+1))= res)\/(ordV x y≠0/\ordV x y= res)):=I (by
        have h:=HC.o
        rw[HST.o] at h
        by_cases h0:ordV x y= 0
        ·rw[if_neg (by omega)] at h;exact .inl ⟨h0,h⟩
        ·rw[if_pos h0] at h;exact .inr ⟨h0,h⟩)
       generalize ordV x y= nv at*
       go_wp2
       go_roundg g
       case measure=>omega
       case rel=>exact⟨j+1,nv,by omega,by omega,by go_num,rfl,HZB.o,HNX.o⟩
      ·have hge2: ¬ ((j:Int) <(its'.length:Int)):=by omega
       have HV:Hid (cmpI (its.length:Int) (its'.length:Int)= res):=I ((HTL.o (by omega) (by omega) (.inr (by omega))).symm.trans HC.o)
       clear hl1 hl2 HTL
       go_wp2_with (go_at_call 73;refine(HSG.o _ _ _).mono ?_;rintro en z ⟨rfl,h⟩;rw[h];clear h z)
       go_ret
       exact⟨zt HV.o,HBK.o⟩
     ·have hge1: ¬ ((j:Int) <(its.length:Int)):=by omega
      have HV:Hid (cmpI (its.length:Int) (its'.length:Int)= res):=I ((HTL.o (by omega) (by omega) (.inl (by omega))).symm.trans HC.o)
      clear hl1 HTL
      go_wp2_with (go_at_call 73;refine(HSG.o _ _ _).mono ?_;rintro en z ⟨rfl,h⟩;rw[h];clear h z)
      go_ret
      exact⟨zt HV.o,HBK.o⟩
    ·have HC:=I hc
     have hc0b:(cv ==0)= false:=by simpa using hc0
     clear hc hc0 HTL
     by_cases hl1:j < its.length
     ·have hlt:(j:Int) <(its.length:Int):=by omega
      by_cases hl2:j < its'.length
      ·have hlt2:(j:Int) <(its'.length:Int):=by omega
       go_wp2
       go_ret
       exact⟨zt HC.o,HBK.o⟩
      ·have hge2: ¬ ((j:Int) <(its'.length:Int)):=by omega
       go_wp2
       go_ret
       exact⟨zt HC.o,HBK.o⟩
     ·have hge1: ¬ ((j:Int) <(its.length:Int)):=by omega
      go_wp2
      go_ret
      exact⟨zt HC.o,HBK.o⟩
  ·have hkk:(k !=k')= true:=by simpa using hk
   have HV:Hid (res= cmpI k k'):=I (by rw[HO.o,if_pos];have:=zY k k';omega)
   clear HO hk
   go_wp2_with (go_at_call 73;refine(HSG.o _ _ _).mono ?_;rintro en z ⟨rfl,h⟩;rw[h];clear h z)
   go_ret
   exact⟨zt HV.o.symm,HB.o⟩
theorem zc7 (t t':VT) (cs cs':List Value) (w:World) (hv:ValAt w w.heap.size cs t) (hv':ValAt w w.heap.size cs' t'):
  Calls Tryz.prog 14 #[.agg ⟨cs⟩,.agg ⟨cs'⟩] w fun e w'=>e= .returned (.bool (ordV t t' ==0))/\Below w.heap.size w w':=by
 have HC1:=I (vlen6 hv)
 have HC2:=I (vlen6 hv')
 have hB0:=zc w (.cells ⟨cs⟩ 27)
 have hB1:=zc (w.alloc (.cells ⟨cs⟩ 27)) (.cells ⟨cs'⟩ 27)
 have HB:=I (hB0.trans (hB1.mono hB0.size))
 have hRA:=za (zm w cs 27) hB1 (zw w _)
 have hRB:=zm (w.alloc (.cells ⟨cs⟩ 27)) cs' 27
 rw[World.size_alloc] at hRB
 have HRA:=I hRA
 have HRB:=I hRB
 have HV1:=I ((hv.under HB.o).more HB.o.size)
 have HV2:=I ((hv'.under HB.o).more HB.o.size)
 clear hv hv' hB0 hB1 hRA hRB
 go_enter Tryz.func14,Tryz.ntmps14
 go_upto_region 1 with (fail)
 generalize (w.alloc (.cells ⟨cs⟩ 27)).alloc (.cells ⟨cs'⟩ 27)= W at*
 obtain⟨pb,hpb⟩:∃ pb,w.heap.size+1= pb:=⟨_,rfl⟩
 rw[hpb] at HRB
 rw[hpb]
 clear hpb
 have HC:=I (za7 t t' cs cs' W HV1.o HV2.o)
 obtain⟨r,hr⟩:∃ r,ordV t t'= r:=⟨_,rfl⟩
 have HRr:=I hr
 rw[hr] at HC
 clear hr
 go_wp2_with (first|((with_reducible refine z7 27 _ rfl ?_ w.heap.size 0 cs _ rfl HRA.o Tryz.underlying27 rfl ?_ ?_);(exact wA rfl);rw[HC1.o];kernel_rfl)|((with_reducible refine z7 27 _ rfl ?_ pb 0 cs' _ rfl HRB.o Tryz.underlying27 rfl ?_ ?_);(exact wA rfl);rw[HC2.o];kernel_rfl)|(go_at_call 40;refine HC.o.mono ?_;rintro e z ⟨rfl,hb⟩;have HB2:=I hb;clear hb))
 go_ret
 exact⟨by rw[HRr.o];rfl,HB.o.trans (HB2.o.mono HB.o.size)⟩
end
section
open Go Go.RowKit
theorem z9A {w:World} {p o i:Nat} {cs ds:List Value} (h:w.rangeAt p o cs) (hd:∀ j v,ds[j]?= some v->cs[i+j]?= some v):w.rangeAt p (o+i) ds:=fun j v hv=>by
 have:=h (i+j) v (hd j v hv)
 rw[show o+i+j= o+ (i+j) by omega];exact this
theorem z9P {w:World} {b o:Nat} {l:List ByteArray} (hc:∀ (i:Nat) x,l[i]?= some x->∃ cs:List Value,cs.length= 1/\w.rangeAt b (o+i*1) cs/\StrR cs x) {j:Nat} {x:ByteArray} (hx:l[j]?= some x):
  w.cell? ⟨b,o+j,none⟩= some (.string x):=by
 obtain⟨cs,_,hr,he⟩:=hc j x hx
 have:=hr 0 (.string x) (by rw[he.1];rfl)
 simpa using this
theorem z61:∀ (t t':ET) (cs cs':List Value) (w:World),ExpAt w w.heap.size cs t->ExpAt w w.heap.size cs' t'->
  Calls Tryz.prog 16 #[.agg ⟨cs⟩,.agg ⟨cs'⟩] w fun e w'=>e= .returned (.bool (sameE t t'))/\Below w.heap.size w w':=by
 intro t
 induction t using ET.ind with
 |h k s v ns its ih=>
  intro t' cs cs' w hv hv'
  cases t' with
  |mk k' s' v' ns' its'=>
  have IH:=I ih
  obtain⟨v0,v1,v2,v3,v4,v5,vn0,vi0,rfl,_,_,hvv,hns,hil,hi⟩:=hv.inv
  obtain⟨_,A,c,rfl,hA⟩:=hi
  obtain⟨hnl,NA,nc,rfl,hN⟩:=hns
  cases v with
  |mk vk vn vf vs vxs vits=>
  obtain⟨vns,vis,hcv,_,_,hvf,_,hvns,_,hvi⟩:=hvv.inv
  simp only[List.cons.injEq,and_true] at hcv
  obtain⟨rfl,rfl,rfl,rfl,rfl,rfl⟩:=hcv
  obtain⟨v0',v1',v2',v3',v4',v5',vn0',vi0',rfl,_,_,hvv',hns',hil',hi'⟩:=hv'.inv
  obtain⟨_,A',c',rfl,hA'⟩:=hi'
  obtain⟨hnl',NA',nc',rfl,hN'⟩:=hns'
  cases v' with
  |mk vk' vn' vf' vs' vxs' vits'=>
  obtain⟨vns',vis',hcv',_,_,hvf',_,hvns',_,hvi'⟩:=hvv'.inv
  simp only[List.cons.injEq,and_true] at hcv'
  obtain⟨rfl,rfl,rfl,rfl,rfl,rfl⟩:=hcv'
  have HA:=I hA
  have HA':=I hA'
  have HN:=I hN
  have HN':=I hN'
  have HVV:=I hvv
  have HVV':=I hvv'
  have HO:Hid (sameE (.mk k s (.mk vk vn vf vs vxs vits) ns its) (.mk k' s' (.mk vk' vn' vf' vs' vxs' vits') ns' its')=((k ==k') && ((s.toList ==s'.toList) && ((ordV (.mk vk vn vf vs vxs vits) (.mk vk' vn' vf' vs' vxs' vits') ==0) && (((ns.length:Int) ==ns'.length) && (((its.length:Int) ==its'.length) && (eqN ns ns' && z03 its its'))))))):=I (by rw[sameE])
  generalize sameE (.mk k s (.mk vk vn vf vs vxs vits) ns its) (.mk k' s' (.mk vk' vn' vf' vs' vxs' vits') ns' its')= res at*
  have hB0:=zc w (.cells ⟨[.int .i64 k,.string s,.int .i64 vk,.int .i64 vn,.float .f64 vf,.string vs,v4,v5,.slice NA ns.length nc,.slice A its.length c]⟩ 30)
  have hB1:=zc (w.alloc (.cells ⟨[.int .i64 k,.string s,.int .i64 vk,.int .i64 vn,.float .f64 vf,.string vs,v4,v5,.slice NA ns.length nc,.slice A its.length c]⟩ 30)) (.cells ⟨[.int .i64 k',.string s',.int .i64 vk',.int .i64 vn',.float .f64 vf',.string vs',v4',v5',.slice NA' ns'.length nc',.slice A' its'.length c']⟩ 30)
  have HB:=I (hB0.trans (hB1.mono hB0.size))
  have HSB:Hid (w.heap.size+1 <((w.alloc (.cells ⟨[.int .i64 k,.string s,.int .i64 vk,.int .i64 vn,.float .f64 vf,.string vs,v4,v5,.slice NA ns.length nc,.slice A its.length c]⟩ 30)).alloc (.cells ⟨[.int .i64 k',.string s',.int .i64 vk',.int .i64 vn',.float .f64 vf',.string vs',v4',v5',.slice NA' ns'.length nc',.slice A' its'.length c']⟩ 30)).heap.size):=I (by simp)
  have hRA:=za (zm w [.int .i64 k,.string s,.int .i64 vk,.int .i64 vn,.float .f64 vf,.string vs,v4,v5,.slice NA ns.length nc,.slice A its.length c] 30) hB1 (zw w _)
  have hRB:=zm (w.alloc (.cells ⟨[.int .i64 k,.string s,.int .i64 vk,.int .i64 vn,.float .f64 vf,.string vs,v4,v5,.slice NA ns.length nc,.slice A its.length c]⟩ 30)) [.int .i64 k',.string s',.int .i64 vk',.int .i64 vn',.float .f64 vf',.string vs',v4',v5',.slice NA' ns'.length nc',.slice A' its'.length c'] 30
  rw[World.size_alloc] at hRB
  have HRA:=I hRA
  have HRB:=I hRB
  unfold maxLen at hil hil'
  clear ih hv hA hN hv' hA' hN' hB0 hB1 hRA hRB hvv hvv' hvf hvf' hvns hvi hvns' hvi'
  go_enter Tryz.func16,Tryz.ntmps16
  go_upto_region 1 with (fail)
  generalize (w.alloc (.cells ⟨[.int .i64 k,.string s,.int .i64 vk,.int .i64 vn,.float .f64 vf,.string vs,v4,v5,.slice NA ns.length nc,.slice A its.length c]⟩ 30)).alloc (.cells ⟨[.int .i64 k',.string s',.int .i64 vk',.int .i64 vn',.float .f64 vf',.string vs',v4',v5',.slice NA' ns'.length nc',.slice A' its'.length c']⟩ 30)= W at*
  obtain⟨pb,hpb⟩:∃ pb,w.heap.size+1= pb:=⟨_,rfl⟩
  rw[hpb] at HRB HSB
  rw[hpb]
  have HPB:Hid (w.heap.size < pb):=I (by omega)
  clear hpb
  have d0:W.cell? ⟨w.heap.size,0,none⟩= some (.int .i64 k):=by have:=HRA.o 0 _ rfl;simpa using this
  have d1:W.cell? ⟨w.heap.size,1,none⟩= some (.string s):=by have:=HRA.o 1 _ rfl;simpa using this
  have d8:W.cell? ⟨w.heap.size,8,none⟩= some (.slice NA ns.length nc):=by have:=HRA.o 8 _ rfl;simpa using this
  have d9:W.cell? ⟨w.heap.size,9,none⟩= some (.slice A its.length c):=by have:=HRA.o 9 _ rfl;simpa using this
  have e0:W.cell? ⟨pb,0,none⟩= some (.int .i64 k'):=by have:=HRB.o 0 _ rfl;simpa using this
  have e1:W.cell? ⟨pb,1,none⟩= some (.string s'):=by have:=HRB.o 1 _ rfl;simpa using this
  have e8:W.cell? ⟨pb,8,none⟩= some (.slice NA' ns'.length nc'):=by have:=HRB.o 8 _ rfl;simpa using this
  have e9:W.cell? ⟨pb,9,none⟩= some (.slice A' its'.length c'):=by have:=HRB.o 9 _ rfl;simpa using this
  have HRV:Hid (W.rangeAt w.heap.size 2 [.int .i64 vk,.int .i64 vn,.float .f64 vf,.string vs,v4,v5]):=I (by have:=z9A (i:=2) (ds:=[.int .i64 vk,.int .i64 vn,.float .f64 vf,.string vs,v4,v5]) HRA.o (fun j v h=>match j,h with|0,h=>h|1,h=>h|2,h=>h|3,h=>h|4,h=>h|5,h=>h|j+6,h=>by simp at h);simpa using this)
  have HRW:Hid (W.rangeAt pb 2 [.int .i64 vk',.int .i64 vn',.float .f64 vf',.string vs',v4',v5']):=I (by have:=z9A (i:=2) (ds:=[.int .i64 vk',.int .i64 vn',.float .f64 vf',.string vs',v4',v5']) HRB.o (fun j v h=>match j,h with|0,h=>h|1,h=>h|2,h=>h|3,h=>h|4,h=>h|5,h=>h|j+6,h=>by simp at h);simpa using this)
  have D8:=I d8
  have D9:=I d9
  have E8:=I e8
  have E9:=I e9
  clear HRA HRB
  have HSV:=I (zc7 (.mk vk vn vf vs vxs vits) (.mk vk' vn' vf' vs' vxs' vits') [.int .i64 vk,.int .i64 vn,.float .f64 vf,.string vs,v4,v5] [.int .i64 vk',.int .i64 vn',.float .f64 vf',.string vs',v4',v5'] W ((HVV.o.under HB.o).more HB.o.size) ((HVV'.o.under HB.o).more HB.o.size))
  obtain⟨sv,hsv⟩:∃ b,(ordV (.mk vk vn vf vs vxs vits) (.mk vk' vn' vf' vs' vxs' vits') ==0)= b:=⟨_,rfl⟩
  rw[hsv] at HSV HO
  clear hsv HVV HVV'
  have HPA:Hid (w.heap.size < W.heap.size):=I (Nat.lt_trans HPB.o HSB.o)
  obtain⟨b1,hb1⟩:∃ b,((k ==k') && ((s.toList ==s'.toList) && (sv && (((ns.length:Int) ==ns'.length) && ((its.length:Int) ==its'.length)))))= b:=⟨_,rfl⟩
  have HB1:=I hb1
  have HO1:Hid (res=(b1 && (eqN ns ns' && z03 its its'))):=I (by rw[HO.o,← HB1.o];simp only[Bool.and_assoc])
  clear hb1 HO
  go_cut [44] (fun v z=>v= .bool (!b1)/\Below W.heap.size W z)
  case first=>
   cases hk:(k ==k') with
   |false=>
    have hk2:(k !=k')= true:=by simpa using hk
    have HV:Hid (b1= false):=I (by rw[← HB1.o,hk];rfl)
    clear hk
    go_wp2
    go_meet
    case rel=>exact⟨by rw[HV.o];rfl,Below.refl _ _⟩
   |true=>
   have hk2:(k !=k')= false:=by simpa using hk
   cases hs:(s.toList ==s'.toList) with
   |false=>
    have HV:Hid (b1= false):=I (by rw[← HB1.o,hk,hs];rfl)
    clear hk
    go_wp2
    go_meet
    case rel=>exact⟨by rw[HV.o];rfl,Below.refl _ _⟩
   |true=>
   cases sv with
   |false=>
    have HV:Hid (b1= false):=I (by rw[← HB1.o,hk,hs];rfl)
    clear hk
    go_wp2_with (first|((with_reducible refine z7 27 _ rfl ?_ w.heap.size 2 [.int .i64 vk,.int .i64 vn,.float .f64 vf,.string vs,v4,v5] _ rfl HRV.o Tryz.underlying27 rfl ?_ ?_);(exact wA rfl);kernel_rfl)|((with_reducible refine z7 27 _ rfl ?_ pb 2 [.int .i64 vk',.int .i64 vn',.float .f64 vf',.string vs',v4',v5'] _ rfl HRW.o Tryz.underlying27 rfl ?_ ?_);(exact wA rfl);kernel_rfl)|(go_at_call 14;refine HSV.o.mono ?_;rintro en z ⟨rfl,hb⟩;have HZ:=I hb;clear hb))
    go_meet
    case rel=>exact⟨by rw[HV.o];rfl,HZ.o⟩
   |true=>
   have HB2:Hid ((((ns.length:Int) ==ns'.length) && ((its.length:Int) ==its'.length))= b1):=I (by rw[← HB1.o,hk,hs];rfl)
   clear hk
   cases hn:((ns.length:Int) ==ns'.length) with
   |false=>
    have hn2:((ns.length:Int) !=ns'.length)= true:=by simpa using hn
    have HV:Hid (b1= false):=I (by rw[← HB2.o,hn];rfl)
    clear hn
    go_wp2_with (first|((with_reducible refine z7 27 _ rfl ?_ w.heap.size 2 [.int .i64 vk,.int .i64 vn,.float .f64 vf,.string vs,v4,v5] _ rfl HRV.o Tryz.underlying27 rfl ?_ ?_);(exact wA rfl);kernel_rfl)|((with_reducible refine z7 27 _ rfl ?_ pb 2 [.int .i64 vk',.int .i64 vn',.float .f64 vf',.string vs',v4',v5'] _ rfl HRW.o Tryz.underlying27 rfl ?_ ?_);(exact wA rfl);kernel_rfl)|(go_at_call 14;refine HSV.o.mono ?_;rintro en z ⟨rfl,hb⟩;have HZ:=I hb;have x8:=(hb.cell (p:=⟨w.heap.size,8,none⟩) HPA.o).trans D8.o;have y8:=(hb.cell (p:=⟨pb,8,none⟩) HSB.o).trans E8.o;have x9:=(hb.cell (p:=⟨w.heap.size,9,none⟩) HPA.o).trans D9.o;have y9:=(hb.cell (p:=⟨pb,9,none⟩) HSB.o).trans E9.o;clear hb))
    go_meet
    case rel=>exact⟨by rw[HV.o];rfl,HZ.o⟩
   |true=>
   have hn2:((ns.length:Int) !=ns'.length)= false:=by simpa using hn
   cases hi:((its.length:Int) ==its'.length) with
   |false=>
    have hi2:((its.length:Int) !=its'.length)= true:=by simpa using hi
    have HV:Hid (b1= false):=I (by rw[← HB2.o,hn,hi];rfl)
    clear hn hi
    go_wp2_with (first|((with_reducible refine z7 27 _ rfl ?_ w.heap.size 2 [.int .i64 vk,.int .i64 vn,.float .f64 vf,.string vs,v4,v5] _ rfl HRV.o Tryz.underlying27 rfl ?_ ?_);(exact wA rfl);kernel_rfl)|((with_reducible refine z7 27 _ rfl ?_ pb 2 [.int .i64 vk',.int .i64 vn',.float .f64 vf',.string vs',v4',v5'] _ rfl HRW.o Tryz.underlying27 rfl ?_ ?_);(exact wA rfl);kernel_rfl)|(go_at_call 14;refine HSV.o.mono ?_;rintro en z ⟨rfl,hb⟩;have HZ:=I hb;have x8:=(hb.cell (p:=⟨w.heap.size,8,none⟩) HPA.o).trans D8.o;have y8:=(hb.cell (p:=⟨pb,8,none⟩) HSB.o).trans E8.o;have x9:=(hb.cell (p:=⟨w.heap.size,9,none⟩) HPA.o).trans D9.o;have y9:=(hb.cell (p:=⟨pb,9,none⟩) HSB.o).trans E9.o;clear hb))
    go_meet
    case rel=>exact⟨by rw[HV.o];rfl,HZ.o⟩
   |true=>
    have hi2:((its.length:Int) !=its'.length)= false:=by simpa using hi
    have HV:Hid (b1= true):=I (by rw[← HB2.o,hn,hi];rfl)
    clear hn hi
    go_wp2_with (first|((with_reducible refine z7 27 _ rfl ?_ w.heap.size 2 [.int .i64 vk,.int .i64 vn,.float .f64 vf,.string vs,v4,v5] _ rfl HRV.o Tryz.underlying27 rfl ?_ ?_);(exact wA rfl);kernel_rfl)|((with_reducible refine z7 27 _ rfl ?_ pb 2 [.int .i64 vk',.int .i64 vn',.float .f64 vf',.string vs',v4',v5'] _ rfl HRW.o Tryz.underlying27 rfl ?_ ?_);(exact wA rfl);kernel_rfl)|(go_at_call 14;refine HSV.o.mono ?_;rintro en z ⟨rfl,hb⟩;have HZ:=I hb;have x8:=(hb.cell (p:=⟨w.heap.size,8,none⟩) HPA.o).trans D8.o;have y8:=(hb.cell (p:=⟨pb,8,none⟩) HSB.o).trans E8.o;have x9:=(hb.cell (p:=⟨w.heap.size,9,none⟩) HPA.o).trans D9.o;have y9:=(hb.cell (p:=⟨pb,9,none⟩) HSB.o).trans E9.o;clear hb))
    go_meet
    case rel=>exact⟨by rw[HV.o];rfl,HZ.o⟩
  case rest=>
  obtain⟨rfl,hbc⟩:=hcut
  have hB2:=HB.o.trans (hbc.mono HB.o.size)
  have HB2:=I hB2
  have HSP:Hid (pb < wc.heap.size):=I (Nat.lt_of_lt_of_le HSB.o hbc.size)
  have HX8:=I ((hbc.cell (p:=⟨w.heap.size,8,none⟩) HPA.o).trans D8.o)
  have HY8:=I ((hbc.cell (p:=⟨pb,8,none⟩) HSB.o).trans E8.o)
  have HX9:=I ((hbc.cell (p:=⟨w.heap.size,9,none⟩) HPA.o).trans D9.o)
  have HY9:=I ((hbc.cell (p:=⟨pb,9,none⟩) HSB.o).trans E9.o)
  clear hbc hB2 d0 d1 d8 d9 e0 e1 e8 e9 D8 D9 E8 E9 HSV HRV HRW HPA
  cases b1 with
  |false=>
   have HR:Hid (res= false):=I (HO1.o.trans (Bool.false_and _))
   go_wp2
   go_ret
   exact⟨z6 HR.o.symm,HB2.o⟩
  |true=>
  have hb1:=HB1.o
  simp only[Bool.and_eq_true,beq_iff_eq] at hb1
  have HLN:Hid (ns.length= ns'.length):=I (by have:=hb1.2.2.2.1;omega)
  have HLI:Hid (its.length= its'.length):=I (by have:=hb1.2.2.2.2;omega)
  rw[Bool.true_and] at HO1
  clear hb1 HB1
  obtain⟨rn,hrn⟩:∃ b,eqN ns ns'= b:=⟨_,rfl⟩
  have H0:Hid (eqN (ns.drop 0) (ns'.drop 0)= rn):=I hrn
  rw[hrn] at HO1
  clear hrn
  go_upto_region 4 with (fail)
  go_loopg [5] ns.length (fun g i wr=>∃ j:Nat,j+g= ns.length/\i= .int .i64 j/\Below wc.heap.size wc wr/\eqN (ns.drop j) (ns'.drop j)= rn)
  case atStart=>exact⟨0,by omega,rfl,Below.refl _ _,H0.o⟩
  case round=>
   obtain⟨j,hj,rfl,hb,hres⟩:=hrel
   have HR:=I hres
   have HBW:=I hb
   have HBK:=I (HB2.o.trans (hb.mono HB2.o.size))
   have x8:=(hb.cell (p:=⟨w.heap.size,8,none⟩) (Nat.lt_trans HPB.o HSP.o)).trans HX8.o
   have y8:=(hb.cell (p:=⟨pb,8,none⟩) HSP.o).trans HY8.o
   clear hb hres
   cases gk with
   |zero=>
    obtain rfl:j= ns.length:=by omega
    have hge: ¬ ((ns.length:Int) <(ns.length:Int)):=by omega
    have HV:=I (HR.o.symm.trans (zfE HLN.o))
    have HRR:Hid (res= z03 its its'):=I (by rw[HO1.o,HV.o];exact Bool.true_and _)
    have H1:Hid (z03 (its.drop 0) (its'.drop 0)= res):=I HRR.o.symm
    clear HR
    go_upto_region 9 with (fail)
    clear x8 y8
    go_loopg [6] its.length (fun g i wr=>∃ j:Nat,j+g= its.length/\i= .int .i64 j/\Below wc.heap.size wc wr/\z03 (its.drop j) (its'.drop j)= res)
    case atStart=>exact⟨0,by omega,rfl,HBW.o,H1.o⟩
    case round=>
     obtain⟨j,hj,rfl,hb,hres⟩:=hrel
     have HR:=I hres
     have HBW:=I hb
     have HBK:=I (HB2.o.trans (hb.mono HB2.o.size))
     have x9:=(hb.cell (p:=⟨w.heap.size,9,none⟩) (Nat.lt_trans HPB.o HSP.o)).trans HX9.o
     have y9:=(hb.cell (p:=⟨pb,9,none⟩) HSP.o).trans HY9.o
     have HSR:Hid (pb < wr.heap.size):=I (Nat.lt_of_lt_of_le HSP.o hb.size)
     clear hb hres
     cases gk with
     |zero=>
      obtain rfl:j= its.length:=by omega
      have hge: ¬ ((its.length:Int) <(its.length:Int)):=by omega
      have HV:=I (HR.o.symm.trans (zaA HLI.o))
      go_wp2
      go_ret
      exact⟨z6 HV.o.symm,HBK.o⟩
     |succ g=>
      have hlt:(j:Int) <(its.length:Int):=by omega
      have hlt2:(j:Int) <(its'.length:Int):=by have:=HLI.o;omega
      obtain⟨x,hx⟩:∃ x,its[j]?= some x:=⟨_,List.getElem?_eq_getElem (by omega)⟩
      obtain⟨y,hy⟩:∃ x,its'[j]?= some x:=⟨_,List.getElem?_eq_getElem (by have:=HLI.o;omega)⟩
      obtain⟨b1,o1,rfl,hb1,hc1⟩:=HA.o (by omega)
      obtain⟨b2,o2,rfl,hb2,hc2⟩:=HA'.o (by have:=HLI.o;omega)
      obtain⟨ks,hl1,hks,hvx⟩:=hc1 j x hx
      obtain⟨ks',hl2,hks',hvy⟩:=hc2 j y hy
      have HL1:=I hl1
      have HL2:=I hl2
      have HK1:=I (za hks HBK.o hb1)
      have HK2:=I (za hks' HBK.o hb2)
      have HST:=I (HR.o.symm.trans (zd5 hx hy))
      have HMX:=I (List.mem_of_getElem? hx)
      have HVX:=I hvx
      have HVY:=I hvy
      have HBB:=I (And.intro hb1 hb2)
      clear hx hy hc1 hc2 hks hks' hvx hvy hb1 hb2 hl1 hl2 HR
      obtain⟨sx,hsx⟩:∃ b,sameE x y= b:=⟨_,rfl⟩
      rw[hsx] at HST
      have HSX:=I hsx
      clear hsx
      go_upto_region 11 with (fail)
      go_cut [81] (fun q z=>q= .bool (!sx)/\Below wc.heap.size wc z)
      case first=>
       refine zF [(0,true),(1,true),(2,true),(3,true),(4,true),(5,true),(6,true),(7,true),(8,true),(9,true),(10,false),(11,true)] (fun z=>z.cell? ⟨w.heap.size,9,none⟩= some (.slice (some ⟨b1,o1,none⟩) its.length c)/\z.cell? ⟨pb,9,none⟩= some (.slice (some ⟨b2,o2,none⟩) its'.length c')/\z.rangeAt b1 (o1+j*10) ks/\z.rangeAt b2 (o2+j*10) ks') (by kernel_rfl) (by kernel_rfl) (by kernel_rfl) rfl (by intro c a d v w h;cases d<;>exact h) ?_
       have hs9:(fun z=>z.cell? ⟨w.heap.size,9,none⟩= some (.slice (some ⟨b1,o1,none⟩) its.length c)/\z.cell? ⟨pb,9,none⟩= some (.slice (some ⟨b2,o2,none⟩) its'.length c')/\z.rangeAt b1 (o1+j*10) ks/\z.rangeAt b2 (o2+j*10) ks') wr.drew:=⟨x9,y9,HK1.o,HK2.o⟩
       have HWD:Hid (Below wc.heap.size wc wr.drew):=I HBW.o.drew
       have HSd:Hid (pb < wr.drew.heap.size):=HSR
       have HBKd:Hid (Below w.heap.size w wr.drew):=I HBK.o.drew
       clear x9 y9
       generalize wr.drew= wd at*
       refine z8 (some 70) (.pointer (some ⟨w.heap.size,9,none⟩)) _ rfl rfl (by exact wA rfl) hs9 (fun z _=>by go_simp) ?_
       go_frame
       refine z8 (some 71) (.slice (some ⟨b1,o1,none⟩) its.length c) _ rfl rfl (by exact wA rfl) hs9 (fun z hz=>by have dd:=hz.1;go_simp) ?_
       go_frame
       refine zh (some 72) (.int .i64 j) _ _ rfl rfl rfl (by exact wA rfl) hs9 rfl ?_
       go_frame
       refine z8 (some 73) (.pointer (some ⟨b1,o1+j*10,none⟩)) _ rfl rfl (by exact wA rfl) hs9 (fun z _=>by go_simp) ?_
       go_frame
       refine z8 (some 74) (.agg ks.toArray) _ rfl rfl (by exact wA rfl) hs9 (fun z hz=>zD 30 rfl b1 (o1+j*10) ks _ rfl hz.2.2.1 Tryz.underlying30 rfl (by rw[HL1.o];kernel_rfl)) ?_
       go_frame
       refine z8 (some 75) (.pointer (some ⟨pb,9,none⟩)) _ rfl rfl (by exact wA rfl) hs9 (fun z _=>by go_simp) ?_
       go_frame
       refine z8 (some 76) (.slice (some ⟨b2,o2,none⟩) its'.length c') _ rfl rfl (by exact wA rfl) hs9 (fun z hz=>by have dd:=hz.2.1;go_simp) ?_
       go_frame
       refine zh (some 77) (.int .i64 j) _ _ rfl rfl rfl (by exact wA rfl) hs9 rfl ?_
       go_frame
       refine z8 (some 78) (.pointer (some ⟨b2,o2+j*10,none⟩)) _ rfl rfl (by exact wA rfl) hs9 (fun z _=>by go_simp) ?_
       go_frame
       refine z8 (some 79) (.agg ks'.toArray) _ rfl rfl (by exact wA rfl) hs9 (fun z hz=>zD 30 rfl b2 (o2+j*10) ks' _ rfl hz.2.2.2 Tryz.underlying30 rfl (by rw[HL2.o];kernel_rfl)) ?_
       go_frame
       refine zx (some 80) 16 Tryz.func16 (by kernel_rfl) (by kernel_rfl) [.agg ks.toArray,.agg ks'.toArray] _ _ _ rfl rfl rfl (by exact wA rfl) rfl ?_
       refine(IH.o x HMX.o y ks ks' wd ((HVX.o.under HBKd.o).more HBKd.o.size) ((HVY.o.under HBKd.o).more HBKd.o.size)).mono ?_
       rintro e z2 ⟨rfl,hb⟩
       rw[HSX.o]
       have hs8:(fun z=>z.cell? ⟨w.heap.size,9,none⟩= some (.slice (some ⟨b1,o1,none⟩) its.length c)/\z.cell? ⟨pb,9,none⟩= some (.slice (some ⟨b2,o2,none⟩) its'.length c')/\z.rangeAt b1 (o1+j*10) ks/\z.rangeAt b2 (o2+j*10) ks') z2:=⟨(hb.cell (p:=⟨w.heap.size,9,none⟩) (Nat.lt_trans HPB.o HSd.o)).trans hs9.1,(hb.cell (p:=⟨pb,9,none⟩) HSd.o).trans hs9.2.1,za hs9.2.2.1 hb (by have:=HBB.o;have:=HBKd.o.size;omega),za hs9.2.2.2 hb (by have:=HBB.o;have:=HBKd.o.size;omega)⟩
       refine⟨_,rfl,hs8,?_⟩
       go_frame
       have HZB:=I (HWD.o.trans (hb.mono HWD.o.size))
       clear hb hs9
       refine z8 (some 81) (.bool (!sx)) _ rfl rfl (by exact wA rfl) hs8 (fun z _=>by go_simp) ?_
       go_frame
       refine z0a ?_
       clear hs8
       go_wp2
       go_meet
       case rel=>exact⟨rfl,HZB.o⟩
      case rest=>
      obtain⟨rfl,hbc⟩:=hcut
      have HBC:=I hbc
      clear hbc x9 y9
      cases sx with
      |false=>
       have HV:Hid (res= false):=I (HST.o.trans (Bool.false_and _))
       go_wp2
       go_ret
       exact⟨z6 HV.o.symm,HB2.o.trans (HBC.o.mono HB2.o.size)⟩
      |true=>
       have HV:=I (HST.o.trans (Bool.true_and _))
       go_wp2
       go_roundg g
       case measure=>omega
       case rel=>exact⟨j+1,by omega,by go_num,HBC.o,HV.o.symm⟩
   |succ g=>
    have hlt:(j:Int) <(ns.length:Int):=by omega
    have hlt2:(j:Int) <(ns'.length:Int):=by have:=HLN.o;omega
    obtain⟨x,hx⟩:∃ x,ns[j]?= some x:=⟨_,List.getElem?_eq_getElem (by omega)⟩
    obtain⟨y,hy⟩:∃ x,ns'[j]?= some x:=⟨_,List.getElem?_eq_getElem (by have:=HLN.o;omega)⟩
    obtain⟨b1,o1,rfl,hb1,hc1⟩:=HN.o (by omega)
    obtain⟨b2,o2,rfl,hb2,hc2⟩:=HN'.o (by have:=HLN.o;omega)
    have dx:=(HBK.o.cell (p:=⟨b1,o1+j,none⟩) hb1).trans (z9P hc1 hx)
    have dy:=(HBK.o.cell (p:=⟨b2,o2+j,none⟩) hb2).trans (z9P hc2 hy)
    have HST:=I (HR.o.symm.trans (zg3 hx hy))
    clear hx hy hc1 hc2 HR hb1 hb2
    cases hxy:(x.toList ==y.toList) with
    |false=>
     have HV:Hid (res= false):=I (by rw[HO1.o,HST.o,hxy];rfl)
     go_upto_region 6 with (fail)
     go_quiet (fail)
     go_wp2
     go_ret
     exact⟨z6 HV.o.symm,zr HBK.o _⟩
    |true=>
     have HV:Hid (eqN (ns.drop (j+1)) (ns'.drop (j+1))= rn):=I (by rw[HST.o,hxy,Bool.true_and])
     go_upto_region 6 with (fail)
     go_quiet (fail)
     go_wp2
     go_roundg g
     case measure=>omega
     case rel=>exact⟨j+1,by omega,by go_num,zr HBW.o _,HV.o⟩
end
end Go.Proofs.YteolfamhmfidbaaGreatDoor
