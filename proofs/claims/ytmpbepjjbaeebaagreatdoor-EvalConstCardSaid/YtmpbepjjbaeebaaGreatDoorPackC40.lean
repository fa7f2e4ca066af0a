/- Parts of a proof: E10U. -/
import Derived.Test.YtmpbepjjbaeebaaGreatDoorPackC6
import Derived.Test.YtmpbepjjbaeebaaGreatDoorPackC30
import Derived.Test.YtmpbepjjbaeebaaGreatDoorPackC37
import Derived.Test.YtmpbepjjbaeebaaGreatDoorPackC38
import Derived.Test.YtmpbepjjbaeebaaGreatDoorPackC39
set_option maxHeartbeats 8000000
set_option maxRecDepth 100000
set_option linter.unusedVariables false
set_option linter.unusedSimpArgs false
namespace Go.Proofs.YtmpbepjjbaeebaaGreatDoor
open Go Go.RowKit
theorem Kept.grow {P:Nat->Prop} {w w':World} {cs:List Value} {t:VT} (h:Kept P w cs t) (hb:Below w.heap.size w w'):Kept (fun b=>P b\/w.heap.size<=b) w' cs t:=h.to (fun b hp hlt=>⟨.inl hp,hb.block b hlt⟩) hb.size
theorem z2v (P:Nat->Prop) (w:World) (k n:Int) (f:Nat) (s:ByteArray) (hk:wfI k) (hn:wfI n) (hf:(Lit.float .f64 f).wf= true) (hs:s.size<=maxLen):Kept P w (valC k n f s) (.mk k n f s [] []):=z1t _ _ k n f s hk hn hf hs
theorem z0f {n:Int} (h: -9223372036854775808<=n/\n<=9223372036854775807):wfI n:=by
 unfold wfI Lit.wf
 simp only[Bool.and_eq_true,decide_eq_true_eq]
 exact⟨h.1,h.2⟩
theorem z3f {f:Nat} (h:(Lit.float .f64 f).wf= true):(Lit.float .f64 (zm f)).wf= true:=by
 unfold zm
 split
 ·decide
 ·exact h
theorem ze5 {f:Nat} (h:(Lit.float .f64 f).wf= true):(Lit.float .f64 (unV.fNeg f)).wf= true:=by
 have h1:=wf64 h
 refine wf_of_lt .f64 _ ?_
 show f ^^^ 9223372036854775808 < 2 ^ 64
 exact Nat.xor_lt_two_pow h1 (by decide)
theorem z0q {k n:Int} {f:Nat} {s:ByteArray} {ns:List ByteArray} {its:List VT} (h:zj (.mk k n f s ns its)= true):s.size<=200:=by
 have h1:=(z0J.1 h).2
 have hE:s.toList.isEmpty= true->s.size<=200:=fun he=>by
  have:s.toList=[]:=List.isEmpty_iff.1 he
  rw[ByteArray.toList_eq] at this
  cases s with
  |mk d=>simp at this;subst this;exact Nat.zero_le _
 rw[zo,if_neg (by decide)] at h1
 unfold bareB at h1
 by_cases k1:k= 1
 ·rw[if_pos k1] at h1;simp only[Bool.and_eq_true,Bool.false_or] at h1;exact hE h1.1.2.2.1
 rw[if_neg k1] at h1
 by_cases k2:k= 2
 ·rw[if_pos k2] at h1;simp only[Bool.and_eq_true,Bool.false_or] at h1;exact hE h1.2.2.1
 rw[if_neg k2] at h1
 by_cases k3:k= 3
 ·rw[if_pos k3] at h1;simp only[Bool.and_eq_true,Bool.false_or] at h1;exact hE h1.2.2.1
 rw[if_neg k3] at h1
 by_cases k4:k= 4
 ·rw[if_pos k4] at h1;simp only[Bool.and_eq_true,decide_eq_true_eq] at h1;exact h1.2
 rw[if_neg k4] at h1
 by_cases k6:k= 6
 ·rw[if_pos k6] at h1;simp only[Bool.and_eq_true,Bool.false_or] at h1;exact hE h1.2.2.1.2.2.1
 rw[if_neg k6] at h1
 by_cases k5:k= 5
 ·rw[if_pos k5] at h1;simp only[Bool.and_eq_true,Bool.false_or] at h1;exact hE h1.1.2.2.1
 ·rw[if_neg k5] at h1;cases h1
def tC (b:Bool):List Value:=valC 1 (if b= true then 1 else 0) 0 ⟨#[]⟩
theorem z1N (b:Bool):∀ v∈tC b,v.oneCell'= true:=z02 _ _ _ _
theorem z0Y (b:Bool) (w:World):Calls Tryz.prog 65 #[.bool b] w fun e w'=>e= .returned (.agg ⟨tC b⟩)/\Below w.heap.size w w':=zaV b w
theorem z2h (P:Nat->Prop) (w:World) (n:Int) (hn:wfI n):Kept P w (valC 2 n 0 ⟨#[]⟩) (vI n):=z2v P w 2 n 0 ⟨#[]⟩ (z0f (by omega)) hn (by decide) (by decide)
theorem z1f (P:Nat->Prop) (w:World) (b:Bool):Kept P w (tC b) (vB b):=z2v P w 1 _ 0 ⟨#[]⟩ (z0f (by omega)) (by cases b<;>exact z0f (by decide)) (by decide) (by decide)
theorem z62 (P:Nat->Prop) (w:World) (f:Nat) (hf:(Lit.float .f64 f).wf= true):Kept P w (valC 3 0 f ⟨#[]⟩) (vF f):=z2v P w 3 0 f ⟨#[]⟩ (z0f (by omega)) (z0f (by omega)) hf (by decide)
theorem zdq (P:Nat->Prop) (w:World) (s:ByteArray) (hs:s.size<=maxLen):Kept P w (valC 4 0 0 s) (vS s):=z2v P w 4 0 0 s (z0f (by omega)) (z0f (by omega)) (by decide) hs
def UnPost (P:Nat->Prop) (r:Res) (w:World) (e:Ending) (w':World):Prop:=
 (∃ v cs',r= .ok v/\e= .returned (.agg ⟨cs'⟩)/\Kept (fun b=>P b\/w.heap.size<=b) w' cs' v/\Below w.heap.size w w')\/(∃ n,r= .error n/\e= panE n/\Below w.heap.size w w')
theorem UnPost.ok {P:Nat->Prop} {r:Res} {w:World} {v:VT} {cs':List Value} {e:Ending} {w':World} (hr:r= .ok v) (he:e= .returned (.agg ⟨cs'⟩)) (hk:Kept (fun b=>P b\/w.heap.size<=b) w' cs' v) (hb:Below w.heap.size w w'):UnPost P r w e w':= .inl ⟨v,cs',hr,he,hk,hb⟩
theorem UnPost.no {P:Nat->Prop} {r:Res} {w:World} {n:Int} {e:Ending} {w':World} (hr:r= .error n) (he:e= panE n) (hb:Below w.heap.size w w'):UnPost P r w e w':= .inr ⟨n,hr,he,hb⟩
structure UB (w W:World) (cs:List Value):Prop where
 wa:Whole 26 W w.heap.size cs
 wb:Whole 26 W (w.heap.size+1) zV6
 bel:Below w.heap.size w W
theorem zW (w:World) (cs:List Value):UB w ((w.alloc (.cells ⟨cs⟩ 26)).alloc (.cells zV6.toArray 26)) cs:=by
 have h1:=Whole.new w cs 26
 have h2:=ze w (.cells ⟨cs⟩ 26)
 have hs:(w.alloc (.cells ⟨cs⟩ 26)).heap.size= w.heap.size+1:=by simp
 generalize w.alloc (.cells ⟨cs⟩ 26)= W1 at*
 have h3:=Whole.new W1 zV6 26
 have h4:=ze W1 (.cells zV6.toArray 26)
 rw[hs] at h3
 exact⟨h1.keep (h4.block _ (by omega)),h3,h2.trans (h4.mono (by omega))⟩
section
variable (P:Nat->Prop) (k:Int) (s:ByteArray) (px o:Nat) (kv n:Int) (f:Nat) (sv:ByteArray) (ns:List ByteArray) (its:List VT) (cs:List Value) (w:World)
theorem zdG (h1:(kv ==1)= false) (hx0:w.cell? ⟨px,o,none⟩= some (.int .i64 4)) (hx1:w.cell? ⟨px,o+1,none⟩= some (.string s)) (hpx:px < w.heap.size) (hv:Kept P w cs (.mk kv n f sv ns its)) (hr:zj (.mk kv n f sv ns its)= true) (htb:TabP w) {r:Res} (hres:r= .error 6):
  Calls Tryz.prog 68 #[.pointer (some ⟨px,o,none⟩),.agg ⟨cs⟩] w (UnPost P r w):=by
 have HV:=I hv
 have HVW:=I hv.val
 have HTB:=I htb
 have HRT:=I hr
 obtain⟨vn,vi,rfl,hkw,hnw,hfw,hsw,hns,hil,hi⟩:=ValAt.inv hv
 obtain⟨hnl,NA,nc,rfl,hnA⟩:=hns
 obtain⟨hil2,A,c,rfl,hA⟩:=hi
 have HNA:=I hnA
 have HIA:=I hA
 have HWF:=I (And.intro hnw (And.intro hfw hsw))
 have HLN:=I (And.intro hnl hil2)
 have HRES:=I hres
 have HX0:=I hx0
 have HX1:=I hx1
 have HPX:=I hpx
 clear hv hr htb hkw hnw hfw hsw hil hil2 hnl hnA hA hres hx0 hx1 hpx
 go_enter Tryz.func68,Tryz.ntmps68
 go_upto_region 1 with (fail)
 have HST:=I (zW w [.int .i64 kv,.int .i64 n,.float .f64 f,.string sv,.slice NA ns.length nc,.slice A its.length c])
 rw[zv]
 generalize (w.alloc (.cells ⟨[.int .i64 kv,.int .i64 n,.float .f64 f,.string sv,.slice NA ns.length nc,.slice A its.length c]⟩ 26)).alloc (.cells zV6.toArray 26)= W at*
 have x0:W.cell? ⟨px,o,none⟩= some (.int .i64 4):=(HST.out.bel.cell (p:=⟨px,o,none⟩) HPX.out).trans HX0.out
 have d0:W.cell? ⟨w.heap.size,0,none⟩= some (.int .i64 kv):=HST.out.wa.cells 0 rfl
 go_wp2_with ((go_at_call 36;refine(zB 6 _).mono ?_;rintro e z ⟨rfl,hzw⟩;rw[hzw];clear hzw z))
 exact⟨rfl,.no HRES.out rfl HST.out.bel⟩
theorem zdZ (hx0:w.cell? ⟨px,o,none⟩= some (.int .i64 4)) (hx1:w.cell? ⟨px,o+1,none⟩= some (.string s)) (hpx:px < w.heap.size) (hv:Kept P w cs (.mk 1 n f sv ns its)) (hr:zj (.mk 1 n f sv ns its)= true) (htb:TabP w) {r:Res} (hres:r= .ok (vB (n ==0))):
  Calls Tryz.prog 68 #[.pointer (some ⟨px,o,none⟩),.agg ⟨cs⟩] w (UnPost P r w):=by
 have HV:=I hv
 have HVW:=I hv.val
 have HTB:=I htb
 have HRT:=I hr
 obtain⟨vn,vi,rfl,hkw,hnw,hfw,hsw,hns,hil,hi⟩:=ValAt.inv hv
 obtain⟨hnl,NA,nc,rfl,hnA⟩:=hns
 obtain⟨hil2,A,c,rfl,hA⟩:=hi
 have HNA:=I hnA
 have HIA:=I hA
 have HWF:=I (And.intro hnw (And.intro hfw hsw))
 have HLN:=I (And.intro hnl hil2)
 have HRES:=I hres
 have HX0:=I hx0
 have HX1:=I hx1
 have HPX:=I hpx
 clear hv hr htb hkw hnw hfw hsw hil hil2 hnl hnA hA hres hx0 hx1 hpx
 go_enter Tryz.func68,Tryz.ntmps68
 go_upto_region 1 with (fail)
 have HST:=I (zW w [.int .i64 1,.int .i64 n,.float .f64 f,.string sv,.slice NA ns.length nc,.slice A its.length c])
 rw[zv]
 generalize (w.alloc (.cells ⟨[.int .i64 1,.int .i64 n,.float .f64 f,.string sv,.slice NA ns.length nc,.slice A its.length c]⟩ 26)).alloc (.cells zV6.toArray 26)= W at*
 have x0:W.cell? ⟨px,o,none⟩= some (.int .i64 4):=(HST.out.bel.cell (p:=⟨px,o,none⟩) HPX.out).trans HX0.out
 have d0:W.cell? ⟨w.heap.size,0,none⟩= some (.int .i64 1):=HST.out.wa.cells 0 rfl
 have d1:W.cell? ⟨w.heap.size,1,none⟩= some (.int .i64 n):=HST.out.wa.cells 1 rfl
 obtain⟨b,hb⟩:∃ b,(n ==0)= b:=⟨_,rfl⟩
 rw[hb] at HRES
 go_wp2_with (first|(go_at_call 36;refine(zp 6 _).mono ?_;rintro e z ⟨rfl,hzw⟩;rw[hzw];clear hzw z)|(go_at_call 65;refine(z0Y b _).mono ?_;rintro e z ⟨rfl,hb⟩;have HBZ:=I hb;have HRZ:=I (HST.out.wb.keep (hb.block _ (HST.out.wb.lt)));clear hb)|((with_reducible refine zh 26 _ _ rfl rfl ?hw (w.heap.size+1) zV6 (tC b) HRZ.out ?h5 ?h6 ?h7 ?h8 ?h9 ?_);(case hw=>(exact wantA rfl));(case h5=>rfl);(case h6=>rfl);(case h7=>rfl);(case h8=>kernel_rfl);(case h9=>exact z1N b);intro Z2 hz hb;have HX:=I hz;have HXB:=I hb;clear hz hb))
 (try simp only[Exit.inBlock,Exit.then])
 refine bodyPost_ret (zl rfl Tryz.underlying26 rfl _ _ (w.heap.size+1) (tC b) (by kernel_rfl) rfl HX.out.range) rfl ?_
 have hbel:=(HST.out.bel.trans (HBZ.out.mono HST.out.bel.size)).trans (HXB.out.below (B:=w.heap.size) (Nat.le_trans HST.out.bel.size HBZ.out.size) (by omega) (by omega))
 exact .ok HRES.out rfl (z1f _ _ b) hbel
theorem zdX (h1:(kv ==2)= false) (hx0:w.cell? ⟨px,o,none⟩= some (.int .i64 21)) (hx1:w.cell? ⟨px,o+1,none⟩= some (.string s)) (hpx:px < w.heap.size) (hv:Kept P w cs (.mk kv n f sv ns its)) (hr:zj (.mk kv n f sv ns its)= true) (htb:TabP w) {r:Res} (hres:r= .error 6):
  Calls Tryz.prog 68 #[.pointer (some ⟨px,o,none⟩),.agg ⟨cs⟩] w (UnPost P r w):=by
 have HV:=I hv
 have HVW:=I hv.val
 have HTB:=I htb
 have HRT:=I hr
 obtain⟨vn,vi,rfl,hkw,hnw,hfw,hsw,hns,hil,hi⟩:=ValAt.inv hv
 obtain⟨hnl,NA,nc,rfl,hnA⟩:=hns
 obtain⟨hil2,A,c,rfl,hA⟩:=hi
 have HNA:=I hnA
 have HIA:=I hA
 have HWF:=I (And.intro hnw (And.intro hfw hsw))
 have HLN:=I (And.intro hnl hil2)
 have HRES:=I hres
 have HX0:=I hx0
 have HX1:=I hx1
 have HPX:=I hpx
 clear hv hr htb hkw hnw hfw hsw hil hil2 hnl hnA hA hres hx0 hx1 hpx
 go_enter Tryz.func68,Tryz.ntmps68
 go_upto_region 1 with (fail)
 have HST:=I (zW w [.int .i64 kv,.int .i64 n,.float .f64 f,.string sv,.slice NA ns.length nc,.slice A its.length c])
 rw[zv]
 generalize (w.alloc (.cells ⟨[.int .i64 kv,.int .i64 n,.float .f64 f,.string sv,.slice NA ns.length nc,.slice A its.length c]⟩ 26)).alloc (.cells zV6.toArray 26)= W at*
 have x0:W.cell? ⟨px,o,none⟩= some (.int .i64 21):=(HST.out.bel.cell (p:=⟨px,o,none⟩) HPX.out).trans HX0.out
 have d0:W.cell? ⟨w.heap.size,0,none⟩= some (.int .i64 kv):=HST.out.wa.cells 0 rfl
 go_wp2_with ((go_at_call 36;refine(zB 6 _).mono ?_;rintro e z ⟨rfl,hzw⟩;rw[hzw];clear hzw z))
 exact⟨rfl,.no HRES.out rfl HST.out.bel⟩
theorem zeB (hx0:w.cell? ⟨px,o,none⟩= some (.int .i64 21)) (hx1:w.cell? ⟨px,o+1,none⟩= some (.string s)) (hpx:px < w.heap.size) (hv:Kept P w cs (.mk 2 n f sv ns its)) (hr:zj (.mk 2 n f sv ns its)= true) (htb:TabP w) {r:Res} (hres:r= .ok (vF (zm (floatOfInt .f64 n)))):
  Calls Tryz.prog 68 #[.pointer (some ⟨px,o,none⟩),.agg ⟨cs⟩] w (UnPost P r w):=by
 have HV:=I hv
 have HVW:=I hv.val
 have HTB:=I htb
 have HRT:=I hr
 obtain⟨vn,vi,rfl,hkw,hnw,hfw,hsw,hns,hil,hi⟩:=ValAt.inv hv
 obtain⟨hnl,NA,nc,rfl,hnA⟩:=hns
 obtain⟨hil2,A,c,rfl,hA⟩:=hi
 have HNA:=I hnA
 have HIA:=I hA
 have HWF:=I (And.intro hnw (And.intro hfw hsw))
 have HLN:=I (And.intro hnl hil2)
 have HRES:=I hres
 have HX0:=I hx0
 have HX1:=I hx1
 have HPX:=I hpx
 clear hv hr htb hkw hnw hfw hsw hil hil2 hnl hnA hA hres hx0 hx1 hpx
 go_enter Tryz.func68,Tryz.ntmps68
 go_upto_region 1 with (fail)
 have HST:=I (zW w [.int .i64 2,.int .i64 n,.float .f64 f,.string sv,.slice NA ns.length nc,.slice A its.length c])
 rw[zv]
 generalize (w.alloc (.cells ⟨[.int .i64 2,.int .i64 n,.float .f64 f,.string sv,.slice NA ns.length nc,.slice A its.length c]⟩ 26)).alloc (.cells zV6.toArray 26)= W at*
 have x0:W.cell? ⟨px,o,none⟩= some (.int .i64 21):=(HST.out.bel.cell (p:=⟨px,o,none⟩) HPX.out).trans HX0.out
 have d0:W.cell? ⟨w.heap.size,0,none⟩= some (.int .i64 2):=HST.out.wa.cells 0 rfl
 have d1:W.cell? ⟨w.heap.size,1,none⟩= some (.int .i64 n):=HST.out.wa.cells 1 rfl
 go_wp2_with (first|(go_at_call 36;refine(zp 6 _).mono ?_;rintro e z ⟨rfl,hzw⟩;rw[hzw];clear hzw z)|(go_at_call 114;refine(z78 n _).mono ?_;rintro e z ⟨rfl,hzw⟩;rw[hzw];clear hzw z)|(go_at_call 113;refine(z7s (floatOfInt .f64 n) _).mono ?_;rintro e z ⟨rfl,hb⟩;have HBZ:=I hb;have HRZ:=I (HST.out.wb.keep (hb.block _ (HST.out.wb.lt)));clear hb)|((with_reducible refine zh 26 _ _ rfl rfl ?hw (w.heap.size+1) zV6 (valC 3 0 (zm (floatOfInt .f64 n)) ⟨#[]⟩) HRZ.out ?h5 ?h6 ?h7 ?h8 ?h9 ?_);(case hw=>(exact wantA rfl));(case h5=>rfl);(case h6=>rfl);(case h7=>rfl);(case h8=>kernel_rfl);(case h9=>exact z02 _ _ _ _);intro Z2 hz hb;have HX:=I hz;have HXB:=I hb;clear hz hb))
 (try simp only[Exit.inBlock,Exit.then])
 refine bodyPost_ret (zl rfl Tryz.underlying26 rfl _ _ (w.heap.size+1) (valC 3 0 (zm (floatOfInt .f64 n)) ⟨#[]⟩) (by kernel_rfl) rfl HX.out.range) rfl ?_
 have hbel:=(HST.out.bel.trans (HBZ.out.mono HST.out.bel.size)).trans (HXB.out.below (B:=w.heap.size) (Nat.le_trans HST.out.bel.size HBZ.out.size) (by omega) (by omega))
 exact .ok HRES.out rfl (z62 _ _ _ (z3f (floatOfInt_wf .f64 n))) hbel
theorem zdT (h1:(kv ==3)= false) (hx0:w.cell? ⟨px,o,none⟩= some (.int .i64 22)) (hx1:w.cell? ⟨px,o+1,none⟩= some (.string s)) (hpx:px < w.heap.size) (hv:Kept P w cs (.mk kv n f sv ns its)) (hr:zj (.mk kv n f sv ns its)= true) (htb:TabP w) {r:Res} (hres:r= .error 6):
  Calls Tryz.prog 68 #[.pointer (some ⟨px,o,none⟩),.agg ⟨cs⟩] w (UnPost P r w):=by
 have HV:=I hv
 have HVW:=I hv.val
 have HTB:=I htb
 have HRT:=I hr
 obtain⟨vn,vi,rfl,hkw,hnw,hfw,hsw,hns,hil,hi⟩:=ValAt.inv hv
 obtain⟨hnl,NA,nc,rfl,hnA⟩:=hns
 obtain⟨hil2,A,c,rfl,hA⟩:=hi
 have HNA:=I hnA
 have HIA:=I hA
 have HWF:=I (And.intro hnw (And.intro hfw hsw))
 have HLN:=I (And.intro hnl hil2)
 have HRES:=I hres
 have HX0:=I hx0
 have HX1:=I hx1
 have HPX:=I hpx
 clear hv hr htb hkw hnw hfw hsw hil hil2 hnl hnA hA hres hx0 hx1 hpx
 go_enter Tryz.func68,Tryz.ntmps68
 go_upto_region 1 with (fail)
 have HST:=I (zW w [.int .i64 kv,.int .i64 n,.float .f64 f,.string sv,.slice NA ns.length nc,.slice A its.length c])
 rw[zv]
 generalize (w.alloc (.cells ⟨[.int .i64 kv,.int .i64 n,.float .f64 f,.string sv,.slice NA ns.length nc,.slice A its.length c]⟩ 26)).alloc (.cells zV6.toArray 26)= W at*
 have x0:W.cell? ⟨px,o,none⟩= some (.int .i64 22):=(HST.out.bel.cell (p:=⟨px,o,none⟩) HPX.out).trans HX0.out
 have d0:W.cell? ⟨w.heap.size,0,none⟩= some (.int .i64 kv):=HST.out.wa.cells 0 rfl
 go_wp2_with ((go_at_call 36;refine(zB 6 _).mono ?_;rintro e z ⟨rfl,hzw⟩;rw[hzw];clear hzw z))
 exact⟨rfl,.no HRES.out rfl HST.out.bel⟩
theorem zeG (hx0:w.cell? ⟨px,o,none⟩= some (.int .i64 22)) (hx1:w.cell? ⟨px,o+1,none⟩= some (.string s)) (hpx:px < w.heap.size) (hv:Kept P w cs (.mk 3 n f sv ns its)) (hr:zj (.mk 3 n f sv ns its)= true) (htb:TabP w) {r:Res} (hres:r= match z18 f with|some m=> .ok (vI m)|none=> .error 3):
  Calls Tryz.prog 68 #[.pointer (some ⟨px,o,none⟩),.agg ⟨cs⟩] w (UnPost P r w):=by
 have HV:=I hv
 have HVW:=I hv.val
 have HTB:=I htb
 have HRT:=I hr
 obtain⟨vn,vi,rfl,hkw,hnw,hfw,hsw,hns,hil,hi⟩:=ValAt.inv hv
 obtain⟨hnl,NA,nc,rfl,hnA⟩:=hns
 obtain⟨hil2,A,c,rfl,hA⟩:=hi
 have HNA:=I hnA
 have HIA:=I hA
 have HWF:=I (And.intro hnw (And.intro hfw hsw))
 have HLN:=I (And.intro hnl hil2)
 have HRES:=I hres
 have HX0:=I hx0
 have HX1:=I hx1
 have HPX:=I hpx
 clear hv hr htb hkw hnw hfw hsw hil hil2 hnl hnA hA hres hx0 hx1 hpx
 go_enter Tryz.func68,Tryz.ntmps68
 go_upto_region 1 with (fail)
 have HST:=I (zW w [.int .i64 3,.int .i64 n,.float .f64 f,.string sv,.slice NA ns.length nc,.slice A its.length c])
 rw[zv]
 generalize (w.alloc (.cells ⟨[.int .i64 3,.int .i64 n,.float .f64 f,.string sv,.slice NA ns.length nc,.slice A its.length c]⟩ 26)).alloc (.cells zV6.toArray 26)= W at*
 have x0:W.cell? ⟨px,o,none⟩= some (.int .i64 22):=(HST.out.bel.cell (p:=⟨px,o,none⟩) HPX.out).trans HX0.out
 have d0:W.cell? ⟨w.heap.size,0,none⟩= some (.int .i64 3):=HST.out.wa.cells 0 rfl
 have d2:W.cell? ⟨w.heap.size,2,none⟩= some (.float .f64 f):=HST.out.wa.cells 2 rfl
 go_wp2_with (first|(go_at_call 36;refine(zp 6 _).mono ?_;rintro e z ⟨rfl,hzw⟩;rw[hzw];clear hzw z)|(go_at_call 115;fail))
 refine(zbF f _).mono ?_
 rintro e z ⟨⟨m,hm,rfl⟩|⟨hm,rfl⟩,hb⟩
 ·rw[hm] at HRES
  have HBT:=I hb
  have HRT2:=I (HST.out.wb.keep (hb.block _ HST.out.wb.lt))
  have HWM:Hid (wfI m):=I (by
   unfold z18 at hm
   split at hm
   ·cases hm
   ·split at hm
    ·exact floatToIntVal_wf hm
    ·cases hm)
  clear hb hm
  go_wp2_with (first|(go_at_call 36;refine(zp 0 _).mono ?_;rintro e z ⟨rfl,hzw⟩;rw[hzw];clear hzw z)|(go_at_call 116;refine(z1i m _).mono ?_;rintro e z ⟨rfl,hb⟩;have HBZ:=I hb;have HRZ:=I (HRT2.out.keep (hb.block _ (HRT2.out.lt)));clear hb)|((with_reducible refine zh 26 _ _ rfl rfl ?hw (w.heap.size+1) zV6 (valC 2 m 0 ⟨#[]⟩) HRZ.out ?h5 ?h6 ?h7 ?h8 ?h9 ?_);(case hw=>(exact wantA rfl));(case h5=>rfl);(case h6=>rfl);(case h7=>rfl);(case h8=>kernel_rfl);(case h9=>exact z02 _ _ _ _);intro Z2 hz hb;have HX:=I hz;have HXB:=I hb;clear hz hb))
  (try simp only[Exit.inBlock,Exit.then])
  refine bodyPost_ret (zl rfl Tryz.underlying26 rfl _ _ (w.heap.size+1) (valC 2 m 0 ⟨#[]⟩) (by kernel_rfl) rfl HX.out.range) rfl ?_
  have hbel:=(HST.out.bel.trans ((HBT.out.trans (HBZ.out.mono HBT.out.size)).mono HST.out.bel.size)).trans (HXB.out.below (B:=w.heap.size) (Nat.le_trans HST.out.bel.size (HBT.out.trans (HBZ.out.mono HBT.out.size)).size) (by omega) (by omega))
  exact .ok HRES.out rfl (z2h _ _ m HWM.out) hbel
 ·rw[hm] at HRES
  have HBT:=I hb
  clear hb hm
  go_wp2_with ((go_at_call 36;refine(zB 3 _).mono ?_;rintro e z ⟨rfl,hzw⟩;rw[hzw];clear hzw z))
  exact⟨rfl,.no HRES.out rfl (HST.out.bel.trans (HBT.out.mono HST.out.bel.size))⟩
theorem zdx (h1:(decide (1<=kv) && decide (kv<=4))= false) (hx0:w.cell? ⟨px,o,none⟩= some (.int .i64 23)) (hx1:w.cell? ⟨px,o+1,none⟩= some (.string s)) (hpx:px < w.heap.size) (hv:Kept P w cs (.mk kv n f sv ns its)) (hr:zj (.mk kv n f sv ns its)= true) (htb:TabP w) {r:Res} (hres:r= .error 6):
  Calls Tryz.prog 68 #[.pointer (some ⟨px,o,none⟩),.agg ⟨cs⟩] w (UnPost P r w):=by
 have HV:=I hv
 have HVW:=I hv.val
 have HTB:=I htb
 have HRT:=I hr
 obtain⟨vn,vi,rfl,hkw,hnw,hfw,hsw,hns,hil,hi⟩:=ValAt.inv hv
 obtain⟨hnl,NA,nc,rfl,hnA⟩:=hns
 obtain⟨hil2,A,c,rfl,hA⟩:=hi
 have HNA:=I hnA
 have HIA:=I hA
 have HWF:=I (And.intro hnw (And.intro hfw hsw))
 have HLN:=I (And.intro hnl hil2)
 have HRES:=I hres
 have HX0:=I hx0
 have HX1:=I hx1
 have HPX:=I hpx
 clear hv hr htb hkw hnw hfw hsw hil hil2 hnl hnA hA hres hx0 hx1 hpx
 go_enter Tryz.func68,Tryz.ntmps68
 go_upto_region 1 with (fail)
 have HST:=I (zW w [.int .i64 kv,.int .i64 n,.float .f64 f,.string sv,.slice NA ns.length nc,.slice A its.length c])
 rw[zv]
 generalize (w.alloc (.cells ⟨[.int .i64 kv,.int .i64 n,.float .f64 f,.string sv,.slice NA ns.length nc,.slice A its.length c]⟩ 26)).alloc (.cells zV6.toArray 26)= W at*
 have x0:W.cell? ⟨px,o,none⟩= some (.int .i64 23):=(HST.out.bel.cell (p:=⟨px,o,none⟩) HPX.out).trans HX0.out
 have d0:W.cell? ⟨w.heap.size,0,none⟩= some (.int .i64 kv):=HST.out.wa.cells 0 rfl
 by_cases h2:1<=kv
 ·have h3: ¬ kv<=4:=by simpa [h2] using h1
  go_wp2_with ((go_at_call 36;refine(zB 6 _).mono ?_;rintro e z ⟨rfl,hzw⟩;rw[hzw];clear hzw z))
  exact⟨rfl,.no HRES.out rfl HST.out.bel⟩
 ·go_wp2_with ((go_at_call 36;refine(zB 6 _).mono ?_;rintro e z ⟨rfl,hzw⟩;rw[hzw];clear hzw z))
  exact⟨rfl,.no HRES.out rfl HST.out.bel⟩
theorem zdK (hx0:w.cell? ⟨px,o,none⟩= some (.int .i64 23)) (hx1:w.cell? ⟨px,o+1,none⟩= some (.string s)) (hpx:px < w.heap.size) (hv:Kept P w cs (.mk 4 n f sv ns its)) (hr:zj (.mk 4 n f sv ns its)= true) (htb:TabP w) {r:Res} (hres:r= .ok (.mk 4 n f sv ns its)):
  Calls Tryz.prog 68 #[.pointer (some ⟨px,o,none⟩),.agg ⟨cs⟩] w (UnPost P r w):=by
 have HV:=I hv
 have HVW:=I hv.val
 have HTB:=I htb
 have HRT:=I hr
 obtain⟨vn,vi,rfl,hkw,hnw,hfw,hsw,hns,hil,hi⟩:=ValAt.inv hv
 obtain⟨hnl,NA,nc,rfl,hnA⟩:=hns
 obtain⟨hil2,A,c,rfl,hA⟩:=hi
 have HNA:=I hnA
 have HIA:=I hA
 have HWF:=I (And.intro hnw (And.intro hfw hsw))
 have HLN:=I (And.intro hnl hil2)
 have HRES:=I hres
 have HX0:=I hx0
 have HX1:=I hx1
 have HPX:=I hpx
 clear hv hr htb hkw hnw hfw hsw hil hil2 hnl hnA hA hres hx0 hx1 hpx
 go_enter Tryz.func68,Tryz.ntmps68
 go_upto_region 1 with (fail)
 have HST:=I (zW w [.int .i64 4,.int .i64 n,.float .f64 f,.string sv,.slice NA ns.length nc,.slice A its.length c])
 rw[zv]
 generalize (w.alloc (.cells ⟨[.int .i64 4,.int .i64 n,.float .f64 f,.string sv,.slice NA ns.length nc,.slice A its.length c]⟩ 26)).alloc (.cells zV6.toArray 26)= W at*
 have x0:W.cell? ⟨px,o,none⟩= some (.int .i64 23):=(HST.out.bel.cell (p:=⟨px,o,none⟩) HPX.out).trans HX0.out
 have d0:W.cell? ⟨w.heap.size,0,none⟩= some (.int .i64 4):=HST.out.wa.cells 0 rfl
 have HRW:=I HST.out.wb
 have HONE:=I (zi HVW.out).2
 go_wp2_with (first|(go_at_call 36;refine(zp 6 _).mono ?_;rintro e z ⟨rfl,hzw⟩;rw[hzw];clear hzw z)|((with_reducible refine zc 26 _ rfl ?hwl w.heap.size 0 [.int .i64 4,.int .i64 n,.float .f64 f,.string sv,.slice NA ns.length nc,.slice A its.length c] _ rfl HST.out.wa.range Tryz.underlying26 rfl ?hil ?_);(case hwl=>(exact wantA rfl));(case hil=>kernel_rfl))|((with_reducible refine zh 26 _ _ rfl rfl ?hw (w.heap.size+1) zV6 ([.int .i64 4,.int .i64 n,.float .f64 f,.string sv,.slice NA ns.length nc,.slice A its.length c]) HRW.out ?h5 ?h6 ?h7 ?h8 ?h9 ?_);(case hw=>(exact wantA rfl));(case h5=>rfl);(case h6=>rfl);(case h7=>rfl);(case h8=>kernel_rfl);(case h9=>exact HONE.out);intro Z2 hz hb;have HX:=I hz;have HXB:=I hb;clear hz hb))
 (try simp only[Exit.inBlock,Exit.then])
 refine bodyPost_ret (zl rfl Tryz.underlying26 rfl _ _ (w.heap.size+1) ([.int .i64 4,.int .i64 n,.float .f64 f,.string sv,.slice NA ns.length nc,.slice A its.length c]) (by kernel_rfl) rfl HX.out.range) rfl ?_
 have hbel:=HST.out.bel.trans (HXB.out.below (B:=w.heap.size) HST.out.bel.size (by omega) (by omega))
 exact .ok HRES.out rfl (HV.out.grow hbel) hbel
theorem zdv (h1:(decide (1<=kv) && decide (kv<=4))= true) (h4:(kv !=4)= true) (h4': ¬ kv= 4) (hx0:w.cell? ⟨px,o,none⟩= some (.int .i64 23)) (hx1:w.cell? ⟨px,o+1,none⟩= some (.string s)) (hpx:px < w.heap.size) (hv:Kept P w cs (.mk kv n f sv ns its)) (hr:zj (.mk kv n f sv ns its)= true) (htb:TabP w) {r:Res} (hres:r= .ok (vS ⟨(textV (.mk kv n f sv ns its)).toArray⟩)):
  Calls Tryz.prog 68 #[.pointer (some ⟨px,o,none⟩),.agg ⟨cs⟩] w (UnPost P r w):=by
 have HV:=I hv
 have HVW:=I hv.val
 have HTB:=I htb
 have HRT:=I hr
 obtain⟨vn,vi,rfl,hkw,hnw,hfw,hsw,hns,hil,hi⟩:=ValAt.inv hv
 obtain⟨hnl,NA,nc,rfl,hnA⟩:=hns
 obtain⟨hil2,A,c,rfl,hA⟩:=hi
 have HNA:=I hnA
 have HIA:=I hA
 have HWF:=I (And.intro hnw (And.intro hfw hsw))
 have HLN:=I (And.intro hnl hil2)
 have HRES:=I hres
 have HX0:=I hx0
 have HX1:=I hx1
 have HPX:=I hpx
 clear hv hr htb hkw hnw hfw hsw hil hil2 hnl hnA hA hres hx0 hx1 hpx
 go_enter Tryz.func68,Tryz.ntmps68
 go_upto_region 1 with (fail)
 have HST:=I (zW w [.int .i64 kv,.int .i64 n,.float .f64 f,.string sv,.slice NA ns.length nc,.slice A its.length c])
 rw[zv]
 generalize (w.alloc (.cells ⟨[.int .i64 kv,.int .i64 n,.float .f64 f,.string sv,.slice NA ns.length nc,.slice A its.length c]⟩ 26)).alloc (.cells zV6.toArray 26)= W at*
 have x0:W.cell? ⟨px,o,none⟩= some (.int .i64 23):=(HST.out.bel.cell (p:=⟨px,o,none⟩) HPX.out).trans HX0.out
 have d0:W.cell? ⟨w.heap.size,0,none⟩= some (.int .i64 kv):=HST.out.wa.cells 0 rfl
 have hrt:z5i (.mk kv n f sv ns its)= true:=HRT.out
 have HVA:=I ((HVW.out.under HST.out.bel).more HST.out.bel.size)
 have HTX:=I (zcB (.mk kv n f sv ns its) _ W (HTB.out.next HST.out.bel) HVA.out)
 rw[hrt,if_pos rfl] at HTX
 have HTL:Hid ((⟨(textV (.mk kv n f sv ns its)).toArray⟩:ByteArray).size<=maxLen):=I (by
  have h5:kv= 1\/kv= 2\/kv= 3:=by simp only[Bool.and_eq_true,decide_eq_true_eq] at h1;omega
  have hw:=HWF.out.1
  unfold wfI Lit.wf at hw
  simp only[Bool.and_eq_true,decide_eq_true_eq] at hw
  have:=z5w (k:=kv) (n:=n) (f:=f) (s:=sv) (ns:=ns) (its:=its) hw h5
  show(textV _).toArray.size<=maxLen
  rw[List.size_toArray];unfold maxLen;omega)
 obtain⟨h2,h3⟩:1<=kv/\kv<=4:=by simpa using h1
 obtain⟨tx,htx⟩:∃ tx:ByteArray,(⟨(textV (.mk kv n f sv ns its)).toArray⟩:ByteArray)= tx:=⟨_,rfl⟩
 rw[htx] at HTX HTL HRES
 clear hrt htx h1
 go_upto_region 22 with (first|(go_at_call 36;refine(zp 6 _).mono ?_;rintro e z ⟨rfl,hzw⟩;rw[hzw];clear hzw z)|((with_reducible refine zc 26 _ rfl ?hwl w.heap.size 0 [.int .i64 kv,.int .i64 n,.float .f64 f,.string sv,.slice NA ns.length nc,.slice A its.length c] _ rfl HST.out.wa.range Tryz.underlying26 rfl ?hil ?_);(case hwl=>(exact wantA rfl));(case hil=>kernel_rfl))|(go_at_call 117;refine HTX.out.mono ?_;rintro e z ⟨rfl,hb⟩;have HBT:=I hb;have HRT2:=I (HST.out.wb.keep (hb.block _ HST.out.wb.lt));clear hb))
 go_wp2_with (first|(go_at_call 118;refine(zca tx _).mono ?_;rintro e z ⟨rfl,hb⟩;have HBZ:=I hb;have HRZ:=I (HRT2.out.keep (hb.block _ (HRT2.out.lt)));clear hb)|((with_reducible refine zh 26 _ _ rfl rfl ?hw (w.heap.size+1) zV6 (valC 4 0 0 tx) HRZ.out ?h5 ?h6 ?h7 ?h8 ?h9 ?_);(case hw=>(exact wantA rfl));(case h5=>rfl);(case h6=>rfl);(case h7=>rfl);(case h8=>kernel_rfl);(case h9=>exact z02 _ _ _ _);intro Z2 hz hb;have HX:=I hz;have HXB:=I hb;clear hz hb))
 (try simp only[Exit.inBlock,Exit.then])
 refine bodyPost_ret (zl rfl Tryz.underlying26 rfl _ _ (w.heap.size+1) (valC 4 0 0 tx) (by kernel_rfl) rfl HX.out.range) rfl ?_
 have hbel:=(HST.out.bel.trans ((HBT.out.trans (HBZ.out.mono HBT.out.size)).mono HST.out.bel.size)).trans (HXB.out.below (B:=w.heap.size) (Nat.le_trans HST.out.bel.size (HBT.out.trans (HBZ.out.mono HBT.out.size)).size) (by omega) (by omega))
 exact .ok HRES.out rfl (zdq _ _ tx HTL.out) hbel
theorem zd3 (hx0:w.cell? ⟨px,o,none⟩= some (.int .i64 20)) (hx1:w.cell? ⟨px,o+1,none⟩= some (.string s)) (hpx:px < w.heap.size) (hv:Kept P w cs (.mk 5 n f sv ns its)) (hr:zj (.mk 5 n f sv ns its)= true) (htb:TabP w) {r:Res} (hres:r= .ok (vI ((its.length:Int)+sv.size))):
  Calls Tryz.prog 68 #[.pointer (some ⟨px,o,none⟩),.agg ⟨cs⟩] w (UnPost P r w):=by
 have HV:=I hv
 have HVW:=I hv.val
 have HTB:=I htb
 have HRT:=I hr
 obtain⟨vn,vi,rfl,hkw,hnw,hfw,hsw,hns,hil,hi⟩:=ValAt.inv hv
 obtain⟨hnl,NA,nc,rfl,hnA⟩:=hns
 obtain⟨hil2,A,c,rfl,hA⟩:=hi
 have HNA:=I hnA
 have HIA:=I hA
 have HWF:=I (And.intro hnw (And.intro hfw hsw))
 have HLN:=I (And.intro hnl hil2)
 have HIL:=I hil
 have HRES:=I hres
 have HX0:=I hx0
 have HX1:=I hx1
 have HPX:=I hpx
 clear hv hr htb hkw hnw hfw hsw hil hil2 hnl hnA hA hres hx0 hx1 hpx
 go_enter Tryz.func68,Tryz.ntmps68
 go_upto_region 1 with (fail)
 have HST:=I (zW w [.int .i64 5,.int .i64 n,.float .f64 f,.string sv,.slice NA ns.length nc,.slice A its.length c])
 rw[zv]
 generalize (w.alloc (.cells ⟨[.int .i64 5,.int .i64 n,.float .f64 f,.string sv,.slice NA ns.length nc,.slice A its.length c]⟩ 26)).alloc (.cells zV6.toArray 26)= W at*
 have x0:W.cell? ⟨px,o,none⟩= some (.int .i64 20):=(HST.out.bel.cell (p:=⟨px,o,none⟩) HPX.out).trans HX0.out
 have d0:W.cell? ⟨w.heap.size,0,none⟩= some (.int .i64 5):=HST.out.wa.cells 0 rfl
 have d3:W.cell? ⟨w.heap.size,3,none⟩= some (.string sv):=HST.out.wa.cells 3 rfl
 have d5:W.cell? ⟨w.heap.size,5,none⟩= some (.slice A its.length c):=HST.out.wa.cells 5 rfl
 have HLI:=I HIL.out
 have hlen:(its.length:Int)+ (sv.size:Int)<=9000000000000000000:=by have h1:=(z0d HRT.out).1;have h2:=z0q HRT.out;omega
 have hw1:IntKind.i64.wrap ((its.length:Int)+ (sv.size:Int))=(its.length:Int)+ (sv.size:Int):=by rw[IntKind.wrap_i64];omega
 have hw2:wrap64 ((its.length:Int)+ (sv.size:Int))=(its.length:Int)+ (sv.size:Int):=by unfold wrap64;omega
 have HWM:Hid (wfI ((its.length:Int)+ (sv.size:Int))):=I (z0f (by omega))
 obtain⟨m,hm⟩:∃ m,(its.length:Int)+ (sv.size:Int)= m:=⟨_,rfl⟩
 rw[hm] at HWM HRES hw1 hw2
 clear hlen
 go_wp2_with (first|(go_at_call 36;refine(zp 6 _).mono ?_;rintro e z ⟨rfl,hzw⟩;rw[hzw];clear hzw z)|(rw[hm];(go_at_call 116;refine(z1i m _).mono ?_;rintro e z ⟨rfl,hb⟩;have HBZ:=I hb;have HRZ:=I (HST.out.wb.keep (hb.block _ (HST.out.wb.lt)));clear hb))|(go_at_call 116;refine(z1i m _).mono ?_;rintro e z ⟨rfl,hb⟩;have HBZ:=I hb;have HRZ:=I (HST.out.wb.keep (hb.block _ (HST.out.wb.lt)));clear hb)|((with_reducible refine zh 26 _ _ rfl rfl ?hw (w.heap.size+1) zV6 (valC 2 m 0 ⟨#[]⟩) HRZ.out ?h5 ?h6 ?h7 ?h8 ?h9 ?_);(case hw=>(exact wantA rfl));(case h5=>rfl);(case h6=>rfl);(case h7=>rfl);(case h8=>kernel_rfl);(case h9=>exact z02 _ _ _ _);intro Z2 hz hb;have HX:=I hz;have HXB:=I hb;clear hz hb))
 (try simp only[Exit.inBlock,Exit.then])
 refine bodyPost_ret (zl rfl Tryz.underlying26 rfl _ _ (w.heap.size+1) (valC 2 m 0 ⟨#[]⟩) (by kernel_rfl) rfl HX.out.range) rfl ?_
 have hbel:=(HST.out.bel.trans (HBZ.out.mono HST.out.bel.size)).trans (HXB.out.below (B:=w.heap.size) (Nat.le_trans HST.out.bel.size HBZ.out.size) (by omega) (by omega))
 exact .ok HRES.out rfl (z2h _ _ m HWM.out) hbel
theorem zdd (hx0:w.cell? ⟨px,o,none⟩= some (.int .i64 20)) (hx1:w.cell? ⟨px,o+1,none⟩= some (.string s)) (hpx:px < w.heap.size) (hv:Kept P w cs (.mk 4 n f sv ns its)) (hr:zj (.mk 4 n f sv ns its)= true) (htb:TabP w) {r:Res} (hres:r= .ok (vI ((its.length:Int)+sv.size))):
  Calls Tryz.prog 68 #[.pointer (some ⟨px,o,none⟩),.agg ⟨cs⟩] w (UnPost P r w):=by
 have HV:=I hv
 have HVW:=I hv.val
 have HTB:=I htb
 have HRT:=I hr
 obtain⟨vn,vi,rfl,hkw,hnw,hfw,hsw,hns,hil,hi⟩:=ValAt.inv hv
 obtain⟨hnl,NA,nc,rfl,hnA⟩:=hns
 obtain⟨hil2,A,c,rfl,hA⟩:=hi
 have HNA:=I hnA
 have HIA:=I hA
 have HWF:=I (And.intro hnw (And.intro hfw hsw))
 have HLN:=I (And.intro hnl hil2)
 have HIL:=I hil
 have HRES:=I hres
 have HX0:=I hx0
 have HX1:=I hx1
 have HPX:=I hpx
 clear hv hr htb hkw hnw hfw hsw hil hil2 hnl hnA hA hres hx0 hx1 hpx
 go_enter Tryz.func68,Tryz.ntmps68
 go_upto_region 1 with (fail)
 have HST:=I (zW w [.int .i64 4,.int .i64 n,.float .f64 f,.string sv,.slice NA ns.length nc,.slice A its.length c])
 rw[zv]
 generalize (w.alloc (.cells ⟨[.int .i64 4,.int .i64 n,.float .f64 f,.string sv,.slice NA ns.length nc,.slice A its.length c]⟩ 26)).alloc (.cells zV6.toArray 26)= W at*
 have x0:W.cell? ⟨px,o,none⟩= some (.int .i64 20):=(HST.out.bel.cell (p:=⟨px,o,none⟩) HPX.out).trans HX0.out
 have d0:W.cell? ⟨w.heap.size,0,none⟩= some (.int .i64 4):=HST.out.wa.cells 0 rfl
 have d3:W.cell? ⟨w.heap.size,3,none⟩= some (.string sv):=HST.out.wa.cells 3 rfl
 have d5:W.cell? ⟨w.heap.size,5,none⟩= some (.slice A its.length c):=HST.out.wa.cells 5 rfl
 have HLI:=I HIL.out
 have hlen:(its.length:Int)+ (sv.size:Int)<=9000000000000000000:=by have h1:=(z0d HRT.out).1;have h2:=z0q HRT.out;omega
 have hw1:IntKind.i64.wrap ((its.length:Int)+ (sv.size:Int))=(its.length:Int)+ (sv.size:Int):=by rw[IntKind.wrap_i64];omega
 have hw2:wrap64 ((its.length:Int)+ (sv.size:Int))=(its.length:Int)+ (sv.size:Int):=by unfold wrap64;omega
 have HWM:Hid (wfI ((its.length:Int)+ (sv.size:Int))):=I (z0f (by omega))
 obtain⟨m,hm⟩:∃ m,(its.length:Int)+ (sv.size:Int)= m:=⟨_,rfl⟩
 rw[hm] at HWM HRES hw1 hw2
 clear hlen
 go_wp2_with (first|(go_at_call 36;refine(zp 6 _).mono ?_;rintro e z ⟨rfl,hzw⟩;rw[hzw];clear hzw z)|(rw[hm];(go_at_call 116;refine(z1i m _).mono ?_;rintro e z ⟨rfl,hb⟩;have HBZ:=I hb;have HRZ:=I (HST.out.wb.keep (hb.block _ (HST.out.wb.lt)));clear hb))|(go_at_call 116;refine(z1i m _).mono ?_;rintro e z ⟨rfl,hb⟩;have HBZ:=I hb;have HRZ:=I (HST.out.wb.keep (hb.block _ (HST.out.wb.lt)));clear hb)|((with_reducible refine zh 26 _ _ rfl rfl ?hw (w.heap.size+1) zV6 (valC 2 m 0 ⟨#[]⟩) HRZ.out ?h5 ?h6 ?h7 ?h8 ?h9 ?_);(case hw=>(exact wantA rfl));(case h5=>rfl);(case h6=>rfl);(case h7=>rfl);(case h8=>kernel_rfl);(case h9=>exact z02 _ _ _ _);intro Z2 hz hb;have HX:=I hz;have HXB:=I hb;clear hz hb))
 (try simp only[Exit.inBlock,Exit.then])
 refine bodyPost_ret (zl rfl Tryz.underlying26 rfl _ _ (w.heap.size+1) (valC 2 m 0 ⟨#[]⟩) (by kernel_rfl) rfl HX.out.range) rfl ?_
 have hbel:=(HST.out.bel.trans (HBZ.out.mono HST.out.bel.size)).trans (HXB.out.below (B:=w.heap.size) (Nat.le_trans HST.out.bel.size HBZ.out.size) (by omega) (by omega))
 exact .ok HRES.out rfl (z2h _ _ m HWM.out) hbel
theorem zdM (h1:(kv ==5)= false) (h2:(kv ==4)= false) (hx0:w.cell? ⟨px,o,none⟩= some (.int .i64 20)) (hx1:w.cell? ⟨px,o+1,none⟩= some (.string s)) (hpx:px < w.heap.size) (hv:Kept P w cs (.mk kv n f sv ns its)) (hr:zj (.mk kv n f sv ns its)= true) (htb:TabP w) {r:Res} (hres:r= .error 6):
  Calls Tryz.prog 68 #[.pointer (some ⟨px,o,none⟩),.agg ⟨cs⟩] w (UnPost P r w):=by
 have HV:=I hv
 have HVW:=I hv.val
 have HTB:=I htb
 have HRT:=I hr
 obtain⟨vn,vi,rfl,hkw,hnw,hfw,hsw,hns,hil,hi⟩:=ValAt.inv hv
 obtain⟨hnl,NA,nc,rfl,hnA⟩:=hns
 obtain⟨hil2,A,c,rfl,hA⟩:=hi
 have HNA:=I hnA
 have HIA:=I hA
 have HWF:=I (And.intro hnw (And.intro hfw hsw))
 have HLN:=I (And.intro hnl hil2)
 have HRES:=I hres
 have HX0:=I hx0
 have HX1:=I hx1
 have HPX:=I hpx
 clear hv hr htb hkw hnw hfw hsw hil hil2 hnl hnA hA hres hx0 hx1 hpx
 go_enter Tryz.func68,Tryz.ntmps68
 go_upto_region 1 with (fail)
 have HST:=I (zW w [.int .i64 kv,.int .i64 n,.float .f64 f,.string sv,.slice NA ns.length nc,.slice A its.length c])
 rw[zv]
 generalize (w.alloc (.cells ⟨[.int .i64 kv,.int .i64 n,.float .f64 f,.string sv,.slice NA ns.length nc,.slice A its.length c]⟩ 26)).alloc (.cells zV6.toArray 26)= W at*
 have x0:W.cell? ⟨px,o,none⟩= some (.int .i64 20):=(HST.out.bel.cell (p:=⟨px,o,none⟩) HPX.out).trans HX0.out
 have d0:W.cell? ⟨w.heap.size,0,none⟩= some (.int .i64 kv):=HST.out.wa.cells 0 rfl
 go_wp2_with ((go_at_call 36;refine(zB 6 _).mono ?_;rintro e z ⟨rfl,hzw⟩;rw[hzw];clear hzw z))
 exact⟨rfl,.no HRES.out rfl HST.out.bel⟩
theorem zcV (h1:(kv ==6)= false) (hx0:w.cell? ⟨px,o,none⟩= some (.int .i64 18)) (hx1:w.cell? ⟨px,o+1,none⟩= some (.string s)) (hpx:px < w.heap.size) (hv:Kept P w cs (.mk kv n f sv ns its)) (hr:zj (.mk kv n f sv ns its)= true) (htb:TabP w) {r:Res} (hres:r= .error 6):
  Calls Tryz.prog 68 #[.pointer (some ⟨px,o,none⟩),.agg ⟨cs⟩] w (UnPost P r w):=by
 have HV:=I hv
 have HVW:=I hv.val
 have HTB:=I htb
 have HRT:=I hr
 obtain⟨vn,vi,rfl,hkw,hnw,hfw,hsw,hns,hil,hi⟩:=ValAt.inv hv
 obtain⟨hnl,NA,nc,rfl,hnA⟩:=hns
 obtain⟨hil2,A,c,rfl,hA⟩:=hi
 have HNA:=I hnA
 have HIA:=I hA
 have HWF:=I (And.intro hnw (And.intro hfw hsw))
 have HLN:=I (And.intro hnl hil2)
 have HRES:=I hres
 have HX0:=I hx0
 have HX1:=I hx1
 have HPX:=I hpx
 clear hv hr htb hkw hnw hfw hsw hil hil2 hnl hnA hA hres hx0 hx1 hpx
 go_enter Tryz.func68,Tryz.ntmps68
 go_upto_region 1 with (fail)
 have HST:=I (zW w [.int .i64 kv,.int .i64 n,.float .f64 f,.string sv,.slice NA ns.length nc,.slice A its.length c])
 rw[zv]
 generalize (w.alloc (.cells ⟨[.int .i64 kv,.int .i64 n,.float .f64 f,.string sv,.slice NA ns.length nc,.slice A its.length c]⟩ 26)).alloc (.cells zV6.toArray 26)= W at*
 have x0:W.cell? ⟨px,o,none⟩= some (.int .i64 18):=(HST.out.bel.cell (p:=⟨px,o,none⟩) HPX.out).trans HX0.out
 have d0:W.cell? ⟨w.heap.size,0,none⟩= some (.int .i64 kv):=HST.out.wa.cells 0 rfl
 go_wp2_with ((go_at_call 36;refine(zB 6 _).mono ?_;rintro e z ⟨rfl,hzw⟩;rw[hzw];clear hzw z))
 exact⟨rfl,.no HRES.out rfl HST.out.bel⟩
theorem ze1 (hx0:w.cell? ⟨px,o,none⟩= some (.int .i64 18)) (hx1:w.cell? ⟨px,o+1,none⟩= some (.string s)) (hpx:px < w.heap.size) (hv:Kept P w cs (.mk 6 n f sv ns its)) (hr:zj (.mk 6 n f sv ns its)= true) (htb:TabP w) {r:Res} (hres:r= if Lib.idxOfS ns s= -1 then .error 10 else .ok (its.getD (Lib.idxOfS ns s).toNat v0)):
  Calls Tryz.prog 68 #[.pointer (some ⟨px,o,none⟩),.agg ⟨cs⟩] w (UnPost P r w):=by
 have HV:=I hv
 have HVW:=I hv.val
 have HTB:=I htb
 have HRT:=I hr
 obtain⟨vn,vi,rfl,hkw,hnw,hfw,hsw,hns,hil,hi⟩:=ValAt.inv hv
 obtain⟨hnl,NA,nc,rfl,hnA⟩:=hns
 obtain⟨hil2,A,c,rfl,hA⟩:=hi
 have HNA:=I hnA
 have HIA:=I hA
 have HWF:=I (And.intro hnw (And.intro hfw hsw))
 have HLN:=I (And.intro hnl hil2)
 have HRES:=I hres
 have HX0:=I hx0
 have HX1:=I hx1
 have HPX:=I hpx
 clear hv hr htb hkw hnw hfw hsw hil hil2 hnl hnA hA hres hx0 hx1 hpx
 go_enter Tryz.func68,Tryz.ntmps68
 go_upto_region 1 with (fail)
 have HST:=I (zW w [.int .i64 6,.int .i64 n,.float .f64 f,.string sv,.slice NA ns.length nc,.slice A its.length c])
 rw[zv]
 generalize (w.alloc (.cells ⟨[.int .i64 6,.int .i64 n,.float .f64 f,.string sv,.slice NA ns.length nc,.slice A its.length c]⟩ 26)).alloc (.cells zV6.toArray 26)= W at*
 have x0:W.cell? ⟨px,o,none⟩= some (.int .i64 18):=(HST.out.bel.cell (p:=⟨px,o,none⟩) HPX.out).trans HX0.out
 have d0:W.cell? ⟨w.heap.size,0,none⟩= some (.int .i64 6):=HST.out.wa.cells 0 rfl
 have d4:W.cell? ⟨w.heap.size,4,none⟩= some (.slice NA ns.length nc):=HST.out.wa.cells 4 rfl
 have d5:W.cell? ⟨w.heap.size,5,none⟩= some (.slice A its.length c):=HST.out.wa.cells 5 rfl
 have x1:W.cell? ⟨px,o+1,none⟩= some (.string s):=(HST.out.bel.cell (p:=⟨px,o+1,none⟩) HPX.out).trans HX1.out
 have HIX:Hid (∀ z:World,Below W.heap.size W z->Calls Tryz.prog 112 #[.slice NA ns.length nc,.string s] z fun e z'=>e= .returned (.int .i64 (Lib.idxOfS ns s))/\z'= z):=I fun z hz=>by
  rcases Nat.eq_zero_or_pos ns.length with h0|h0
  ·obtain rfl:ns=[]:=List.eq_nil_of_length_eq_zero h0
   exact Tryz.slices_Index_string_empty NA nc s z
  ·obtain⟨b,off,rfl,hb,hc⟩:=HNA.out h0
   have:=Tryz.slices_Index_string b off ns.length nc ns s z (Nat.le_refl _) (by have:=HLN.out.1;omega) fun j hj=>by
    obtain⟨q,hq1,hq2,hq3,_⟩:=hc j _ (List.getElem?_eq_getElem hj)
    subst hq3
    have h2:=hq2 0 _ rfl
    rw[Nat.mul_one,Nat.add_zero] at h2
    have h3:=(zQ.1 h2).2
    rw[List.getD_eq_getElem?_getD,List.getElem?_eq_getElem hj]
    exact(hz.cell (p:=⟨b,off+j,none⟩) (Nat.lt_of_lt_of_le hb HST.out.bel.size)).trans ((HST.out.bel.cell (p:=⟨b,off+j,none⟩) hb).trans h3)
   rw[List.take_length] at this
   exact this
 go_upto_region 4 with ((go_at_call 36;refine(zp 6 _).mono ?_;rintro e z ⟨rfl,hzw⟩;rw[hzw];clear hzw z))
 clear x0 d0
 refine zu [(0,true),(1,true),(2,true),(3,true),(4,true),(5,true),(6,false),(7,true)] (fun z=>Below W.heap.size W z) (by kernel_rfl) (by kernel_rfl) (by kernel_rfl) rfl (by intro c a d v w h;cases d<;>exact h) ?_
 have hs:Below W.heap.size W W.drew:=(Below.refl _ _).drew
 have HLP:=I HST.out.wa.lt
 refine z8 (some 20) (.pointer (some ⟨w.heap.size,4,none⟩)) _ rfl rfl (by exact wantA rfl) hs (fun z hz=>by go_simp) ?_
 go_frame
 refine z8 (some 21) (.slice NA ns.length nc) _ rfl rfl (by exact wantA rfl) hs (fun z hz=>by have e4:=(hz.cell (p:=⟨w.heap.size,4,none⟩) HLP.out).trans d4;clear hz;go_simp) ?_
 go_frame
 refine zk (some 22) (.pointer (some ⟨px,o,none⟩)) _ _ rfl rfl rfl (by exact wantA rfl) hs rfl ?_
 go_frame
 refine z8 (some 23) (.pointer (some ⟨px,o,none⟩)) _ rfl rfl (by exact wantA rfl) hs (fun z hz=>by go_simp) ?_
 go_frame
 refine z8 (some 24) (.pointer (some ⟨px,o+1,none⟩)) _ rfl rfl (by exact wantA rfl) hs (fun z hz=>by go_simp) ?_
 go_frame
 refine z8 (some 25) (.string s) _ rfl rfl (by exact wantA rfl) hs (fun z hz=>by have e1:=(hz.cell (p:=⟨px,o+1,none⟩) (Nat.lt_of_lt_of_le HPX.out HST.out.bel.size)).trans x1;clear hz;go_simp) ?_
 go_frame
 refine zx (some 26) 112 Tryz.func112 (by kernel_rfl) (by kernel_rfl) [.slice NA ns.length nc,.string s] _ _ _ rfl rfl rfl (by exact wantA rfl) rfl ?_
 refine(HIX.out _ hs).mono ?_
 rintro e z ⟨rfl,rfl⟩
 refine⟨_,rfl,hs,?_⟩
 go_frame
 refine z0g (some 5) (.int .i64 (Lib.idxOfS ns s)) _ _ rfl rfl rfl (by exact wantA rfl) hs rfl ?_
 go_frame
 refine zR ?_
 have HID:=z6x ns s
 have HSTD:Hid (UB w W.drew [.int .i64 6,.int .i64 n,.float .f64 f,.string sv,.slice NA ns.length nc,.slice A its.length c]):=I ⟨HST.out.wa.keep rfl,HST.out.wb.keep rfl,HST.out.bel.drew⟩
 clear d4 d5 x1 hs HIX HLP HST
 have HST:=HSTD
 clear HSTD
 generalize W.drew= W at*
 obtain⟨ix,hix⟩:∃ ix,Lib.idxOfS ns s= ix:=⟨_,rfl⟩
 rw[hix] at HID HRES
 rw[hix]
 clear hix
 rcases HID with rfl|⟨hi0,hi1⟩
 ·go_wp2_with ((go_at_call 36;refine(zB 10 _).mono ?_;rintro e z ⟨rfl,hzw⟩;rw[hzw];clear hzw z))
  exact⟨rfl,.no HRES.out rfl HST.out.bel⟩
 ·have hne: ¬ ix= -1:=by omega
  rw[if_neg hne] at HRES
  have hl6:=(z0d HRT.out).2.2 rfl
  obtain⟨j,rfl⟩:∃ j:Nat,ix=(j:Int):=⟨ix.toNat,by omega⟩
  have hj:j < its.length:=by omega
  have hj2:(j:Int) <(its.length:Int):=by omega
  have hj0:(0:Int)<=(j:Int):=by omega
  obtain⟨b,ob,rfl,hbb,hc⟩:=HIA.out (by omega)
  obtain⟨ks,hkl,hkr,hkv⟩:=hc j _ (List.getElem?_eq_getElem hj)
  have HKV:Hid (Kept P w ks its[j]):=I hkv
  have HKL:=I hkl
  have HKR:Hid (W.rangeAt b (ob+j*6) ks):=I (zd (z0m hkr fun a v h=>(zQ.1 h).2) HST.out.bel hbb)
  have HON:=I (zi HKV.out.val).2
  have HRV:Hid (r= .ok its[j]):=I (by rw[HRES.out];simp[List.getD,List.getElem?_eq_getElem hj])
  have HRW:=I HST.out.wb
  have d5:W.cell? ⟨w.heap.size,5,none⟩= some (.slice (some ⟨b,ob,none⟩) its.length c):=HST.out.wa.cells 5 rfl
  clear hc hkl hkr hkv hi0 hi1 hne hl6
  go_wp2_with (first|(go_at_call 36;refine(zp 10 _).mono ?_;rintro e z ⟨rfl,hzw⟩;rw[hzw];clear hzw z)|((with_reducible refine zc 26 _ rfl ?hwl b (ob+j*6) ks _ rfl HKR.out Tryz.underlying26 rfl ?hil ?_);(case hwl=>(exact wantA rfl));(case hil=>rw[HKL.out];kernel_rfl))|((with_reducible refine zh 26 _ _ rfl rfl ?hw (w.heap.size+1) zV6 (ks) HRW.out ?h5 ?h6 ?h7 ?h8 ?h9 ?_);(case hw=>(exact wantA rfl));(case h5=>rw[HKL.out];rfl);(case h6=>rfl);(case h7=>rfl);(case h8=>rw[HKL.out];kernel_rfl);(case h9=>exact HON.out);intro Z2 hz hb;have HX:=I hz;have HXB:=I hb;clear hz hb))
  (try simp only[Exit.inBlock,Exit.then])
  refine bodyPost_ret (zl rfl Tryz.underlying26 rfl _ _ (w.heap.size+1) (ks) (by rw[HKL.out];kernel_rfl) rfl HX.out.range) rfl ?_
  have hbel:=HST.out.bel.trans (HXB.out.below (B:=w.heap.size) HST.out.bel.size (by omega) (by omega))
  exact .ok HRV.out rfl (HKV.out.grow hbel) hbel
theorem zd8 (e18:(k ==18)= false) (e4:(k ==4)= false) (e21:(k ==21)= false) (e22:(k ==22)= false) (e23:(k ==23)= false) (e20:(k ==20)= false) (hx0:w.cell? ⟨px,o,none⟩= some (.int .i64 k)) (hx1:w.cell? ⟨px,o+1,none⟩= some (.string s)) (hpx:px < w.heap.size) (hv:Kept P w cs (.mk 3 n f sv ns its)) (hr:zj (.mk 3 n f sv ns its)= true) (htb:TabP w) {r:Res} (hres:r= .ok (vF (zm (unV.fNeg f)))):
  Calls Tryz.prog 68 #[.pointer (some ⟨px,o,none⟩),.agg ⟨cs⟩] w (UnPost P r w):=by
 have HV:=I hv
 have HVW:=I hv.val
 have HTB:=I htb
 have HRT:=I hr
 obtain⟨vn,vi,rfl,hkw,hnw,hfw,hsw,hns,hil,hi⟩:=ValAt.inv hv
 obtain⟨hnl,NA,nc,rfl,hnA⟩:=hns
 obtain⟨hil2,A,c,rfl,hA⟩:=hi
 have HNA:=I hnA
 have HIA:=I hA
 have HWF:=I (And.intro hnw (And.intro hfw hsw))
 have HLN:=I (And.intro hnl hil2)
 have HRES:=I hres
 have HX0:=I hx0
 have HX1:=I hx1
 have HPX:=I hpx
 clear hv hr htb hkw hnw hfw hsw hil hil2 hnl hnA hA hres hx0 hx1 hpx
 go_enter Tryz.func68,Tryz.ntmps68
 go_upto_region 1 with (fail)
 have HST:=I (zW w [.int .i64 3,.int .i64 n,.float .f64 f,.string sv,.slice NA ns.length nc,.slice A its.length c])
 rw[zv]
 generalize (w.alloc (.cells ⟨[.int .i64 3,.int .i64 n,.float .f64 f,.string sv,.slice NA ns.length nc,.slice A its.length c]⟩ 26)).alloc (.cells zV6.toArray 26)= W at*
 have x0:W.cell? ⟨px,o,none⟩= some (.int .i64 k):=(HST.out.bel.cell (p:=⟨px,o,none⟩) HPX.out).trans HX0.out
 have d0:W.cell? ⟨w.heap.size,0,none⟩= some (.int .i64 3):=HST.out.wa.cells 0 rfl
 have d2:W.cell? ⟨w.heap.size,2,none⟩= some (.float .f64 f):=HST.out.wa.cells 2 rfl
 have HNG:=I (fun w=>zcn f w)
 go_wp2_with (first|(go_at_call 36;refine(zp 6 _).mono ?_;rintro e z ⟨rfl,hzw⟩;rw[hzw];clear hzw z)|(go_at_call 119;refine(HNG.out _).mono ?_;rintro e z ⟨rfl,hzw⟩;rw[hzw];clear hzw z)|(go_at_call 113;refine(z7s (zm (unV.fNeg f)) _).mono ?_;rintro e z ⟨rfl,hb⟩;have HBZ:=I hb;have HRZ:=I (HST.out.wb.keep (hb.block _ (HST.out.wb.lt)));clear hb)|((with_reducible refine zh 26 _ _ rfl rfl ?hw (w.heap.size+1) zV6 (valC 3 0 (zm (zm (unV.fNeg f))) ⟨#[]⟩) HRZ.out ?h5 ?h6 ?h7 ?h8 ?h9 ?_);(case hw=>(exact wantA rfl));(case h5=>rfl);(case h6=>rfl);(case h7=>rfl);(case h8=>kernel_rfl);(case h9=>exact z02 _ _ _ _);intro Z2 hz hb;have HX:=I hz;have HXB:=I hb;clear hz hb))
 (try simp only[Exit.inBlock,Exit.then])
 refine bodyPost_ret (zl rfl Tryz.underlying26 rfl _ _ (w.heap.size+1) (valC 3 0 (zm (zm (unV.fNeg f))) ⟨#[]⟩) (by kernel_rfl) rfl HX.out.range) rfl ?_
 have hbel:=(HST.out.bel.trans (HBZ.out.mono HST.out.bel.size)).trans (HXB.out.below (B:=w.heap.size) (Nat.le_trans HST.out.bel.size HBZ.out.size) (by omega) (by omega))
 exact .ok HRES.out rfl (by rw[z4z];exact z62 _ _ _ (z3f (ze5 HWF.out.2.1))) hbel
theorem zd4 (e18:(k ==18)= false) (e4:(k ==4)= false) (e21:(k ==21)= false) (e22:(k ==22)= false) (e23:(k ==23)= false) (e20:(k ==20)= false) (hne: ¬ n= -9223372036854775808) (hx0:w.cell? ⟨px,o,none⟩= some (.int .i64 k)) (hx1:w.cell? ⟨px,o+1,none⟩= some (.string s)) (hpx:px < w.heap.size) (hv:Kept P w cs (.mk 2 n f sv ns its)) (hr:zj (.mk 2 n f sv ns its)= true) (htb:TabP w) {r:Res} (hres:r= .ok (vI (-n))):
  Calls Tryz.prog 68 #[.pointer (some ⟨px,o,none⟩),.agg ⟨cs⟩] w (UnPost P r w):=by
 have HV:=I hv
 have HVW:=I hv.val
 have HTB:=I htb
 have HRT:=I hr
 obtain⟨vn,vi,rfl,hkw,hnw,hfw,hsw,hns,hil,hi⟩:=ValAt.inv hv
 obtain⟨hnl,NA,nc,rfl,hnA⟩:=hns
 obtain⟨hil2,A,c,rfl,hA⟩:=hi
 have HNA:=I hnA
 have HIA:=I hA
 have HWF:=I (And.intro hnw (And.intro hfw hsw))
 have HLN:=I (And.intro hnl hil2)
 have HRES:=I hres
 have HX0:=I hx0
 have HX1:=I hx1
 have HPX:=I hpx
 clear hv hr htb hkw hnw hfw hsw hil hil2 hnl hnA hA hres hx0 hx1 hpx
 go_enter Tryz.func68,Tryz.ntmps68
 go_upto_region 1 with (fail)
 have HST:=I (zW w [.int .i64 2,.int .i64 n,.float .f64 f,.string sv,.slice NA ns.length nc,.slice A its.length c])
 rw[zv]
 generalize (w.alloc (.cells ⟨[.int .i64 2,.int .i64 n,.float .f64 f,.string sv,.slice NA ns.length nc,.slice A its.length c]⟩ 26)).alloc (.cells zV6.toArray 26)= W at*
 have x0:W.cell? ⟨px,o,none⟩= some (.int .i64 k):=(HST.out.bel.cell (p:=⟨px,o,none⟩) HPX.out).trans HX0.out
 have d0:W.cell? ⟨w.heap.size,0,none⟩= some (.int .i64 2):=HST.out.wa.cells 0 rfl
 have d1:W.cell? ⟨w.heap.size,1,none⟩= some (.int .i64 n):=HST.out.wa.cells 1 rfl
 have hw0:=HWF.out.1
 unfold wfI Lit.wf at hw0
 simp only[Bool.and_eq_true,decide_eq_true_eq] at hw0
 have hmi:IntKind.i64.min= -9223372036854775808:=rfl
 have hma:IntKind.i64.max= 9223372036854775807:=rfl
 rw[hmi,hma] at hw0
 have hw1:IntKind.i64.wrap (-n)= -n:=by rw[IntKind.wrap_i64];omega
 have hw2:wrap64 (-n)= -n:=by unfold wrap64;omega
 have HWM:Hid (wfI (-n)):=I (z0f (by omega))
 clear hw0 hmi hma hne
 by_cases h0:n= 0
 ·subst h0
  go_wp2_with (first|(go_at_call 36;refine(zp 6 _).mono ?_;rintro e z ⟨rfl,hzw⟩;rw[hzw];clear hzw z)|(go_at_call 36;refine(zp 7 _).mono ?_;rintro e z ⟨rfl,hzw⟩;rw[hzw];clear hzw z)|(go_at_call 116;refine(z1i 0 _).mono ?_;rintro e z ⟨rfl,hb⟩;have HBZ:=I hb;have HRZ:=I (HST.out.wb.keep (hb.block _ (HST.out.wb.lt)));clear hb)|((with_reducible refine zh 26 _ _ rfl rfl ?hw (w.heap.size+1) zV6 (valC 2 0 0 ⟨#[]⟩) HRZ.out ?h5 ?h6 ?h7 ?h8 ?h9 ?_);(case hw=>(exact wantA rfl));(case h5=>rfl);(case h6=>rfl);(case h7=>rfl);(case h8=>kernel_rfl);(case h9=>exact z02 _ _ _ _);intro Z2 hz hb;have HX:=I hz;have HXB:=I hb;clear hz hb))
  (try simp only[Exit.inBlock,Exit.then])
  refine bodyPost_ret (zl rfl Tryz.underlying26 rfl _ _ (w.heap.size+1) (valC 2 0 0 ⟨#[]⟩) (by kernel_rfl) rfl HX.out.range) rfl ?_
  have hbel:=(HST.out.bel.trans (HBZ.out.mono HST.out.bel.size)).trans (HXB.out.below (B:=w.heap.size) (Nat.le_trans HST.out.bel.size HBZ.out.size) (by omega) (by omega))
  exact .ok HRES.out rfl (z2h _ _ 0 (z0f (by omega))) hbel
 ·have hnn:(n != -n)= true:=by simp;omega
  have hnn2: ¬ n= -n:=by omega
  go_wp2_with (first|(go_at_call 36;refine(zp 6 _).mono ?_;rintro e z ⟨rfl,hzw⟩;rw[hzw];clear hzw z)|(go_at_call 36;refine(zp 7 _).mono ?_;rintro e z ⟨rfl,hzw⟩;rw[hzw];clear hzw z)|(go_at_call 116;refine(z1i (-n) _).mono ?_;rintro e z ⟨rfl,hb⟩;have HBZ:=I hb;have HRZ:=I (HST.out.wb.keep (hb.block _ (HST.out.wb.lt)));clear hb)|((with_reducible refine zh 26 _ _ rfl rfl ?hw (w.heap.size+1) zV6 (valC 2 (-n) 0 ⟨#[]⟩) HRZ.out ?h5 ?h6 ?h7 ?h8 ?h9 ?_);(case hw=>(exact wantA rfl));(case h5=>rfl);(case h6=>rfl);(case h7=>rfl);(case h8=>kernel_rfl);(case h9=>exact z02 _ _ _ _);intro Z2 hz hb;have HX:=I hz;have HXB:=I hb;clear hz hb))
  (try simp only[Exit.inBlock,Exit.then])
  refine bodyPost_ret (zl rfl Tryz.underlying26 rfl _ _ (w.heap.size+1) (valC 2 (-n) 0 ⟨#[]⟩) (by kernel_rfl) rfl HX.out.range) rfl ?_
  have hbel:=(HST.out.bel.trans (HBZ.out.mono HST.out.bel.size)).trans (HXB.out.below (B:=w.heap.size) (Nat.le_trans HST.out.bel.size HBZ.out.size) (by omega) (by omega))
  exact .ok HRES.out rfl (z2h _ _ _ HWM.out) hbel
theorem zcu (e18:(k ==18)= false) (e4:(k ==4)= false) (e21:(k ==21)= false) (e22:(k ==22)= false) (e23:(k ==23)= false) (e20:(k ==20)= false) (hne:Hid (n= -9223372036854775808)) (hx0:w.cell? ⟨px,o,none⟩= some (.int .i64 k)) (hx1:w.cell? ⟨px,o+1,none⟩= some (.string s)) (hpx:px < w.heap.size) (hv:Kept P w cs (.mk 2 n f sv ns its)) (hr:zj (.mk 2 n f sv ns its)= true) (htb:TabP w) {r:Res} (hres:r= .error 7):
  Calls Tryz.prog 68 #[.pointer (some ⟨px,o,none⟩),.agg ⟨cs⟩] w (UnPost P r w):=by
 have HV:=I hv
 have HVW:=I hv.val
 have HTB:=I htb
 have HRT:=I hr
 obtain⟨vn,vi,rfl,hkw,hnw,hfw,hsw,hns,hil,hi⟩:=ValAt.inv hv
 obtain⟨hnl,NA,nc,rfl,hnA⟩:=hns
 obtain⟨hil2,A,c,rfl,hA⟩:=hi
 have HNA:=I hnA
 have HIA:=I hA
 have HWF:=I (And.intro hnw (And.intro hfw hsw))
 have HLN:=I (And.intro hnl hil2)
 have HRES:=I hres
 have HX0:=I hx0
 have HX1:=I hx1
 have HPX:=I hpx
 clear hv hr htb hkw hnw hfw hsw hil hil2 hnl hnA hA hres hx0 hx1 hpx
 go_enter Tryz.func68,Tryz.ntmps68
 go_upto_region 1 with (fail)
 have HST:=I (zW w [.int .i64 2,.int .i64 n,.float .f64 f,.string sv,.slice NA ns.length nc,.slice A its.length c])
 rw[zv]
 generalize (w.alloc (.cells ⟨[.int .i64 2,.int .i64 n,.float .f64 f,.string sv,.slice NA ns.length nc,.slice A its.length c]⟩ 26)).alloc (.cells zV6.toArray 26)= W at*
 have x0:W.cell? ⟨px,o,none⟩= some (.int .i64 k):=(HST.out.bel.cell (p:=⟨px,o,none⟩) HPX.out).trans HX0.out
 have d0:W.cell? ⟨w.heap.size,0,none⟩= some (.int .i64 2):=HST.out.wa.cells 0 rfl
 have d1:W.cell? ⟨w.heap.size,1,none⟩= some (.int .i64 n):=HST.out.wa.cells 1 rfl
 have hw1:IntKind.i64.wrap (-n)= n:=by rw[IntKind.wrap_i64];have:=hne.out;omega
 have hw2:wrap64 (-n)= n:=by unfold wrap64;have:=hne.out;omega
 have hz1:(n ==0)= false:=by have:=hne.out;simp;omega
 have hz2: ¬ n= 0:=by have:=hne.out;omega
 clear hne
 go_wp2_with (first|(go_at_call 36;refine(zp 6 _).mono ?_;rintro e z ⟨rfl,hzw⟩;rw[hzw];clear hzw z)|(go_at_call 36;refine(zB 7 _).mono ?_;rintro e z ⟨rfl,hzw⟩;rw[hzw];clear hzw z))
 exact⟨rfl,.no HRES.out rfl HST.out.bel⟩
theorem zdg (e18:(k ==18)= false) (e4:(k ==4)= false) (e21:(k ==21)= false) (e22:(k ==22)= false) (e23:(k ==23)= false) (e20:(k ==20)= false) (h1:(kv ==3)= false) (h2:(kv ==2)= false) (hx0:w.cell? ⟨px,o,none⟩= some (.int .i64 k)) (hx1:w.cell? ⟨px,o+1,none⟩= some (.string s)) (hpx:px < w.heap.size) (hv:Kept P w cs (.mk kv n f sv ns its)) (hr:zj (.mk kv n f sv ns its)= true) (htb:TabP w) {r:Res} (hres:r= .error 6):
  Calls Tryz.prog 68 #[.pointer (some ⟨px,o,none⟩),.agg ⟨cs⟩] w (UnPost P r w):=by
 have HV:=I hv
 have HVW:=I hv.val
 have HTB:=I htb
 have HRT:=I hr
 obtain⟨vn,vi,rfl,hkw,hnw,hfw,hsw,hns,hil,hi⟩:=ValAt.inv hv
 obtain⟨hnl,NA,nc,rfl,hnA⟩:=hns
 obtain⟨hil2,A,c,rfl,hA⟩:=hi
 have HNA:=I hnA
 have HIA:=I hA
 have HWF:=I (And.intro hnw (And.intro hfw hsw))
 have HLN:=I (And.intro hnl hil2)
 have HRES:=I hres
 have HX0:=I hx0
 have HX1:=I hx1
 have HPX:=I hpx
 clear hv hr htb hkw hnw hfw hsw hil hil2 hnl hnA hA hres hx0 hx1 hpx
 go_enter Tryz.func68,Tryz.ntmps68
 go_upto_region 1 with (fail)
 have HST:=I (zW w [.int .i64 kv,.int .i64 n,.float .f64 f,.string sv,.slice NA ns.length nc,.slice A its.length c])
 rw[zv]
 generalize (w.alloc (.cells ⟨[.int .i64 kv,.int .i64 n,.float .f64 f,.string sv,.slice NA ns.length nc,.slice A its.length c]⟩ 26)).alloc (.cells zV6.toArray 26)= W at*
 have x0:W.cell? ⟨px,o,none⟩= some (.int .i64 k):=(HST.out.bel.cell (p:=⟨px,o,none⟩) HPX.out).trans HX0.out
 have d0:W.cell? ⟨w.heap.size,0,none⟩= some (.int .i64 kv):=HST.out.wa.cells 0 rfl
 go_wp2_with ((go_at_call 36;refine(zB 6 _).mono ?_;rintro e z ⟨rfl,hzw⟩;rw[hzw];clear hzw z))
 exact⟨rfl,.no HRES.out rfl HST.out.bel⟩
end
theorem zbr (P:Nat->Prop) (k:Int) (s:ByteArray) (px o:Nat) (a:VT) (cs:List Value) (w:World) (hx0:w.cell? ⟨px,o,none⟩= some (.int .i64 k)) (hx1:w.cell? ⟨px,o+1,none⟩= some (.string s)) (hpx:px < w.heap.size) (hv:Kept P w cs a) (hr:zj a= true) (htb:TabP w):
  Calls Tryz.prog 68 #[.pointer (some ⟨px,o,none⟩),.agg ⟨cs⟩] w (UnPost P (unV k s a) w):=by
 cases a with
 |mk kv n f sv ns its=>
  rw[unV]
  by_cases k18:k= 18
  ·subst k18
   rw[if_pos rfl]
   by_cases h:kv= 6
   ·subst h;rw[if_neg (by decide)];exact ze1 P s px o n f sv ns its cs w hx0 hx1 hpx hv hr htb rfl
   ·rw[if_pos h];exact zcV P s px o kv n f sv ns its cs w (by simpa using h) hx0 hx1 hpx hv hr htb rfl
  rw[if_neg k18]
  by_cases k4:k= 4
  ·subst k4
   rw[if_pos rfl]
   by_cases h:kv= 1
   ·subst h;rw[if_pos rfl];exact zdZ P s px o n f sv ns its cs w hx0 hx1 hpx hv hr htb rfl
   ·rw[if_neg h];exact zdG P s px o kv n f sv ns its cs w (by simpa using h) hx0 hx1 hpx hv hr htb rfl
  rw[if_neg k4]
  by_cases k21:k= 21
  ·subst k21
   rw[if_pos rfl]
   by_cases h:kv= 2
   ·subst h;rw[if_pos rfl];exact zeB P s px o n f sv ns its cs w hx0 hx1 hpx hv hr htb rfl
   ·rw[if_neg h];exact zdX P s px o kv n f sv ns its cs w (by simpa using h) hx0 hx1 hpx hv hr htb rfl
  rw[if_neg k21]
  by_cases k22:k= 22
  ·subst k22
   rw[if_pos rfl]
   by_cases h:kv= 3
   ·subst h;rw[if_pos rfl];exact zeG P s px o n f sv ns its cs w hx0 hx1 hpx hv hr htb rfl
   ·rw[if_neg h];exact zdT P s px o kv n f sv ns its cs w (by simpa using h) hx0 hx1 hpx hv hr htb rfl
  rw[if_neg k22]
  by_cases k23:k= 23
  ·subst k23
   rw[if_pos rfl]
   by_cases h:kv= 4
   ·subst h;rw[if_pos rfl];exact zdK P s px o n f sv ns its cs w hx0 hx1 hpx hv hr htb rfl
   ·rw[if_neg h]
    by_cases h2:kv= 1\/kv= 2\/kv= 3
    ·rw[if_pos h2];exact zdv P s px o kv n f sv ns its cs w (by simp;omega) (by simpa using h) h hx0 hx1 hpx hv hr htb rfl
    ·rw[if_neg h2];exact zdx P s px o kv n f sv ns its cs w (by by_cases h5:1<=kv;(simp;omega);(simp;omega)) hx0 hx1 hpx hv hr htb rfl
  rw[if_neg k23]
  by_cases k20:k= 20
  ·subst k20
   rw[if_pos rfl]
   by_cases h:kv= 5
   ·subst h;rw[if_pos (Or.inl rfl)];exact zd3 P s px o n f sv ns its cs w hx0 hx1 hpx hv hr htb rfl
   ·by_cases h2:kv= 4
    ·subst h2;rw[if_pos (Or.inr rfl)];exact zdd P s px o n f sv ns its cs w hx0 hx1 hpx hv hr htb rfl
    ·rw[if_neg (by omega)];exact zdM P s px o kv n f sv ns its cs w (by simpa using h) (by simpa using h2) hx0 hx1 hpx hv hr htb rfl
  rw[if_neg k20]
  have e18:(k ==18)= false:=by simpa using k18
  have e4:(k ==4)= false:=by simpa using k4
  have e21:(k ==21)= false:=by simpa using k21
  have e22:(k ==22)= false:=by simpa using k22
  have e23:(k ==23)= false:=by simpa using k23
  have e20:(k ==20)= false:=by simpa using k20
  by_cases h3:kv= 3
  ·subst h3;rw[if_pos rfl];exact zd8 P k s px o n f sv ns its cs w e18 e4 e21 e22 e23 e20 hx0 hx1 hpx hv hr htb rfl
  rw[if_neg h3]
  by_cases h2:kv= 2
  ·subst h2
   rw[if_pos rfl]
   by_cases hn:n= -9223372036854775808
   ·rw[if_pos hn];exact zcu P k s px o n f sv ns its cs w e18 e4 e21 e22 e23 e20 (I hn) hx0 hx1 hpx hv hr htb rfl
   ·rw[if_neg hn];exact zd4 P k s px o n f sv ns its cs w e18 e4 e21 e22 e23 e20 hn hx0 hx1 hpx hv hr htb rfl
  ·rw[if_neg h2];exact zdg P k s px o kv n f sv ns its cs w e18 e4 e21 e22 e23 e20 (by simpa using h3) (by simpa using h2) hx0 hx1 hpx hv hr htb rfl
end Go.Proofs.YtmpbepjjbaeebaaGreatDoor
