/- Parts of a proof: E10U, E10B, E10C. -/
import Derived.Test.YtdjfpcmlffekkaaGreatDoorPackL7
import Derived.Test.YtdjfpcmlffekkaaGreatDoorPackL26
import Derived.Test.YtdjfpcmlffekkaaGreatDoorPackL28
import Derived.Test.YtdjfpcmlffekkaaGreatDoorPackL32
import Derived.Test.YtdjfpcmlffekkaaGreatDoorPackL33
import Derived.Test.YtdjfpcmlffekkaaGreatDoorPackL34
set_option maxHeartbeats 8000000
set_option maxRecDepth 100000
set_option linter.unusedVariables false
set_option linter.unusedSimpArgs false
namespace Go.Proofs.YtdjfpcmlffekkaaGreatDoor
section
open Go Go.RowKit
theorem Kept.grow {P:Nat->Prop} {w w':World} {cs:List Value} {t:VT} (h:Kept P w cs t) (hb:Below w.heap.size w w'):Kept (fun b=>P b\/w.heap.size<=b) w' cs t:=h.to (fun b hp hlt=>⟨.inl hp,hb.block b hlt⟩) hb.size
theorem z2H (P:Nat->Prop) (w:World) (k n:Int) (f:Nat) (s:ByteArray) (hk:wfI k) (hn:wfI n) (hf:(Lit.float .f64 f).wf= true) (hs:s.size<=maxLen):Kept P w (valC k n f s) (.mk k n f s [] []):=zdl _ _ k n f s hk hn hf hs
theorem z0b {n:Int} (h: -9223372036854775808<=n/\n<=9223372036854775807):wfI n:=by
 unfold wfI Lit.wf
 simp only[Bool.and_eq_true,decide_eq_true_eq]
 exact⟨h.1,h.2⟩
theorem z3f {f:Nat} (h:(Lit.float .f64 f).wf= true):(Lit.float .f64 (zl f)).wf= true:=by
 unfold zl
 split
 ·decide
 ·exact h
theorem zfw {f:Nat} (h:(Lit.float .f64 f).wf= true):(Lit.float .f64 (unV.fNeg f)).wf= true:=by
 have h1:=wf64 h
 refine wf_of_lt .f64 _ ?_
 show f ^^^ 9223372036854775808 < 2 ^ 64
 exact Nat.xor_lt_two_pow h1 (by decide)
theorem z0n {k n:Int} {f:Nat} {s:ByteArray} {ns:List ByteArray} {its:List VT} (h:zv (.mk k n f s ns its)= true):s.size<=200:=by
 have h1:=(z0X.1 h).2
 have hE:s.toList.isEmpty= true->s.size<=200:=fun he=>by
  have:s.toList=[]:=List.isEmpty_iff.1 he
  rw[ByteArray.toList_eq] at this
  cases s with
  |mk d=>simp at this;subst this;exact Nat.zero_le _
 rw[zu,if_neg (by decide)] at h1
 unfold bareB at h1
 by_cases k1:k= 1
 ·rw[if_pos k1] at h1;simp only[Bool.and_eq_true,Bool.false_or] at h1;exact hE h1.1.2.2.1
 rw[if_neg k1] at h1
 by_cases k2:k= 2
 ·rw[if_pos k2] at h1;simp only[Bool.and_eq_true,Bool.false_or] at h1;exact hE h1.2.2.1
 rw[if_neg k2] at h1
 by_cases k3:k= 3
 ·rw[if_pos k3] at h1;simp only[Bool.and_eq_true,Bool.false_or] at h1;exact hE h1.2.2.1
 rw[if_neg k3] at h1
 by_cases k4:k= 4
 ·rw[if_pos k4] at h1;simp only[Bool.and_eq_true,decide_eq_true_eq] at h1;exact h1.2
 rw[if_neg k4] at h1
 by_cases k6:k= 6
 ·rw[if_pos k6] at h1;simp only[Bool.and_eq_true,Bool.false_or] at h1;exact hE h1.2.2.1.2.2.1
 rw[if_neg k6] at h1
 by_cases k5:k= 5
 ·rw[if_pos k5] at h1;simp only[Bool.and_eq_true,Bool.false_or] at h1;exact hE h1.1.2.2.1
 ·rw[if_neg k5] at h1;cases h1
def tC (b:Bool):List Value:=valC 1 (if b= true then 1 else 0) 0 ⟨#[]⟩
theorem z22 (b:Bool):∀ v∈tC b,v.oneCell'= true:=z00 _ _ _ _
theorem z14 (b:Bool) (w:World):Calls Tryz.prog 135 #[.bool b] w fun e w'=>e= .returned (.agg ⟨tC b⟩)/\Below w.heap.size w w':=zcg b w
theorem z2l (P:Nat->Prop) (w:World) (n:Int) (hn:wfI n):Kept P w (valC 2 n 0 ⟨#[]⟩) (vI n):=z2H P w 2 n 0 ⟨#[]⟩ (z0b (by omega)) hn (by decide) (by decide)
theorem z1s (P:Nat->Prop) (w:World) (b:Bool):Kept P w (tC b) (vB b):=z2H P w 1 _ 0 ⟨#[]⟩ (z0b (by omega)) (by cases b<;>exact z0b (by decide)) (by decide) (by decide)
theorem z60 (P:Nat->Prop) (w:World) (f:Nat) (hf:(Lit.float .f64 f).wf= true):Kept P w (valC 3 0 f ⟨#[]⟩) (vF f):=z2H P w 3 0 f ⟨#[]⟩ (z0b (by omega)) (z0b (by omega)) hf (by decide)
theorem zet (P:Nat->Prop) (w:World) (s:ByteArray) (hs:s.size<=maxLen):Kept P w (valC 4 0 0 s) (vS s):=z2H P w 4 0 0 s (z0b (by omega)) (z0b (by omega)) (by decide) hs
def UnPost (P:Nat->Prop) (r:Res) (w:World) (e:Ending) (w':World):Prop:=
 (∃ v cs',r= .ok v/\e= .returned (.agg ⟨cs'⟩)/\Kept (fun b=>P b\/w.heap.size<=b) w' cs' v/\Below w.heap.size w w')\/(∃ n,r= .error n/\e= panE n/\Below w.heap.size w w')
theorem UnPost.ok {P:Nat->Prop} {r:Res} {w:World} {v:VT} {cs':List Value} {e:Ending} {w':World} (hr:r= .ok v) (he:e= .returned (.agg ⟨cs'⟩)) (hk:Kept (fun b=>P b\/w.heap.size<=b) w' cs' v) (hb:Below w.heap.size w w'):UnPost P r w e w':= .inl ⟨v,cs',hr,he,hk,hb⟩
theorem UnPost.no {P:Nat->Prop} {r:Res} {w:World} {n:Int} {e:Ending} {w':World} (hr:r= .error n) (he:e= panE n) (hb:Below w.heap.size w w'):UnPost P r w e w':= .inr ⟨n,hr,he,hb⟩
structure UB (w W:World) (cs:List Value):Prop where
 wa:Whole 52 W w.heap.size cs
 wb:Whole 52 W (w.heap.size+1) zV6
 bel:Below w.heap.size w W
theorem z7W (w:World) (cs:List Value):UB w ((w.alloc (.cells ⟨cs⟩ 52)).alloc (.cells zV6.toArray 52)) cs:=by
 have h1:=Whole.new w cs 52
 have h2:=zd w (.cells ⟨cs⟩ 52)
 have hs:(w.alloc (.cells ⟨cs⟩ 52)).heap.size= w.heap.size+1:=by simp
 generalize w.alloc (.cells ⟨cs⟩ 52)= W1 at*
 have h3:=Whole.new W1 zV6 52
 have h4:=zd W1 (.cells zV6.toArray 52)
 rw[hs] at h3
 exact⟨h1.keep (h4.block _ (by omega)),h3,h2.trans (h4.mono (by omega))⟩
theorem zbb (P:Nat->Prop) (k:Int) (s:ByteArray) (px o:Nat) (a:VT) (cs:List Value) (w:World) (hx0:w.cell? ⟨px,o,none⟩= some (.int .i64 k)) (hx1:w.cell? ⟨px,o+1,none⟩= some (.string s)) (hpx:px < w.heap.size) (hv:Kept P w cs a) (hr:zv a= true) (htb:TabP w):
  Calls Tryz.prog 137 #[.pointer (some ⟨px,o,none⟩),.agg ⟨cs⟩] w (UnPost P (unV k s a) w):=by
 cases a with
 |mk kv n f sv ns its=>
  obtain⟨r,hres⟩:∃ r,unV k s (.mk kv n f sv ns its)= r:=⟨_,rfl⟩
  rw[hres]
  rw[unV] at hres
  have HV:=I hv
  have HVW:=I hv.val
  have HTB:=I htb
  have HRT:=I hr
  obtain⟨vn,vi,rfl,hkw,hnw,hfw,hsw,hns,hil,hi⟩:=ValAt.inv hv
  obtain⟨hnl,NA,nc,rfl,hnA⟩:=hns
  obtain⟨hil2,A,c,rfl,hA⟩:=hi
  have HNA:=I hnA
  have HIA:=I hA
  have HWF:=I (And.intro hnw (And.intro hfw hsw))
  have HLN:=I (And.intro hnl hil2)
  have HIL:=I hil
  have HX0:=I hx0
  have HX1:=I hx1
  have HPX:=I hpx
  clear hv hr htb hkw hnw hfw hsw hil hil2 hnl hnA hA hx0 hx1 hpx
  go_enter Tryz.func137,Tryz.ntmps137
  go_upto_region 1 with (fail)
  have HST:=I (z7W w [.int .i64 kv,.int .i64 n,.float .f64 f,.string sv,.slice NA ns.length nc,.slice A its.length c])
  rw[z0q]
  generalize (w.alloc (.cells ⟨[.int .i64 kv,.int .i64 n,.float .f64 f,.string sv,.slice NA ns.length nc,.slice A its.length c]⟩ 52)).alloc (.cells zV6.toArray 52)= W at*
  by_cases k18:k= 18
  ·subst k18
   rw[if_pos rfl] at hres
   by_cases h:kv= 6
   ·subst h
    rw[if_neg (by decide)] at hres
    have HRES:=I hres.symm
    clear hres
    have x0:W.cell? ⟨px,o,none⟩= some (.int .i64 18):=(HST.o.bel.cell (p:=⟨px,o,none⟩) HPX.o).trans HX0.o
    have d0:W.cell? ⟨w.heap.size,0,none⟩= some (.int .i64 6):=HST.o.wa.cells 0 rfl
    have d4:W.cell? ⟨w.heap.size,4,none⟩= some (.slice NA ns.length nc):=HST.o.wa.cells 4 rfl
    have d5:W.cell? ⟨w.heap.size,5,none⟩= some (.slice A its.length c):=HST.o.wa.cells 5 rfl
    have x1:W.cell? ⟨px,o+1,none⟩= some (.string s):=(HST.o.bel.cell (p:=⟨px,o+1,none⟩) HPX.o).trans HX1.o
    have HIX:Hid (∀ z:World,Below W.heap.size W z->Calls Tryz.prog 150 #[.slice NA ns.length nc,.string s] z fun e z'=>e= .returned (.int .i64 (Lib.idxOfS ns s))/\z'= z):=I fun z hz=>by
     rcases Nat.eq_zero_or_pos ns.length with h0|h0
     ·obtain rfl:ns=[]:=List.eq_nil_of_length_eq_zero h0
      exact Tryz.slices_Index_string_empty NA nc s z
     ·obtain⟨b,off,rfl,hb,hc⟩:=HNA.o h0
      have:=Tryz.slices_Index_string b off ns.length nc ns s z (Nat.le_refl _) (by have:=HLN.o.1;omega) fun j hj=>by
       obtain⟨q,hq1,hq2,hq3,_⟩:=hc j _ (List.getElem?_eq_getElem hj)
       subst hq3
       have h2:=hq2 0 _ rfl
       rw[Nat.mul_one,Nat.add_zero] at h2
       have h3:=(zp.1 h2).2
       rw[List.getD_eq_getElem?_getD,List.getElem?_eq_getElem hj]
       exact(hz.cell (p:=⟨b,off+j,none⟩) (Nat.lt_of_lt_of_le hb HST.o.bel.size)).trans ((HST.o.bel.cell (p:=⟨b,off+j,none⟩) hb).trans h3)
      rw[List.take_length] at this
      exact this
    go_upto_region 4 with ((go_at_call 115;refine(zm 6 _).mono ?_;rintro e z ⟨rfl,hzw⟩;rw[hzw];clear hzw z))
    clear x0 d0
    refine zr [(0,true),(1,true),(2,true),(3,true),(4,true),(5,true),(6,false),(7,true)] (fun z=>Below W.heap.size W z) (by kernel_rfl) (by kernel_rfl) (by kernel_rfl) rfl (by intro c a d v w h;cases d<;>exact h) ?_
    have hs:Below W.heap.size W W.drew:=(Below.refl _ _).drew
    have HLP:=I HST.o.wa.lt
    refine z8 (some 20) (.pointer (some ⟨w.heap.size,4,none⟩)) _ rfl rfl (by exact wA rfl) hs (fun z hz=>by go_simp) ?_
    go_frame
    refine z8 (some 21) (.slice NA ns.length nc) _ rfl rfl (by exact wA rfl) hs (fun z hz=>by have e4:=(hz.cell (p:=⟨w.heap.size,4,none⟩) HLP.o).trans d4;clear hz;go_simp) ?_
    go_frame
    refine zh (some 22) (.pointer (some ⟨px,o,none⟩)) _ _ rfl rfl rfl (by exact wA rfl) hs rfl ?_
    go_frame
    refine z8 (some 23) (.pointer (some ⟨px,o,none⟩)) _ rfl rfl (by exact wA rfl) hs (fun z hz=>by go_simp) ?_
    go_frame
    refine z8 (some 24) (.pointer (some ⟨px,o+1,none⟩)) _ rfl rfl (by exact wA rfl) hs (fun z hz=>by go_simp) ?_
    go_frame
    refine z8 (some 25) (.string s) _ rfl rfl (by exact wA rfl) hs (fun z hz=>by have e1:=(hz.cell (p:=⟨px,o+1,none⟩) (Nat.lt_of_lt_of_le HPX.o HST.o.bel.size)).trans x1;clear hz;go_simp) ?_
    go_frame
    refine zC (some 26) 150 Tryz.func150 (by kernel_rfl) (by kernel_rfl) [.slice NA ns.length nc,.string s] _ _ _ rfl rfl rfl (by exact wA rfl) rfl ?_
    refine(HIX.o _ hs).mono ?_
    rintro e z ⟨rfl,rfl⟩
    refine⟨_,rfl,hs,?_⟩
    go_frame
    refine zQ (some 5) (.int .i64 (Lib.idxOfS ns s)) _ _ rfl rfl rfl (by exact wA rfl) hs rfl ?_
    go_frame
    refine zF ?_
    have HID:=z44 ns s
    have HSTD:Hid (UB w W.drew [.int .i64 6,.int .i64 n,.float .f64 f,.string sv,.slice NA ns.length nc,.slice A its.length c]):=I ⟨HST.o.wa.keep rfl,HST.o.wb.keep rfl,HST.o.bel.drew⟩
    clear d4 d5 x1 hs HIX HLP HST
    have HST:=HSTD
    clear HSTD
    generalize W.drew= W at*
    obtain⟨ix,hix⟩:∃ ix,Lib.idxOfS ns s= ix:=⟨_,rfl⟩
    rw[hix] at HID HRES
    rw[hix]
    clear hix
    rcases HID with rfl|⟨hi0,hi1⟩
    ·go_wp2_with ((go_at_call 115;refine(zA 10 _).mono ?_;rintro e z ⟨rfl,hzw⟩;rw[hzw];clear hzw z))
     exact⟨rfl,.no HRES.o rfl HST.o.bel⟩
    ·have hne: ¬ ix= -1:=by omega
     rw[if_neg hne] at HRES
     have hl6:=(z0a HRT.o).2.2 rfl
     obtain⟨j,rfl⟩:∃ j:Nat,ix=(j:Int):=⟨ix.toNat,by omega⟩
     have hj:j < its.length:=by omega
     have hj2:(j:Int) <(its.length:Int):=by omega
     have hj0:(0:Int)<=(j:Int):=by omega
     obtain⟨b,ob,rfl,hbb,hc⟩:=HIA.o (by omega)
     obtain⟨ks,hkl,hkr,hkv⟩:=hc j _ (List.getElem?_eq_getElem hj)
     have HKV:Hid (Kept P w ks its[j]):=I hkv
     have HKL:=I hkl
     have HKR:Hid (W.rangeAt b (ob+j*6) ks):=I (zc (z0l hkr fun a v h=>(zp.1 h).2) HST.o.bel hbb)
     have HON:=I (zo HKV.o.val).2
     have HRV:Hid (r= .ok its[j]):=I (by rw[HRES.o];simp[List.getD,List.getElem?_eq_getElem hj])
     have HRW:=I HST.o.wb
     have d5:W.cell? ⟨w.heap.size,5,none⟩= some (.slice (some ⟨b,ob,none⟩) its.length c):=HST.o.wa.cells 5 rfl
     clear hc hkl hkr hkv hi0 hi1 hne hl6
     go_wp2_with (first|(go_at_call 115;refine(zm 10 _).mono ?_;rintro e z ⟨rfl,hzw⟩;rw[hzw];clear hzw z)|((with_reducible refine za 52 _ rfl ?_ b (ob+j*6) ks _ rfl HKR.o Tryz.underlying52 rfl ?_ ?_);(exact wA rfl);rw[HKL.o];kernel_rfl)|((with_reducible refine zf 52 _ _ rfl rfl ?_ (w.heap.size+1) zV6 (ks) HRW.o ?_ ?_ ?_ ?_ ?_ ?_);(exact wA rfl);rw[HKL.o];rfl;rfl;rfl;rw[HKL.o];kernel_rfl;exact HON.o;intro Z2 hz hb;have HX:=I hz;have HXB:=I hb;clear hz hb))
     (try simp only[Exit.inBlock,Exit.then])
     refine bodyPost_ret (zi rfl Tryz.underlying52 rfl _ _ (w.heap.size+1) (ks) (by rw[HKL.o];kernel_rfl) rfl HX.o.range) rfl ?_
     have hbel:=HST.o.bel.trans (HXB.o.below (B:=w.heap.size) HST.o.bel.size (by omega) (by omega))
     exact .ok HRV.o rfl (HKV.o.grow hbel) hbel
   ·rw[if_pos h] at hres
    have h1:(kv ==6)= false:=(by simpa using h)
    have HRES:=I hres.symm
    clear hres
    have x0:W.cell? ⟨px,o,none⟩= some (.int .i64 18):=(HST.o.bel.cell (p:=⟨px,o,none⟩) HPX.o).trans HX0.o
    have d0:W.cell? ⟨w.heap.size,0,none⟩= some (.int .i64 kv):=HST.o.wa.cells 0 rfl
    go_wp2_with ((go_at_call 115;refine(zA 6 _).mono ?_;rintro e z ⟨rfl,hzw⟩;rw[hzw];clear hzw z))
    exact⟨rfl,.no HRES.o rfl HST.o.bel⟩
  rw[if_neg k18] at hres
  by_cases k4:k= 4
  ·subst k4
   rw[if_pos rfl] at hres
   by_cases h:kv= 1
   ·subst h
    rw[if_pos rfl] at hres
    have HRES:=I hres.symm
    clear hres
    have x0:W.cell? ⟨px,o,none⟩= some (.int .i64 4):=(HST.o.bel.cell (p:=⟨px,o,none⟩) HPX.o).trans HX0.o
    have d0:W.cell? ⟨w.heap.size,0,none⟩= some (.int .i64 1):=HST.o.wa.cells 0 rfl
    have d1:W.cell? ⟨w.heap.size,1,none⟩= some (.int .i64 n):=HST.o.wa.cells 1 rfl
    obtain⟨b,hb⟩:∃ b,(n ==0)= b:=⟨_,rfl⟩
    rw[hb] at HRES
    go_wp2_with (first|(go_at_call 115;refine(zm 6 _).mono ?_;rintro e z ⟨rfl,hzw⟩;rw[hzw];clear hzw z)|(go_at_call 135;refine(z14 b _).mono ?_;rintro e z ⟨rfl,hb⟩;have HBZ:=I hb;have HRZ:=I (HST.o.wb.keep (hb.block _ (HST.o.wb.lt)));clear hb)|((with_reducible refine zf 52 _ _ rfl rfl ?_ (w.heap.size+1) zV6 (tC b) HRZ.o ?_ ?_ ?_ ?_ ?_ ?_);(exact wA rfl);rfl;rfl;rfl;kernel_rfl;exact z22 b;intro Z2 hz hb;have HX:=I hz;have HXB:=I hb;clear hz hb))
    (try simp only[Exit.inBlock,Exit.then])
    refine bodyPost_ret (zi rfl Tryz.underlying52 rfl _ _ (w.heap.size+1) (tC b) (by kernel_rfl) rfl HX.o.range) rfl ?_
    have hbel:=(HST.o.bel.trans (HBZ.o.mono HST.o.bel.size)).trans (HXB.o.below (B:=w.heap.size) (Nat.le_trans HST.o.bel.size HBZ.o.size) (by omega) (by omega))
    exact .ok HRES.o rfl (z1s _ _ b) hbel
   ·rw[if_neg h] at hres
    have h1:(kv ==1)= false:=(by simpa using h)
    have HRES:=I hres.symm
    clear hres
    have x0:W.cell? ⟨px,o,none⟩= some (.int .i64 4):=(HST.o.bel.cell (p:=⟨px,o,none⟩) HPX.o).trans HX0.o
    have d0:W.cell? ⟨w.heap.size,0,none⟩= some (.int .i64 kv):=HST.o.wa.cells 0 rfl
    go_wp2_with ((go_at_call 115;refine(zA 6 _).mono ?_;rintro e z ⟨rfl,hzw⟩;rw[hzw];clear hzw z))
    exact⟨rfl,.no HRES.o rfl HST.o.bel⟩
  rw[if_neg k4] at hres
  by_cases k21:k= 21
  ·subst k21
   rw[if_pos rfl] at hres
   by_cases h:kv= 2
   ·subst h
    rw[if_pos rfl] at hres
    have HRES:=I hres.symm
    clear hres
    have x0:W.cell? ⟨px,o,none⟩= some (.int .i64 21):=(HST.o.bel.cell (p:=⟨px,o,none⟩) HPX.o).trans HX0.o
    have d0:W.cell? ⟨w.heap.size,0,none⟩= some (.int .i64 2):=HST.o.wa.cells 0 rfl
    have d1:W.cell? ⟨w.heap.size,1,none⟩= some (.int .i64 n):=HST.o.wa.cells 1 rfl
    go_wp2_with (first|(go_at_call 115;refine(zm 6 _).mono ?_;rintro e z ⟨rfl,hzw⟩;rw[hzw];clear hzw z)|(go_at_call 156;refine(z7r n _).mono ?_;rintro e z ⟨rfl,hzw⟩;rw[hzw];clear hzw z)|(go_at_call 155;refine(z81 (floatOfInt .f64 n) _).mono ?_;rintro e z ⟨rfl,hb⟩;have HBZ:=I hb;have HRZ:=I (HST.o.wb.keep (hb.block _ (HST.o.wb.lt)));clear hb)|((with_reducible refine zf 52 _ _ rfl rfl ?_ (w.heap.size+1) zV6 (valC 3 0 (zl (floatOfInt .f64 n)) ⟨#[]⟩) HRZ.o ?_ ?_ ?_ ?_ ?_ ?_);(exact wA rfl);rfl;rfl;rfl;kernel_rfl;exact z00 _ _ _ _;intro Z2 hz hb;have HX:=I hz;have HXB:=I hb;clear hz hb))
    (try simp only[Exit.inBlock,Exit.then])
    refine bodyPost_ret (zi rfl Tryz.underlying52 rfl _ _ (w.heap.size+1) (valC 3 0 (zl (floatOfInt .f64 n)) ⟨#[]⟩) (by kernel_rfl) rfl HX.o.range) rfl ?_
    have hbel:=(HST.o.bel.trans (HBZ.o.mono HST.o.bel.size)).trans (HXB.o.below (B:=w.heap.size) (Nat.le_trans HST.o.bel.size HBZ.o.size) (by omega) (by omega))
    exact .ok HRES.o rfl (z60 _ _ _ (z3f (floatOfInt_wf .f64 n))) hbel
   ·rw[if_neg h] at hres
    have h1:(kv ==2)= false:=(by simpa using h)
    have HRES:=I hres.symm
    clear hres
    have x0:W.cell? ⟨px,o,none⟩= some (.int .i64 21):=(HST.o.bel.cell (p:=⟨px,o,none⟩) HPX.o).trans HX0.o
    have d0:W.cell? ⟨w.heap.size,0,none⟩= some (.int .i64 kv):=HST.o.wa.cells 0 rfl
    go_wp2_with ((go_at_call 115;refine(zA 6 _).mono ?_;rintro e z ⟨rfl,hzw⟩;rw[hzw];clear hzw z))
    exact⟨rfl,.no HRES.o rfl HST.o.bel⟩
  rw[if_neg k21] at hres
  by_cases k22:k= 22
  ·subst k22
   rw[if_pos rfl] at hres
   by_cases h:kv= 3
   ·subst h
    rw[if_pos rfl] at hres
    have HRES:=I hres.symm
    clear hres
    have x0:W.cell? ⟨px,o,none⟩= some (.int .i64 22):=(HST.o.bel.cell (p:=⟨px,o,none⟩) HPX.o).trans HX0.o
    have d0:W.cell? ⟨w.heap.size,0,none⟩= some (.int .i64 3):=HST.o.wa.cells 0 rfl
    have d2:W.cell? ⟨w.heap.size,2,none⟩= some (.float .f64 f):=HST.o.wa.cells 2 rfl
    go_wp2_with (first|(go_at_call 115;refine(zm 6 _).mono ?_;rintro e z ⟨rfl,hzw⟩;rw[hzw];clear hzw z)|(go_at_call 157;fail))
    refine(zbQ f _).mono ?_
    rintro e z ⟨⟨m,hm,rfl⟩|⟨hm,rfl⟩,hb⟩
    ·rw[hm] at HRES
     have HBT:=I hb
     have HRT2:=I (HST.o.wb.keep (hb.block _ HST.o.wb.lt))
     have HWM:Hid (wfI m):=I (by
      unfold z1E at hm
      split at hm
      ·cases hm
      ·split at hm
       ·exact floatToIntVal_wf hm
       ·cases hm)
     clear hb hm
     go_wp2_with (first|(go_at_call 115;refine(zm 0 _).mono ?_;rintro e z ⟨rfl,hzw⟩;rw[hzw];clear hzw z)|(go_at_call 158;refine(z1v m _).mono ?_;rintro e z ⟨rfl,hb⟩;have HBZ:=I hb;have HRZ:=I (HRT2.o.keep (hb.block _ (HRT2.o.lt)));clear hb)|((with_reducible refine zf 52 _ _ rfl rfl ?_ (w.heap.size+1) zV6 (valC 2 m 0 ⟨#[]⟩) HRZ.o ?_ ?_ ?_ ?_ ?_ ?_);(exact wA rfl);rfl;rfl;rfl;kernel_rfl;exact z00 _ _ _ _;intro Z2 hz hb;have HX:=I hz;have HXB:=I hb;clear hz hb))
     (try simp only[Exit.inBlock,Exit.then])
     refine bodyPost_ret (zi rfl Tryz.underlying52 rfl _ _ (w.heap.size+1) (valC 2 m 0 ⟨#[]⟩) (by kernel_rfl) rfl HX.o.range) rfl ?_
     have hbel:=(HST.o.bel.trans ((HBT.o.trans (HBZ.o.mono HBT.o.size)).mono HST.o.bel.size)).trans (HXB.o.below (B:=w.heap.size) (Nat.le_trans HST.o.bel.size (HBT.o.trans (HBZ.o.mono HBT.o.size)).size) (by omega) (by omega))
     exact .ok HRES.o rfl (z2l _ _ m HWM.o) hbel
    ·rw[hm] at HRES
     have HBT:=I hb
     clear hb hm
     go_wp2_with ((go_at_call 115;refine(zA 3 _).mono ?_;rintro e z ⟨rfl,hzw⟩;rw[hzw];clear hzw z))
     exact⟨rfl,.no HRES.o rfl (HST.o.bel.trans (HBT.o.mono HST.o.bel.size))⟩
   ·rw[if_neg h] at hres
    have h1:(kv ==3)= false:=(by simpa using h)
    have HRES:=I hres.symm
    clear hres
    have x0:W.cell? ⟨px,o,none⟩= some (.int .i64 22):=(HST.o.bel.cell (p:=⟨px,o,none⟩) HPX.o).trans HX0.o
    have d0:W.cell? ⟨w.heap.size,0,none⟩= some (.int .i64 kv):=HST.o.wa.cells 0 rfl
    go_wp2_with ((go_at_call 115;refine(zA 6 _).mono ?_;rintro e z ⟨rfl,hzw⟩;rw[hzw];clear hzw z))
    exact⟨rfl,.no HRES.o rfl HST.o.bel⟩
  rw[if_neg k22] at hres
  by_cases k23:k= 23
  ·subst k23
   rw[if_pos rfl] at hres
   by_cases h:kv= 4
   ·subst h
    rw[if_pos rfl] at hres
    have HRES:=I hres.symm
    clear hres
    have x0:W.cell? ⟨px,o,none⟩= some (.int .i64 23):=(HST.o.bel.cell (p:=⟨px,o,none⟩) HPX.o).trans HX0.o
    have d0:W.cell? ⟨w.heap.size,0,none⟩= some (.int .i64 4):=HST.o.wa.cells 0 rfl
    have HRW:=I HST.o.wb
    have HONE:=I (zo HVW.o).2
    go_wp2_with (first|(go_at_call 115;refine(zm 6 _).mono ?_;rintro e z ⟨rfl,hzw⟩;rw[hzw];clear hzw z)|((with_reducible refine za 52 _ rfl ?_ w.heap.size 0 [.int .i64 4,.int .i64 n,.float .f64 f,.string sv,.slice NA ns.length nc,.slice A its.length c] _ rfl HST.o.wa.range Tryz.underlying52 rfl ?_ ?_);(exact wA rfl);kernel_rfl)|((with_reducible refine zf 52 _ _ rfl rfl ?_ (w.heap.size+1) zV6 ([.int .i64 4,.int .i64 n,.float .f64 f,.string sv,.slice NA ns.length nc,.slice A its.length c]) HRW.o ?_ ?_ ?_ ?_ ?_ ?_);(exact wA rfl);rfl;rfl;rfl;kernel_rfl;exact HONE.o;intro Z2 hz hb;have HX:=I hz;have HXB:=I hb;clear hz hb))
    (try simp only[Exit.inBlock,Exit.then])
    refine bodyPost_ret (zi rfl Tryz.underlying52 rfl _ _ (w.heap.size+1) ([.int .i64 4,.int .i64 n,.float .f64 f,.string sv,.slice NA ns.length nc,.slice A its.length c]) (by kernel_rfl) rfl HX.o.range) rfl ?_
    have hbel:=HST.o.bel.trans (HXB.o.below (B:=w.heap.size) HST.o.bel.size (by omega) (by omega))
    exact .ok HRES.o rfl (HV.o.grow hbel) hbel
   ·rw[if_neg h] at hres
    by_cases h2:kv= 1\/kv= 2\/kv= 3
    ·rw[if_pos h2] at hres
     have h1:(decide (1<=kv) && decide (kv<=4))= true:=(by simp;omega)
     have h4:(kv !=4)= true:=(by simpa using h)
     have h4': ¬ kv= 4:=h
     have HRES:=I hres.symm
     clear hres
     have x0:W.cell? ⟨px,o,none⟩= some (.int .i64 23):=(HST.o.bel.cell (p:=⟨px,o,none⟩) HPX.o).trans HX0.o
     have d0:W.cell? ⟨w.heap.size,0,none⟩= some (.int .i64 kv):=HST.o.wa.cells 0 rfl
     have hrt:z5D (.mk kv n f sv ns its)= true:=HRT.o
     have HVA:=I ((HVW.o.under HST.o.bel).more HST.o.bel.size)
     have HTX:=I (zdE (.mk kv n f sv ns its) _ W (HTB.o.next HST.o.bel) HVA.o)
     rw[hrt,if_pos rfl] at HTX
     have HTL:Hid ((⟨(textV (.mk kv n f sv ns its)).toArray⟩:ByteArray).size<=maxLen):=I (by
      have h5:kv= 1\/kv= 2\/kv= 3:=by simp only[Bool.and_eq_true,decide_eq_true_eq] at h1;omega
      have hw:=HWF.o.1
      unfold wfI Lit.wf at hw
      simp only[Bool.and_eq_true,decide_eq_true_eq] at hw
      have:=z5i (k:=kv) (n:=n) (f:=f) (s:=sv) (ns:=ns) (its:=its) hw h5
      show(textV _).toArray.size<=maxLen
      rw[List.size_toArray];unfold maxLen;omega)
     obtain⟨h2,h3⟩:1<=kv/\kv<=4:=by simpa using h1
     obtain⟨tx,htx⟩:∃ tx:ByteArray,(⟨(textV (.mk kv n f sv ns its)).toArray⟩:ByteArray)= tx:=⟨_,rfl⟩
     rw[htx] at HTX HTL HRES
     clear hrt htx h1
     go_upto_region 22 with (first|(go_at_call 115;refine(zm 6 _).mono ?_;rintro e z ⟨rfl,hzw⟩;rw[hzw];clear hzw z)|((with_reducible refine za 52 _ rfl ?_ w.heap.size 0 [.int .i64 kv,.int .i64 n,.float .f64 f,.string sv,.slice NA ns.length nc,.slice A its.length c] _ rfl HST.o.wa.range Tryz.underlying52 rfl ?_ ?_);(exact wA rfl);kernel_rfl)|(go_at_call 159;refine HTX.o.mono ?_;rintro e z ⟨rfl,hb⟩;have HBT:=I hb;have HRT2:=I (HST.o.wb.keep (hb.block _ HST.o.wb.lt));clear hb))
     go_wp2_with (first|(go_at_call 160;refine(zcS tx _).mono ?_;rintro e z ⟨rfl,hb⟩;have HBZ:=I hb;have HRZ:=I (HRT2.o.keep (hb.block _ (HRT2.o.lt)));clear hb)|((with_reducible refine zf 52 _ _ rfl rfl ?_ (w.heap.size+1) zV6 (valC 4 0 0 tx) HRZ.o ?_ ?_ ?_ ?_ ?_ ?_);(exact wA rfl);rfl;rfl;rfl;kernel_rfl;exact z00 _ _ _ _;intro Z2 hz hb;have HX:=I hz;have HXB:=I hb;clear hz hb))
     (try simp only[Exit.inBlock,Exit.then])
     refine bodyPost_ret (zi rfl Tryz.underlying52 rfl _ _ (w.heap.size+1) (valC 4 0 0 tx) (by kernel_rfl) rfl HX.o.range) rfl ?_
     have hbel:=(HST.o.bel.trans ((HBT.o.trans (HBZ.o.mono HBT.o.size)).mono HST.o.bel.size)).trans (HXB.o.below (B:=w.heap.size) (Nat.le_trans HST.o.bel.size (HBT.o.trans (HBZ.o.mono HBT.o.size)).size) (by omega) (by omega))
     exact .ok HRES.o rfl (zet _ _ tx HTL.o) hbel
    ·rw[if_neg h2] at hres
     have h1:(decide (1<=kv) && decide (kv<=4))= false:=(by by_cases h5:1<=kv;(simp;omega);(simp;omega))
     have HRES:=I hres.symm
     clear hres
     have x0:W.cell? ⟨px,o,none⟩= some (.int .i64 23):=(HST.o.bel.cell (p:=⟨px,o,none⟩) HPX.o).trans HX0.o
     have d0:W.cell? ⟨w.heap.size,0,none⟩= some (.int .i64 kv):=HST.o.wa.cells 0 rfl
     by_cases h2:1<=kv
     ·have h3: ¬ kv<=4:=by simpa [h2] using h1
      go_wp2_with ((go_at_call 115;refine(zA 6 _).mono ?_;rintro e z ⟨rfl,hzw⟩;rw[hzw];clear hzw z))
      exact⟨rfl,.no HRES.o rfl HST.o.bel⟩
     ·go_wp2_with ((go_at_call 115;refine(zA 6 _).mono ?_;rintro e z ⟨rfl,hzw⟩;rw[hzw];clear hzw z))
      exact⟨rfl,.no HRES.o rfl HST.o.bel⟩
  rw[if_neg k23] at hres
  by_cases k20:k= 20
  ·subst k20
   rw[if_pos rfl] at hres
   by_cases h:kv= 5
   ·subst h
    rw[if_pos (Or.inl rfl)] at hres
    have HRES:=I hres.symm
    clear hres
    have x0:W.cell? ⟨px,o,none⟩= some (.int .i64 20):=(HST.o.bel.cell (p:=⟨px,o,none⟩) HPX.o).trans HX0.o
    have d0:W.cell? ⟨w.heap.size,0,none⟩= some (.int .i64 5):=HST.o.wa.cells 0 rfl
    have d3:W.cell? ⟨w.heap.size,3,none⟩= some (.string sv):=HST.o.wa.cells 3 rfl
    have d5:W.cell? ⟨w.heap.size,5,none⟩= some (.slice A its.length c):=HST.o.wa.cells 5 rfl
    have HLI:=I HIL.o
    have hlen:(its.length:Int)+ (sv.size:Int)<=9000000000000000000:=by have h1:=(z0a HRT.o).1;have h2:=z0n HRT.o;omega
    have hw1:IntKind.i64.wrap ((its.length:Int)+ (sv.size:Int))=(its.length:Int)+ (sv.size:Int):=by rw[IntKind.wrap_i64];omega
    have hw2:wrap64 ((its.length:Int)+ (sv.size:Int))=(its.length:Int)+ (sv.size:Int):=by unfold wrap64;omega
    have HWM:Hid (wfI ((its.length:Int)+ (sv.size:Int))):=I (z0b (by omega))
    obtain⟨m,hm⟩:∃ m,(its.length:Int)+ (sv.size:Int)= m:=⟨_,rfl⟩
    rw[hm] at HWM HRES hw1 hw2
    clear hlen
    go_wp2_with (first|(go_at_call 115;refine(zm 6 _).mono ?_;rintro e z ⟨rfl,hzw⟩;rw[hzw];clear hzw z)|(rw[hm];(go_at_call 158;refine(z1v m _).mono ?_;rintro e z ⟨rfl,hb⟩;have HBZ:=I hb;have HRZ:=I (HST.o.wb.keep (hb.block _ (HST.o.wb.lt)));clear hb))|(go_at_call 158;refine(z1v m _).mono ?_;rintro e z ⟨rfl,hb⟩;have HBZ:=I hb;have HRZ:=I (HST.o.wb.keep (hb.block _ (HST.o.wb.lt)));clear hb)|((with_reducible refine zf 52 _ _ rfl rfl ?_ (w.heap.size+1) zV6 (valC 2 m 0 ⟨#[]⟩) HRZ.o ?_ ?_ ?_ ?_ ?_ ?_);(exact wA rfl);rfl;rfl;rfl;kernel_rfl;exact z00 _ _ _ _;intro Z2 hz hb;have HX:=I hz;have HXB:=I hb;clear hz hb))
    (try simp only[Exit.inBlock,Exit.then])
    refine bodyPost_ret (zi rfl Tryz.underlying52 rfl _ _ (w.heap.size+1) (valC 2 m 0 ⟨#[]⟩) (by kernel_rfl) rfl HX.o.range) rfl ?_
    have hbel:=(HST.o.bel.trans (HBZ.o.mono HST.o.bel.size)).trans (HXB.o.below (B:=w.heap.size) (Nat.le_trans HST.o.bel.size HBZ.o.size) (by omega) (by omega))
    exact .ok HRES.o rfl (z2l _ _ m HWM.o) hbel
   ·by_cases h2:kv= 4
    ·subst h2
     rw[if_pos (Or.inr rfl)] at hres
     have HRES:=I hres.symm
     clear hres
     have x0:W.cell? ⟨px,o,none⟩= some (.int .i64 20):=(HST.o.bel.cell (p:=⟨px,o,none⟩) HPX.o).trans HX0.o
     have d0:W.cell? ⟨w.heap.size,0,none⟩= some (.int .i64 4):=HST.o.wa.cells 0 rfl
     have d3:W.cell? ⟨w.heap.size,3,none⟩= some (.string sv):=HST.o.wa.cells 3 rfl
     have d5:W.cell? ⟨w.heap.size,5,none⟩= some (.slice A its.length c):=HST.o.wa.cells 5 rfl
     have HLI:=I HIL.o
     have hlen:(its.length:Int)+ (sv.size:Int)<=9000000000000000000:=by have h1:=(z0a HRT.o).1;have h2:=z0n HRT.o;omega
     have hw1:IntKind.i64.wrap ((its.length:Int)+ (sv.size:Int))=(its.length:Int)+ (sv.size:Int):=by rw[IntKind.wrap_i64];omega
     have hw2:wrap64 ((its.length:Int)+ (sv.size:Int))=(its.length:Int)+ (sv.size:Int):=by unfold wrap64;omega
     have HWM:Hid (wfI ((its.length:Int)+ (sv.size:Int))):=I (z0b (by omega))
     obtain⟨m,hm⟩:∃ m,(its.length:Int)+ (sv.size:Int)= m:=⟨_,rfl⟩
     rw[hm] at HWM HRES hw1 hw2
     clear hlen
     go_wp2_with (first|(go_at_call 115;refine(zm 6 _).mono ?_;rintro e z ⟨rfl,hzw⟩;rw[hzw];clear hzw z)|(rw[hm];(go_at_call 158;refine(z1v m _).mono ?_;rintro e z ⟨rfl,hb⟩;have HBZ:=I hb;have HRZ:=I (HST.o.wb.keep (hb.block _ (HST.o.wb.lt)));clear hb))|(go_at_call 158;refine(z1v m _).mono ?_;rintro e z ⟨rfl,hb⟩;have HBZ:=I hb;have HRZ:=I (HST.o.wb.keep (hb.block _ (HST.o.wb.lt)));clear hb)|((with_reducible refine zf 52 _ _ rfl rfl ?_ (w.heap.size+1) zV6 (valC 2 m 0 ⟨#[]⟩) HRZ.o ?_ ?_ ?_ ?_ ?_ ?_);(exact wA rfl);rfl;rfl;rfl;kernel_rfl;exact z00 _ _ _ _;intro Z2 hz hb;have HX:=I hz;have HXB:=I hb;clear hz hb))
     (try simp only[Exit.inBlock,Exit.then])
     refine bodyPost_ret (zi rfl Tryz.underlying52 rfl _ _ (w.heap.size+1) (valC 2 m 0 ⟨#[]⟩) (by kernel_rfl) rfl HX.o.range) rfl ?_
     have hbel:=(HST.o.bel.trans (HBZ.o.mono HST.o.bel.size)).trans (HXB.o.below (B:=w.heap.size) (Nat.le_trans HST.o.bel.size HBZ.o.size) (by omega) (by omega))
     exact .ok HRES.o rfl (z2l _ _ m HWM.o) hbel
    ·rw[if_neg (by omega)] at hres
     have h1:(kv ==5)= false:=(by simpa using h)
     have h2:(kv ==4)= false:=(by simpa using h2)
     have HRES:=I hres.symm
     clear hres
     have x0:W.cell? ⟨px,o,none⟩= some (.int .i64 20):=(HST.o.bel.cell (p:=⟨px,o,none⟩) HPX.o).trans HX0.o
     have d0:W.cell? ⟨w.heap.size,0,none⟩= some (.int .i64 kv):=HST.o.wa.cells 0 rfl
     go_wp2_with ((go_at_call 115;refine(zA 6 _).mono ?_;rintro e z ⟨rfl,hzw⟩;rw[hzw];clear hzw z))
     exact⟨rfl,.no HRES.o rfl HST.o.bel⟩
  rw[if_neg k20] at hres
  have e18:(k ==18)= false:=by simpa using k18
  have e4:(k ==4)= false:=by simpa using k4
  have e21:(k ==21)= false:=by simpa using k21
  have e22:(k ==22)= false:=by simpa using k22
  have e23:(k ==23)= false:=by simpa using k23
  have e20:(k ==20)= false:=by simpa using k20
  by_cases h3:kv= 3
  ·subst h3
   rw[if_pos rfl] at hres
   have HRES:=I hres.symm
   clear hres
   have x0:W.cell? ⟨px,o,none⟩= some (.int .i64 k):=(HST.o.bel.cell (p:=⟨px,o,none⟩) HPX.o).trans HX0.o
   have d0:W.cell? ⟨w.heap.size,0,none⟩= some (.int .i64 3):=HST.o.wa.cells 0 rfl
   have d2:W.cell? ⟨w.heap.size,2,none⟩= some (.float .f64 f):=HST.o.wa.cells 2 rfl
   have HNG:=I (fun w=>zd6 f w)
   go_wp2_with (first|(go_at_call 115;refine(zm 6 _).mono ?_;rintro e z ⟨rfl,hzw⟩;rw[hzw];clear hzw z)|(go_at_call 161;refine(HNG.o _).mono ?_;rintro e z ⟨rfl,hzw⟩;rw[hzw];clear hzw z)|(go_at_call 155;refine(z81 (zl (unV.fNeg f)) _).mono ?_;rintro e z ⟨rfl,hb⟩;have HBZ:=I hb;have HRZ:=I (HST.o.wb.keep (hb.block _ (HST.o.wb.lt)));clear hb)|((with_reducible refine zf 52 _ _ rfl rfl ?_ (w.heap.size+1) zV6 (valC 3 0 (zl (zl (unV.fNeg f))) ⟨#[]⟩) HRZ.o ?_ ?_ ?_ ?_ ?_ ?_);(exact wA rfl);rfl;rfl;rfl;kernel_rfl;exact z00 _ _ _ _;intro Z2 hz hb;have HX:=I hz;have HXB:=I hb;clear hz hb))
   (try simp only[Exit.inBlock,Exit.then])
   refine bodyPost_ret (zi rfl Tryz.underlying52 rfl _ _ (w.heap.size+1) (valC 3 0 (zl (zl (unV.fNeg f))) ⟨#[]⟩) (by kernel_rfl) rfl HX.o.range) rfl ?_
   have hbel:=(HST.o.bel.trans (HBZ.o.mono HST.o.bel.size)).trans (HXB.o.below (B:=w.heap.size) (Nat.le_trans HST.o.bel.size HBZ.o.size) (by omega) (by omega))
   exact .ok HRES.o rfl (by rw[z4s];exact z60 _ _ _ (z3f (zfw HWF.o.2.1))) hbel
  rw[if_neg h3] at hres
  by_cases h2:kv= 2
  ·subst h2
   rw[if_pos rfl] at hres
   by_cases hn:n= -9223372036854775808
   ·rw[if_pos hn] at hres
    have hne:Hid (n= -9223372036854775808):=(I hn)
    clear hn
    have HRES:=I hres.symm
    clear hres
    have x0:W.cell? ⟨px,o,none⟩= some (.int .i64 k):=(HST.o.bel.cell (p:=⟨px,o,none⟩) HPX.o).trans HX0.o
    have d0:W.cell? ⟨w.heap.size,0,none⟩= some (.int .i64 2):=HST.o.wa.cells 0 rfl
    have d1:W.cell? ⟨w.heap.size,1,none⟩= some (.int .i64 n):=HST.o.wa.cells 1 rfl
    have hw1:IntKind.i64.wrap (-n)= n:=by rw[IntKind.wrap_i64];have:=hne.o;omega
    have hw2:wrap64 (-n)= n:=by unfold wrap64;have:=hne.o;omega
    have hz1:(n ==0)= false:=by have:=hne.o;simp;omega
    have hz2: ¬ n= 0:=by have:=hne.o;omega
    clear hne
    go_wp2_with (first|(go_at_call 115;refine(zm 6 _).mono ?_;rintro e z ⟨rfl,hzw⟩;rw[hzw];clear hzw z)|(go_at_call 115;refine(zA 7 _).mono ?_;rintro e z ⟨rfl,hzw⟩;rw[hzw];clear hzw z))
    exact⟨rfl,.no HRES.o rfl HST.o.bel⟩
   ·rw[if_neg hn] at hres
    have hne: ¬ n= -9223372036854775808:=hn
    have HRES:=I hres.symm
    clear hres
    have x0:W.cell? ⟨px,o,none⟩= some (.int .i64 k):=(HST.o.bel.cell (p:=⟨px,o,none⟩) HPX.o).trans HX0.o
    have d0:W.cell? ⟨w.heap.size,0,none⟩= some (.int .i64 2):=HST.o.wa.cells 0 rfl
    have d1:W.cell? ⟨w.heap.size,1,none⟩= some (.int .i64 n):=HST.o.wa.cells 1 rfl
    have hw0:=HWF.o.1
    unfold wfI Lit.wf at hw0
    simp only[Bool.and_eq_true,decide_eq_true_eq] at hw0
    have hmi:IntKind.i64.min= -9223372036854775808:=rfl
    have hma:IntKind.i64.max= 9223372036854775807:=rfl
    rw[hmi,hma] at hw0
    have hw1:IntKind.i64.wrap (-n)= -n:=by rw[IntKind.wrap_i64];omega
    have hw2:wrap64 (-n)= -n:=by unfold wrap64;omega
    have HWM:Hid (wfI (-n)):=I (z0b (by omega))
    clear hw0 hmi hma hne
    by_cases h0:n= 0
    ·subst h0
     go_wp2_with (first|(go_at_call 115;refine(zm 6 _).mono ?_;rintro e z ⟨rfl,hzw⟩;rw[hzw];clear hzw z)|(go_at_call 115;refine(zm 7 _).mono ?_;rintro e z ⟨rfl,hzw⟩;rw[hzw];clear hzw z)|(go_at_call 158;refine(z1v 0 _).mono ?_;rintro e z ⟨rfl,hb⟩;have HBZ:=I hb;have HRZ:=I (HST.o.wb.keep (hb.block _ (HST.o.wb.lt)));clear hb)|((with_reducible refine zf 52 _ _ rfl rfl ?_ (w.heap.size+1) zV6 (valC 2 0 0 ⟨#[]⟩) HRZ.o ?_ ?_ ?_ ?_ ?_ ?_);(exact wA rfl);rfl;rfl;rfl;kernel_rfl;exact z00 _ _ _ _;intro Z2 hz hb;have HX:=I hz;have HXB:=I hb;clear hz hb))
     (try simp only[Exit.inBlock,Exit.then])
     refine bodyPost_ret (zi rfl Tryz.underlying52 rfl _ _ (w.heap.size+1) (valC 2 0 0 ⟨#[]⟩) (by kernel_rfl) rfl HX.o.range) rfl ?_
     have hbel:=(HST.o.bel.trans (HBZ.o.mono HST.o.bel.size)).trans (HXB.o.below (B:=w.heap.size) (Nat.le_trans HST.o.bel.size HBZ.o.size) (by omega) (by omega))
     exact .ok HRES.o rfl (z2l _ _ 0 (z0b (by omega))) hbel
    ·have hnn:(n != -n)= true:=by simp;omega
     have hnn2: ¬ n= -n:=by omega
     go_wp2_with (first|(go_at_call 115;refine(zm 6 _).mono ?_;rintro e z ⟨rfl,hzw⟩;rw[hzw];clear hzw z)|(go_at_call 115;refine(zm 7 _).mono ?_;rintro e z ⟨rfl,hzw⟩;rw[hzw];clear hzw z)|(go_at_call 158;refine(z1v (-n) _).mono ?_;rintro e z ⟨rfl,hb⟩;have HBZ:=I hb;have HRZ:=I (HST.o.wb.keep (hb.block _ (HST.o.wb.lt)));clear hb)|((with_reducible refine zf 52 _ _ rfl rfl ?_ (w.heap.size+1) zV6 (valC 2 (-n) 0 ⟨#[]⟩) HRZ.o ?_ ?_ ?_ ?_ ?_ ?_);(exact wA rfl);rfl;rfl;rfl;kernel_rfl;exact z00 _ _ _ _;intro Z2 hz hb;have HX:=I hz;have HXB:=I hb;clear hz hb))
     (try simp only[Exit.inBlock,Exit.then])
     refine bodyPost_ret (zi rfl Tryz.underlying52 rfl _ _ (w.heap.size+1) (valC 2 (-n) 0 ⟨#[]⟩) (by kernel_rfl) rfl HX.o.range) rfl ?_
     have hbel:=(HST.o.bel.trans (HBZ.o.mono HST.o.bel.size)).trans (HXB.o.below (B:=w.heap.size) (Nat.le_trans HST.o.bel.size HBZ.o.size) (by omega) (by omega))
     exact .ok HRES.o rfl (z2l _ _ _ HWM.o) hbel
  ·rw[if_neg h2] at hres
   have h1:(kv ==3)= false:=(by simpa using h3)
   have h2:(kv ==2)= false:=(by simpa using h2)
   have HRES:=I hres.symm
   clear hres
   have x0:W.cell? ⟨px,o,none⟩= some (.int .i64 k):=(HST.o.bel.cell (p:=⟨px,o,none⟩) HPX.o).trans HX0.o
   have d0:W.cell? ⟨w.heap.size,0,none⟩= some (.int .i64 kv):=HST.o.wa.cells 0 rfl
   go_wp2_with ((go_at_call 115;refine(zA 6 _).mono ?_;rintro e z ⟨rfl,hzw⟩;rw[hzw];clear hzw z))
   exact⟨rfl,.no HRES.o rfl HST.o.bel⟩
end
section
open Go Go.RowKit
theorem z6s (a:Int) (ha: -9223372036854775808<=a/\a<=9223372036854775807) (w:World):Calls Tryz.prog 198 #[.int .i64 a] w fun e w'=>e= .returned (.int .u64 ((a.natAbs:Nat):Int))/\w'= w:=by
 by_cases h:a < 0
 ·have e1:IntKind.u64.wrap (-(IntKind.u64.wrap a))=((a.natAbs:Nat):Int):=by rw[IntKind.wrap_u64,IntKind.wrap_u64];omega
  go_enter Tryz.func198,Tryz.ntmps198
  go_wp2
  go_ret
  exact⟨by first|rw[e1]|rfl,rfl⟩
 ·have e1:IntKind.u64.wrap a=((a.natAbs:Nat):Int):=by rw[IntKind.wrap_u64];omega
  go_enter Tryz.func198,Tryz.ntmps198
  go_wp2
  go_ret
  exact⟨by first|rw[e1]|rfl,rfl⟩
def IntPost (r:Except Int Int) (w:World) (e:Ending) (w':World):Prop:=((∃ n,r= .ok n/\e= .returned (.int .i64 n))\/(∃ c,r= .error c/\e= panE c))/\w'= w
theorem IntPost.ok {n:Int} {w:World} {e:Ending} {w':World} {r:Except Int Int} (hr:r= .ok n) (he:e= .returned (.int .i64 n)) (hw:w'= w):IntPost r w e w':=⟨.inl ⟨n,hr,he⟩,hw⟩
theorem IntPost.no {c:Int} {w:World} {e:Ending} {w':World} {r:Except Int Int} (hr:r= .error c) (he:e= panE c) (hw:w'= w):IntPost r w e w':=⟨.inr ⟨c,hr,he⟩,hw⟩
theorem zc9 (a b X Y q r R:Int) (sa:decide (a < 0)= true) (sb:decide (b < 0)= true) (HS1:Hid (∀ w:World,Calls Tryz.prog 198 #[.int .i64 a] w fun e w'=>e= .returned (.int .u64 X)/\w'= w)) (HS2:Hid (∀ w:World,Calls Tryz.prog 198 #[.int .i64 b] w fun e w'=>e= .returned (.int .u64 Y)/\w'= w))
  (HM:Hid (∀ w:World,Calls Tryz.prog 197 #[.int .u64 X,.int .u64 Y] w fun e w'=>e= .returned (.tuple #[.int .u64 q,.int .u64 r])/\w'= w)) (hq:q= 0) (hr:decide (r<=9223372036854775807)= true) (e3:IntKind.i64.wrap r= R) (w:World):
  Calls Tryz.prog 179 #[.int .i64 a,.int .i64 b] w fun e w'=>e= .returned (.int .i64 R)/\w'= w:=by
 subst hq
 have hm:IntKind.u64.wrap (9223372036854775808 - 1)= 9223372036854775807:=by rw[IntKind.wrap_u64];omega
 go_enter Tryz.func179,Tryz.ntmps179
 go_wp2_with (first|(go_at_call 198;first|((with_reducible refine(HS1.o _).mono ?_);rintro e z ⟨rfl,hzw⟩;rw[hzw];clear hzw z)|((with_reducible refine(HS2.o _).mono ?_);rintro e z ⟨rfl,hzw⟩;rw[hzw];clear hzw z))|(go_at_call 197;refine(HM.o _).mono ?_;rintro e z ⟨rfl,hzw⟩;rw[hzw];clear hzw z)|(go_at_call 115;refine(zm 7 _).mono ?_;rintro e z ⟨rfl,hzw⟩;rw[hzw];clear hzw z))
 go_ret
 exact⟨by first|rfl|rw[e3]|simp[e3],rfl⟩
theorem zcz (a b X Y q r:Int) (sa:decide (a < 0)= true) (sb:decide (b < 0)= true) (HS1:Hid (∀ w:World,Calls Tryz.prog 198 #[.int .i64 a] w fun e w'=>e= .returned (.int .u64 X)/\w'= w)) (HS2:Hid (∀ w:World,Calls Tryz.prog 198 #[.int .i64 b] w fun e w'=>e= .returned (.int .u64 Y)/\w'= w))
  (HM:Hid (∀ w:World,Calls Tryz.prog 197 #[.int .u64 X,.int .u64 Y] w fun e w'=>e= .returned (.tuple #[.int .u64 q,.int .u64 r])/\w'= w)) (hq:q= 0) (hr:decide (r<=9223372036854775807)= false) (w:World):
  Calls Tryz.prog 179 #[.int .i64 a,.int .i64 b] w fun e w'=>e= panE 7/\w'= w:=by
 subst hq
 have hm:IntKind.u64.wrap (9223372036854775808 - 1)= 9223372036854775807:=by rw[IntKind.wrap_u64];omega
 go_enter Tryz.func179,Tryz.ntmps179
 go_wp2_with (first|(go_at_call 198;first|((with_reducible refine(HS1.o _).mono ?_);rintro e z ⟨rfl,hzw⟩;rw[hzw];clear hzw z)|((with_reducible refine(HS2.o _).mono ?_);rintro e z ⟨rfl,hzw⟩;rw[hzw];clear hzw z))|(go_at_call 197;refine(HM.o _).mono ?_;rintro e z ⟨rfl,hzw⟩;rw[hzw];clear hzw z)|(go_at_call 115;refine(zA 7 _).mono ?_;rintro e z ⟨rfl,hzw⟩;rw[hzw];clear hzw z))
 exact⟨rfl,rfl,rfl⟩
theorem zcv (a b X Y q r:Int) (sa:decide (a < 0)= true) (sb:decide (b < 0)= true) (HS1:Hid (∀ w:World,Calls Tryz.prog 198 #[.int .i64 a] w fun e w'=>e= .returned (.int .u64 X)/\w'= w)) (HS2:Hid (∀ w:World,Calls Tryz.prog 198 #[.int .i64 b] w fun e w'=>e= .returned (.int .u64 Y)/\w'= w))
  (HM:Hid (∀ w:World,Calls Tryz.prog 197 #[.int .u64 X,.int .u64 Y] w fun e w'=>e= .returned (.tuple #[.int .u64 q,.int .u64 r])/\w'= w)) (hq:(q ==0)= false) (w:World):
  Calls Tryz.prog 179 #[.int .i64 a,.int .i64 b] w fun e w'=>e= panE 7/\w'= w:=by
 have hm:IntKind.u64.wrap (9223372036854775808 - 1)= 9223372036854775807:=by rw[IntKind.wrap_u64];omega
 go_enter Tryz.func179,Tryz.ntmps179
 go_wp2_with (first|(go_at_call 198;first|((with_reducible refine(HS1.o _).mono ?_);rintro e z ⟨rfl,hzw⟩;rw[hzw];clear hzw z)|((with_reducible refine(HS2.o _).mono ?_);rintro e z ⟨rfl,hzw⟩;rw[hzw];clear hzw z))|(go_at_call 197;refine(HM.o _).mono ?_;rintro e z ⟨rfl,hzw⟩;rw[hzw];clear hzw z)|(go_at_call 115;refine(zA 7 _).mono ?_;rintro e z ⟨rfl,hzw⟩;rw[hzw];clear hzw z))
 exact⟨rfl,rfl,rfl⟩
theorem zci (a b X Y q r R:Int) (sa:decide (a < 0)= true) (sb:decide (b < 0)= false) (HS1:Hid (∀ w:World,Calls Tryz.prog 198 #[.int .i64 a] w fun e w'=>e= .returned (.int .u64 X)/\w'= w)) (HS2:Hid (∀ w:World,Calls Tryz.prog 198 #[.int .i64 b] w fun e w'=>e= .returned (.int .u64 Y)/\w'= w))
  (HM:Hid (∀ w:World,Calls Tryz.prog 197 #[.int .u64 X,.int .u64 Y] w fun e w'=>e= .returned (.tuple #[.int .u64 q,.int .u64 r])/\w'= w)) (hq:q= 0) (hr:decide (r<=9223372036854775808)= true) (e3:IntKind.i64.wrap (IntKind.u64.wrap (-r))= R) (w:World):
  Calls Tryz.prog 179 #[.int .i64 a,.int .i64 b] w fun e w'=>e= .returned (.int .i64 R)/\w'= w:=by
 subst hq
 have hm:IntKind.u64.wrap (9223372036854775808 - 1)= 9223372036854775807:=by rw[IntKind.wrap_u64];omega
 go_enter Tryz.func179,Tryz.ntmps179
 go_wp2_with (first|(go_at_call 198;first|((with_reducible refine(HS1.o _).mono ?_);rintro e z ⟨rfl,hzw⟩;rw[hzw];clear hzw z)|((with_reducible refine(HS2.o _).mono ?_);rintro e z ⟨rfl,hzw⟩;rw[hzw];clear hzw z))|(go_at_call 197;refine(HM.o _).mono ?_;rintro e z ⟨rfl,hzw⟩;rw[hzw];clear hzw z)|(go_at_call 115;refine(zm 7 _).mono ?_;rintro e z ⟨rfl,hzw⟩;rw[hzw];clear hzw z))
 go_ret
 exact⟨by first|rfl|rw[e3]|simp[e3],rfl⟩
theorem zcI (a b X Y q r:Int) (sa:decide (a < 0)= true) (sb:decide (b < 0)= false) (HS1:Hid (∀ w:World,Calls Tryz.prog 198 #[.int .i64 a] w fun e w'=>e= .returned (.int .u64 X)/\w'= w)) (HS2:Hid (∀ w:World,Calls Tryz.prog 198 #[.int .i64 b] w fun e w'=>e= .returned (.int .u64 Y)/\w'= w))
  (HM:Hid (∀ w:World,Calls Tryz.prog 197 #[.int .u64 X,.int .u64 Y] w fun e w'=>e= .returned (.tuple #[.int .u64 q,.int .u64 r])/\w'= w)) (hq:q= 0) (hr:decide (r<=9223372036854775808)= false) (w:World):
  Calls Tryz.prog 179 #[.int .i64 a,.int .i64 b] w fun e w'=>e= panE 7/\w'= w:=by
 subst hq
 have hm:IntKind.u64.wrap (9223372036854775808 - 1)= 9223372036854775807:=by rw[IntKind.wrap_u64];omega
 go_enter Tryz.func179,Tryz.ntmps179
 go_wp2_with (first|(go_at_call 198;first|((with_reducible refine(HS1.o _).mono ?_);rintro e z ⟨rfl,hzw⟩;rw[hzw];clear hzw z)|((with_reducible refine(HS2.o _).mono ?_);rintro e z ⟨rfl,hzw⟩;rw[hzw];clear hzw z))|(go_at_call 197;refine(HM.o _).mono ?_;rintro e z ⟨rfl,hzw⟩;rw[hzw];clear hzw z)|(go_at_call 115;refine(zA 7 _).mono ?_;rintro e z ⟨rfl,hzw⟩;rw[hzw];clear hzw z))
 exact⟨rfl,rfl,rfl⟩
theorem zbS (a b X Y q r:Int) (sa:decide (a < 0)= true) (sb:decide (b < 0)= false) (HS1:Hid (∀ w:World,Calls Tryz.prog 198 #[.int .i64 a] w fun e w'=>e= .returned (.int .u64 X)/\w'= w)) (HS2:Hid (∀ w:World,Calls Tryz.prog 198 #[.int .i64 b] w fun e w'=>e= .returned (.int .u64 Y)/\w'= w))
  (HM:Hid (∀ w:World,Calls Tryz.prog 197 #[.int .u64 X,.int .u64 Y] w fun e w'=>e= .returned (.tuple #[.int .u64 q,.int .u64 r])/\w'= w)) (hq:(q ==0)= false) (w:World):
  Calls Tryz.prog 179 #[.int .i64 a,.int .i64 b] w fun e w'=>e= panE 7/\w'= w:=by
 have hm:IntKind.u64.wrap (9223372036854775808 - 1)= 9223372036854775807:=by rw[IntKind.wrap_u64];omega
 go_enter Tryz.func179,Tryz.ntmps179
 go_wp2_with (first|(go_at_call 198;first|((with_reducible refine(HS1.o _).mono ?_);rintro e z ⟨rfl,hzw⟩;rw[hzw];clear hzw z)|((with_reducible refine(HS2.o _).mono ?_);rintro e z ⟨rfl,hzw⟩;rw[hzw];clear hzw z))|(go_at_call 197;refine(HM.o _).mono ?_;rintro e z ⟨rfl,hzw⟩;rw[hzw];clear hzw z)|(go_at_call 115;refine(zA 7 _).mono ?_;rintro e z ⟨rfl,hzw⟩;rw[hzw];clear hzw z))
 exact⟨rfl,rfl,rfl⟩
theorem zaJ (a b X Y q r R:Int) (sa:decide (a < 0)= false) (sb:decide (b < 0)= true) (HS1:Hid (∀ w:World,Calls Tryz.prog 198 #[.int .i64 a] w fun e w'=>e= .returned (.int .u64 X)/\w'= w)) (HS2:Hid (∀ w:World,Calls Tryz.prog 198 #[.int .i64 b] w fun e w'=>e= .returned (.int .u64 Y)/\w'= w))
  (HM:Hid (∀ w:World,Calls Tryz.prog 197 #[.int .u64 X,.int .u64 Y] w fun e w'=>e= .returned (.tuple #[.int .u64 q,.int .u64 r])/\w'= w)) (hq:q= 0) (hr:decide (r<=9223372036854775808)= true) (e3:IntKind.i64.wrap (IntKind.u64.wrap (-r))= R) (w:World):
  Calls Tryz.prog 179 #[.int .i64 a,.int .i64 b] w fun e w'=>e= .returned (.int .i64 R)/\w'= w:=by
 subst hq
 have hm:IntKind.u64.wrap (9223372036854775808 - 1)= 9223372036854775807:=by rw[IntKind.wrap_u64];omega
 go_enter Tryz.func179,Tryz.ntmps179
 go_wp2_with (first|(go_at_call 198;first|((with_reducible refine(HS1.o _).mono ?_);rintro e z ⟨rfl,hzw⟩;rw[hzw];clear hzw z)|((with_reducible refine(HS2.o _).mono ?_);rintro e z ⟨rfl,hzw⟩;rw[hzw];clear hzw z))|(go_at_call 197;refine(HM.o _).mono ?_;rintro e z ⟨rfl,hzw⟩;rw[hzw];clear hzw z)|(go_at_call 115;refine(zm 7 _).mono ?_;rintro e z ⟨rfl,hzw⟩;rw[hzw];clear hzw z))
 go_ret
 exact⟨by first|rfl|rw[e3]|simp[e3],rfl⟩
theorem zb7 (a b X Y q r:Int) (sa:decide (a < 0)= false) (sb:decide (b < 0)= true) (HS1:Hid (∀ w:World,Calls Tryz.prog 198 #[.int .i64 a] w fun e w'=>e= .returned (.int .u64 X)/\w'= w)) (HS2:Hid (∀ w:World,Calls Tryz.prog 198 #[.int .i64 b] w fun e w'=>e= .returned (.int .u64 Y)/\w'= w))
  (HM:Hid (∀ w:World,Calls Tryz.prog 197 #[.int .u64 X,.int .u64 Y] w fun e w'=>e= .returned (.tuple #[.int .u64 q,.int .u64 r])/\w'= w)) (hq:q= 0) (hr:decide (r<=9223372036854775808)= false) (w:World):
  Calls Tryz.prog 179 #[.int .i64 a,.int .i64 b] w fun e w'=>e= panE 7/\w'= w:=by
 subst hq
 have hm:IntKind.u64.wrap (9223372036854775808 - 1)= 9223372036854775807:=by rw[IntKind.wrap_u64];omega
 go_enter Tryz.func179,Tryz.ntmps179
 go_wp2_with (first|(go_at_call 198;first|((with_reducible refine(HS1.o _).mono ?_);rintro e z ⟨rfl,hzw⟩;rw[hzw];clear hzw z)|((with_reducible refine(HS2.o _).mono ?_);rintro e z ⟨rfl,hzw⟩;rw[hzw];clear hzw z))|(go_at_call 197;refine(HM.o _).mono ?_;rintro e z ⟨rfl,hzw⟩;rw[hzw];clear hzw z)|(go_at_call 115;refine(zA 7 _).mono ?_;rintro e z ⟨rfl,hzw⟩;rw[hzw];clear hzw z))
 exact⟨rfl,rfl,rfl⟩
theorem zc5 (a b X Y q r:Int) (sa:decide (a < 0)= false) (sb:decide (b < 0)= true) (HS1:Hid (∀ w:World,Calls Tryz.prog 198 #[.int .i64 a] w fun e w'=>e= .returned (.int .u64 X)/\w'= w)) (HS2:Hid (∀ w:World,Calls Tryz.prog 198 #[.int .i64 b] w fun e w'=>e= .returned (.int .u64 Y)/\w'= w))
  (HM:Hid (∀ w:World,Calls Tryz.prog 197 #[.int .u64 X,.int .u64 Y] w fun e w'=>e= .returned (.tuple #[.int .u64 q,.int .u64 r])/\w'= w)) (hq:(q ==0)= false) (w:World):
  Calls Tryz.prog 179 #[.int .i64 a,.int .i64 b] w fun e w'=>e= panE 7/\w'= w:=by
 have hm:IntKind.u64.wrap (9223372036854775808 - 1)= 9223372036854775807:=by rw[IntKind.wrap_u64];omega
 go_enter Tryz.func179,Tryz.ntmps179
 go_wp2_with (first|(go_at_call 198;first|((with_reducible refine(HS1.o _).mono ?_);rintro e z ⟨rfl,hzw⟩;rw[hzw];clear hzw z)|((with_reducible refine(HS2.o _).mono ?_);rintro e z ⟨rfl,hzw⟩;rw[hzw];clear hzw z))|(go_at_call 197;refine(HM.o _).mono ?_;rintro e z ⟨rfl,hzw⟩;rw[hzw];clear hzw z)|(go_at_call 115;refine(zA 7 _).mono ?_;rintro e z ⟨rfl,hzw⟩;rw[hzw];clear hzw z))
 exact⟨rfl,rfl,rfl⟩
theorem zbv (a b X Y q r R:Int) (sa:decide (a < 0)= false) (sb:decide (b < 0)= false) (HS1:Hid (∀ w:World,Calls Tryz.prog 198 #[.int .i64 a] w fun e w'=>e= .returned (.int .u64 X)/\w'= w)) (HS2:Hid (∀ w:World,Calls Tryz.prog 198 #[.int .i64 b] w fun e w'=>e= .returned (.int .u64 Y)/\w'= w))
  (HM:Hid (∀ w:World,Calls Tryz.prog 197 #[.int .u64 X,.int .u64 Y] w fun e w'=>e= .returned (.tuple #[.int .u64 q,.int .u64 r])/\w'= w)) (hq:q= 0) (hr:decide (r<=9223372036854775807)= true) (e3:IntKind.i64.wrap r= R) (w:World):
  Calls Tryz.prog 179 #[.int .i64 a,.int .i64 b] w fun e w'=>e= .returned (.int .i64 R)/\w'= w:=by
 subst hq
 have hm:IntKind.u64.wrap (9223372036854775808 - 1)= 9223372036854775807:=by rw[IntKind.wrap_u64];omega
 go_enter Tryz.func179,Tryz.ntmps179
 go_wp2_with (first|(go_at_call 198;first|((with_reducible refine(HS1.o _).mono ?_);rintro e z ⟨rfl,hzw⟩;rw[hzw];clear hzw z)|((with_reducible refine(HS2.o _).mono ?_);rintro e z ⟨rfl,hzw⟩;rw[hzw];clear hzw z))|(go_at_call 197;refine(HM.o _).mono ?_;rintro e z ⟨rfl,hzw⟩;rw[hzw];clear hzw z)|(go_at_call 115;refine(zm 7 _).mono ?_;rintro e z ⟨rfl,hzw⟩;rw[hzw];clear hzw z))
 go_ret
 exact⟨by first|rfl|rw[e3]|simp[e3],rfl⟩
theorem zb5 (a b X Y q r:Int) (sa:decide (a < 0)= false) (sb:decide (b < 0)= false) (HS1:Hid (∀ w:World,Calls Tryz.prog 198 #[.int .i64 a] w fun e w'=>e= .returned (.int .u64 X)/\w'= w)) (HS2:Hid (∀ w:World,Calls Tryz.prog 198 #[.int .i64 b] w fun e w'=>e= .returned (.int .u64 Y)/\w'= w))
  (HM:Hid (∀ w:World,Calls Tryz.prog 197 #[.int .u64 X,.int .u64 Y] w fun e w'=>e= .returned (.tuple #[.int .u64 q,.int .u64 r])/\w'= w)) (hq:q= 0) (hr:decide (r<=9223372036854775807)= false) (w:World):
  Calls Tryz.prog 179 #[.int .i64 a,.int .i64 b] w fun e w'=>e= panE 7/\w'= w:=by
 subst hq
 have hm:IntKind.u64.wrap (9223372036854775808 - 1)= 9223372036854775807:=by rw[IntKind.wrap_u64];omega
 go_enter Tryz.func179,Tryz.ntmps179
 go_wp2_with (first|(go_at_call 198;first|((with_reducible refine(HS1.o _).mono ?_);rintro e z ⟨rfl,hzw⟩;rw[hzw];clear hzw z)|((with_reducible refine(HS2.o _).mono ?_);rintro e z ⟨rfl,hzw⟩;rw[hzw];clear hzw z))|(go_at_call 197;refine(HM.o _).mono ?_;rintro e z ⟨rfl,hzw⟩;rw[hzw];clear hzw z)|(go_at_call 115;refine(zA 7 _).mono ?_;rintro e z ⟨rfl,hzw⟩;rw[hzw];clear hzw z))
 exact⟨rfl,rfl,rfl⟩
theorem zcA (a b X Y q r:Int) (sa:decide (a < 0)= false) (sb:decide (b < 0)= false) (HS1:Hid (∀ w:World,Calls Tryz.prog 198 #[.int .i64 a] w fun e w'=>e= .returned (.int .u64 X)/\w'= w)) (HS2:Hid (∀ w:World,Calls Tryz.prog 198 #[.int .i64 b] w fun e w'=>e= .returned (.int .u64 Y)/\w'= w))
  (HM:Hid (∀ w:World,Calls Tryz.prog 197 #[.int .u64 X,.int .u64 Y] w fun e w'=>e= .returned (.tuple #[.int .u64 q,.int .u64 r])/\w'= w)) (hq:(q ==0)= false) (w:World):
  Calls Tryz.prog 179 #[.int .i64 a,.int .i64 b] w fun e w'=>e= panE 7/\w'= w:=by
 have hm:IntKind.u64.wrap (9223372036854775808 - 1)= 9223372036854775807:=by rw[IntKind.wrap_u64];omega
 go_enter Tryz.func179,Tryz.ntmps179
 go_wp2_with (first|(go_at_call 198;first|((with_reducible refine(HS1.o _).mono ?_);rintro e z ⟨rfl,hzw⟩;rw[hzw];clear hzw z)|((with_reducible refine(HS2.o _).mono ?_);rintro e z ⟨rfl,hzw⟩;rw[hzw];clear hzw z))|(go_at_call 197;refine(HM.o _).mono ?_;rintro e z ⟨rfl,hzw⟩;rw[hzw];clear hzw z)|(go_at_call 115;refine(zA 7 _).mono ?_;rintro e z ⟨rfl,hzw⟩;rw[hzw];clear hzw z))
 exact⟨rfl,rfl,rfl⟩
theorem zbd (a b:Int) (ha: -9223372036854775808<=a/\a<=9223372036854775807) (hb: -9223372036854775808<=b/\b<=9223372036854775807) (w:World):
  Calls Tryz.prog 179 #[.int .i64 a,.int .i64 b] w (IntPost (okI (a*b)) w):=by
 have HS1:=I (z6s a ha)
 have HS2:=I (z6s b hb)
 have HM:=I (fun w=>Tryz.bits_Mul64 a.natAbs b.natAbs (by omega) (by omega) w)
 by_cases sa:a < 0
 ·by_cases sb:b < 0
  ·have hl:=z3S (a:=a) (b:=b) (by constructor<;>intro<;>omega)
   by_cases hp:a.natAbs*b.natAbs<=9223372036854775807
   ·refine(zc9 a b _ _ _ _ ((a.natAbs*b.natAbs:Nat):Int) (decide_eq_true sa) (decide_eq_true sb) HS1 HS2 HM (by omega) (decide_eq_true (by omega)) (by rw[wrapI];omega) w).mono fun e w' h=> .ok (by rw[hl,if_pos hp]) h.1 h.2
   ·by_cases h1:a.natAbs*b.natAbs / 18446744073709551616= 0
    ·refine(zcz a b _ _ _ _ (decide_eq_true sa) (decide_eq_true sb) HS1 HS2 HM (by omega) (decide_eq_false (by omega)) w).mono fun e w' h=> .no (by rw[hl,if_neg hp]) h.1 h.2
    ·refine(zcv a b _ _ _ _ (decide_eq_true sa) (decide_eq_true sb) HS1 HS2 HM (by rw[beq_eq_false_iff_ne];omega) w).mono fun e w' h=> .no (by rw[hl,if_neg hp]) h.1 h.2
  ·have hl:=z3A (a:=a) (b:=b) (by omega)
   by_cases hp:a.natAbs*b.natAbs<=9223372036854775808
   ·refine(zci a b _ _ _ _ (-((a.natAbs*b.natAbs:Nat):Int)) (decide_eq_true sa) (decide_eq_false sb) HS1 HS2 HM (by omega) (decide_eq_true (by omega)) (by rw[wrapI,IntKind.wrap_u64];omega) w).mono fun e w' h=> .ok (by rw[hl,if_pos hp]) h.1 h.2
   ·by_cases h1:a.natAbs*b.natAbs / 18446744073709551616= 0
    ·refine(zcI a b _ _ _ _ (decide_eq_true sa) (decide_eq_false sb) HS1 HS2 HM (by omega) (decide_eq_false (by omega)) w).mono fun e w' h=> .no (by rw[hl,if_neg hp]) h.1 h.2
    ·refine(zbS a b _ _ _ _ (decide_eq_true sa) (decide_eq_false sb) HS1 HS2 HM (by rw[beq_eq_false_iff_ne];omega) w).mono fun e w' h=> .no (by rw[hl,if_neg hp]) h.1 h.2
 ·by_cases sb:b < 0
  ·have hl:=z3A (a:=a) (b:=b) (by omega)
   by_cases hp:a.natAbs*b.natAbs<=9223372036854775808
   ·refine(zaJ a b _ _ _ _ (-((a.natAbs*b.natAbs:Nat):Int)) (decide_eq_false sa) (decide_eq_true sb) HS1 HS2 HM (by omega) (decide_eq_true (by omega)) (by rw[wrapI,IntKind.wrap_u64];omega) w).mono fun e w' h=> .ok (by rw[hl,if_pos hp]) h.1 h.2
   ·by_cases h1:a.natAbs*b.natAbs / 18446744073709551616= 0
    ·refine(zb7 a b _ _ _ _ (decide_eq_false sa) (decide_eq_true sb) HS1 HS2 HM (by omega) (decide_eq_false (by omega)) w).mono fun e w' h=> .no (by rw[hl,if_neg hp]) h.1 h.2
    ·refine(zc5 a b _ _ _ _ (decide_eq_false sa) (decide_eq_true sb) HS1 HS2 HM (by rw[beq_eq_false_iff_ne];omega) w).mono fun e w' h=> .no (by rw[hl,if_neg hp]) h.1 h.2
  ·have hl:=z3S (a:=a) (b:=b) (by constructor<;>intro<;>omega)
   by_cases hp:a.natAbs*b.natAbs<=9223372036854775807
   ·refine(zbv a b _ _ _ _ ((a.natAbs*b.natAbs:Nat):Int) (decide_eq_false sa) (decide_eq_false sb) HS1 HS2 HM (by omega) (decide_eq_true (by omega)) (by rw[wrapI];omega) w).mono fun e w' h=> .ok (by rw[hl,if_pos hp]) h.1 h.2
   ·by_cases h1:a.natAbs*b.natAbs / 18446744073709551616= 0
    ·refine(zb5 a b _ _ _ _ (decide_eq_false sa) (decide_eq_false sb) HS1 HS2 HM (by omega) (decide_eq_false (by omega)) w).mono fun e w' h=> .no (by rw[hl,if_neg hp]) h.1 h.2
    ·refine(zcA a b _ _ _ _ (decide_eq_false sa) (decide_eq_false sb) HS1 HS2 HM (by rw[beq_eq_false_iff_ne];omega) w).mono fun e w' h=> .no (by rw[hl,if_neg hp]) h.1 h.2
end
section
open Go Go.RowKit
theorem zaE (a b n:Int) (hn:wrap64 (a+b)= n) (hs:0<=bits .and .i64 (bits .xor .i64 a n) (bits .xor .i64 b n)) (w:World):
  Calls Tryz.prog 164 #[.int .i64 5,.int .i64 a,.int .i64 b] w fun e w'=>e= .returned (.int .i64 n)/\w'= w:=by
 go_enter Tryz.func164,Tryz.ntmps164
 go_wp2_with ((go_at_call 115;refine(zm 7 _).mono ?_;rintro e z ⟨rfl,hzw⟩;rw[hzw];clear hzw z))
 go_ret
 exact⟨rfl,rfl⟩
theorem zas (a b n:Int) (hn:wrap64 (a+b)= n) (hs: ¬ 0<=bits .and .i64 (bits .xor .i64 a n) (bits .xor .i64 b n)) (w:World):
  Calls Tryz.prog 164 #[.int .i64 5,.int .i64 a,.int .i64 b] w fun e w'=>e= panE 7/\w'= w:=by
 go_enter Tryz.func164,Tryz.ntmps164
 go_wp2_with ((go_at_call 115;refine(zA 7 _).mono ?_;rintro e z ⟨rfl,hzw⟩;rw[hzw];clear hzw z))
 exact⟨rfl,rfl,rfl⟩
theorem z9y (a b:Int) (ha: -9223372036854775808<=a/\a<=9223372036854775807) (hb: -9223372036854775808<=b/\b<=9223372036854775807) (w:World):
  Calls Tryz.prog 164 #[.int .i64 5,.int .i64 a,.int .i64 b] w (IntPost (okI (a+b)) w):=by
 have hl:=zei ha hb
 by_cases h: -9223372036854775808<=a+b/\a+b<=9223372036854775807
 ·have hw:wrap64 (a+b)= a+b:=by unfold wrap64;omega
  rw[hw] at hl
  exact(zaE a b _ hw (hl.2 h) w).mono fun e w' h2=> .ok (z4g h) h2.1 h2.2
 ·exact(zas a b _ rfl (mt hl.1 h) w).mono fun e w' h2=> .no (z7K h) h2.1 h2.2
theorem zat (a b n:Int) (hn:wrap64 (a - b)= n) (hs:0<=bits .and .i64 (bits .xor .i64 a b) (bits .xor .i64 a n)) (w:World):
  Calls Tryz.prog 164 #[.int .i64 6,.int .i64 a,.int .i64 b] w fun e w'=>e= .returned (.int .i64 n)/\w'= w:=by
 go_enter Tryz.func164,Tryz.ntmps164
 go_wp2_with ((go_at_call 115;refine(zm 7 _).mono ?_;rintro e z ⟨rfl,hzw⟩;rw[hzw];clear hzw z))
 go_ret
 exact⟨rfl,rfl⟩
theorem zax (a b n:Int) (hn:wrap64 (a - b)= n) (hs: ¬ 0<=bits .and .i64 (bits .xor .i64 a b) (bits .xor .i64 a n)) (w:World):
  Calls Tryz.prog 164 #[.int .i64 6,.int .i64 a,.int .i64 b] w fun e w'=>e= panE 7/\w'= w:=by
 go_enter Tryz.func164,Tryz.ntmps164
 go_wp2_with ((go_at_call 115;refine(zA 7 _).mono ?_;rintro e z ⟨rfl,hzw⟩;rw[hzw];clear hzw z))
 exact⟨rfl,rfl,rfl⟩
theorem z9C (a b:Int) (ha: -9223372036854775808<=a/\a<=9223372036854775807) (hb: -9223372036854775808<=b/\b<=9223372036854775807) (w:World):
  Calls Tryz.prog 164 #[.int .i64 6,.int .i64 a,.int .i64 b] w (IntPost (okI (a - b)) w):=by
 have hl:=zdA ha hb
 by_cases h: -9223372036854775808<=a - b/\a - b<=9223372036854775807
 ·have hw:wrap64 (a - b)= a - b:=by unfold wrap64;omega
  rw[hw] at hl
  exact(zat a b _ hw (hl.2 h) w).mono fun e w' h2=> .ok (z4g h) h2.1 h2.2
 ·exact(zax a b _ rfl (mt hl.1 h) w).mono fun e w' h2=> .no (z7K h) h2.1 h2.2
theorem z9H (a b:Int) (ha: -9223372036854775808<=a/\a<=9223372036854775807) (hb: -9223372036854775808<=b/\b<=9223372036854775807) (w:World):
  Calls Tryz.prog 164 #[.int .i64 7,.int .i64 a,.int .i64 b] w (IntPost (okI (a*b)) w):=by
 have HT:=I (zbd a b ha hb w)
 go_enter Tryz.func164,Tryz.ntmps164
 go_wp2_with (go_at_call 179;fail)
 refine HT.o.mono ?_
 rintro e w' ⟨⟨n,hr,rfl⟩|⟨c,hr,rfl⟩,rfl⟩
 ·have HR:=I hr
  clear hr HT
  go_wp2
  go_ret
  exact .ok HR.o rfl rfl
 ·have HR:=I hr
  clear hr HT
  go_wp2
  exact⟨rfl,.no HR.o rfl rfl⟩
theorem z8v (k a:Int) (h5:(k ==5)= false) (h6:(k ==6)= false) (h7:(k ==7)= false) (w:World):
  Calls Tryz.prog 164 #[.int .i64 k,.int .i64 a,.int .i64 0] w fun e w'=>e= panE 8/\w'= w:=by
 go_enter Tryz.func164,Tryz.ntmps164
 go_wp2_with ((go_at_call 115;refine(zA 8 _).mono ?_;rintro e z ⟨rfl,hzw⟩;rw[hzw];clear hzw z))
 exact⟨rfl,rfl,rfl⟩
theorem z9x (a:Int) (w:World):
  Calls Tryz.prog 164 #[.int .i64 9,.int .i64 a,.int .i64 (-1)] w fun e w'=>e= .returned (.int .i64 0)/\w'= w:=by
 go_enter Tryz.func164,Tryz.ntmps164
 go_wp2_with ((go_at_call 115;refine(zm 8 _).mono ?_;rintro e z ⟨rfl,hzw⟩;rw[hzw];clear hzw z))
 go_ret
 exact⟨rfl,rfl⟩
theorem zah (a b:Int) (h0: ¬ b= 0) (h0':(b !=0)= true) (h1:(b == -1)= false) (hw:IntKind.i64.wrap (a.tmod b)= a.tmod b) (w:World):
  Calls Tryz.prog 164 #[.int .i64 9,.int .i64 a,.int .i64 b] w fun e w'=>e= .returned (.int .i64 (a.tmod b))/\w'= w:=by
 go_enter Tryz.func164,Tryz.ntmps164
 go_wp2_with ((go_at_call 115;refine(zm 8 _).mono ?_;rintro e z ⟨rfl,hzw⟩;rw[hzw];clear hzw z))
 go_ret
 exact⟨by first|rfl|rw[hw]|simp[hw],rfl⟩
theorem zaB (k a b:Int) (h5:(k ==5)= false) (h6:(k ==6)= false) (h7:(k ==7)= false) (h9:(k ==9)= false) (h0: ¬ b= 0) (h0':(b !=0)= true) (h1:(b != -1)= true) (hw:IntKind.i64.wrap (a.tdiv b)= a.tdiv b) (w:World):
  Calls Tryz.prog 164 #[.int .i64 k,.int .i64 a,.int .i64 b] w fun e w'=>e= .returned (.int .i64 (a.tdiv b))/\w'= w:=by
 go_enter Tryz.func164,Tryz.ntmps164
 go_wp2_with (first|(go_at_call 115;refine(zm 7 _).mono ?_;rintro e z ⟨rfl,hzw⟩;rw[hzw];clear hzw z)|(go_at_call 115;refine(zm 8 _).mono ?_;rintro e z ⟨rfl,hzw⟩;rw[hzw];clear hzw z))
 go_ret
 exact⟨by first|rfl|rw[hw]|simp[hw],rfl⟩
theorem z8o (k a:Int) (h5:(k ==5)= false) (h6:(k ==6)= false) (h7:(k ==7)= false) (h9:(k ==9)= false) (n:Int) (hn:IntKind.i64.wrap (-a)= n) (hne:((a !=n) ||(a ==0))= true) (hw:IntKind.i64.wrap (a.tdiv (-1))= n) (w:World):
  Calls Tryz.prog 164 #[.int .i64 k,.int .i64 a,.int .i64 (-1)] w fun e w'=>e= .returned (.int .i64 n)/\w'= w:=by
 cases h:(a !=n) with
 |true=>
  clear hne
  go_enter Tryz.func164,Tryz.ntmps164
  go_wp2_with (first|(go_at_call 115;refine(zm 7 _).mono ?_;rintro e z ⟨rfl,hzw⟩;rw[hzw];clear hzw z)|(go_at_call 115;refine(zm 8 _).mono ?_;rintro e z ⟨rfl,hzw⟩;rw[hzw];clear hzw z))
  go_ret
  exact⟨by first|rfl|rw[hw]|simp[hw],rfl⟩
 |false=>
  rw[h,Bool.false_or] at hne
  go_enter Tryz.func164,Tryz.ntmps164
  go_wp2_with (first|(go_at_call 115;refine(zm 7 _).mono ?_;rintro e z ⟨rfl,hzw⟩;rw[hzw];clear hzw z)|(go_at_call 115;refine(zm 8 _).mono ?_;rintro e z ⟨rfl,hzw⟩;rw[hzw];clear hzw z))
  go_ret
  exact⟨by first|rfl|rw[hw]|simp[hw],rfl⟩
theorem z8K (k a:Int) (h5:(k ==5)= false) (h6:(k ==6)= false) (h7:(k ==7)= false) (h9:(k ==9)= false) (n:Int) (hn:IntKind.i64.wrap (-a)= n) (hne:(a !=n)= false) (h0:(a ==0)= false) (w:World):
  Calls Tryz.prog 164 #[.int .i64 k,.int .i64 a,.int .i64 (-1)] w fun e w'=>e= panE 7/\w'= w:=by
 go_enter Tryz.func164,Tryz.ntmps164
 go_wp2_with (first|(go_at_call 115;refine(zm 8 _).mono ?_;rintro e z ⟨rfl,hzw⟩;rw[hzw];clear hzw z)|(go_at_call 115;refine(zA 7 _).mono ?_;rintro e z ⟨rfl,hzw⟩;rw[hzw];clear hzw z))
 exact⟨rfl,rfl,rfl⟩
theorem zew {a b:Int} (ha: -9223372036854775808<=a/\a<=9223372036854775807) (h0:b≠0) (h1:b≠ -1): -9223372036854775808<=a.tdiv b/\a.tdiv b<=9223372036854775807:=by
 by_cases h2:b= 1
 ·subst h2;rw[Int.tdiv_one];exact ha
 have h3:=Int.natAbs_tdiv a b
 have h4:a.natAbs / b.natAbs<=a.natAbs / 2:=Nat.div_le_div_left (by omega) (by omega)
 have h5:(a.tdiv b).natAbs<=a.natAbs / 2:=by rw[h3];exact h4
 omega
theorem z9d {a b:Int} (ha: -9223372036854775808<=a/\a<=9223372036854775807): -9223372036854775808<=a.tmod b/\a.tmod b<=9223372036854775807:=by
 have h1:(a.tmod b).natAbs<=a.natAbs:=by rw[Int.natAbs_tmod];exact Nat.mod_le _ _
 have h2:=Int.tmod_nonneg b (a:=a)
 have h3:=Int.neg_tmod (a:= -a) (b:=b)
 rw[Int.neg_neg] at h3
 have h4:=Int.tmod_nonneg b (a:= -a)
 omega
theorem zcD (k a b:Int) (ha: -9223372036854775808<=a/\a<=9223372036854775807) (hb: -9223372036854775808<=b/\b<=9223372036854775807) (w:World):
  Calls Tryz.prog 164 #[.int .i64 k,.int .i64 a,.int .i64 b] w (IntPost (z2p k a b) w):=by
 unfold z2p
 by_cases k5:k= 5
 ·subst k5;rw[if_pos rfl];exact z9y a b ha hb w
 by_cases k6:k= 6
 ·subst k6;rw[if_neg (by decide),if_pos rfl];exact z9C a b ha hb w
 by_cases k7:k= 7
 ·subst k7;rw[if_neg (by decide),if_neg (by decide),if_pos rfl];exact z9H a b ha hb w
 rw[if_neg k5,if_neg k6,if_neg k7]
 have e5:(k ==5)= false:=by simpa using k5
 have e6:(k ==6)= false:=by simpa using k6
 have e7:(k ==7)= false:=by simpa using k7
 by_cases h0:b= 0
 ·subst h0
  rw[if_pos rfl]
  exact(z8v k a e5 e6 e7 w).mono fun e w' h=> .no rfl h.1 h.2
 rw[if_neg h0]
 by_cases k9:k= 9
 ·subst k9
  rw[if_pos rfl]
  by_cases h1:b= -1
  ·subst h1
   have h2:a.tmod (-1)= 0:=by rw[show(-1:Int)= -(1:Int) from rfl,Int.tmod_neg,Int.tmod_one]
   rw[h2]
   exact(z9x a w).mono fun e w' h=> .ok rfl h.1 h.2
  ·have h2:=z9d (b:=b) ha
   exact(zah a b h0 (by simpa using h0) (by simpa using h1) (by rw[wrapI];omega) w).mono fun e w' h=> .ok rfl h.1 h.2
 ·rw[if_neg k9]
  have e9:(k ==9)= false:=by simpa using k9
  by_cases h1:b= -1
  ·subst h1
   have h2:a.tdiv (-1)= -a:=by rw[show(-1:Int)= -(1:Int) from rfl,Int.tdiv_neg,Int.tdiv_one]
   rw[h2]
   by_cases hm:a= -9223372036854775808
   ·subst hm
    exact(z8K k _ e5 e6 e7 e9 (-9223372036854775808) (by rw[wrapI];omega) (by decide) (by decide) w).mono fun e w' h=> .no (z7K (by omega)) h.1 h.2
   ·refine(z8o k a e5 e6 e7 e9 (-a) (by rw[wrapI];omega) ?_ (by rw[h2,wrapI];omega) w).mono fun e w' h=> .ok (z4g (by omega)) h.1 h.2
    by_cases hz:a= 0
    ·subst hz;rfl
    ·have:(a != -a)= true:=by simp;omega
     rw[this];rfl
  ·have h2:=zew ha h0 h1
   exact(zaB k a b e5 e6 e7 e9 h0 (by simpa using h0) (by simpa using h1) (by rw[wrapI];omega) w).mono fun e w' h=> .ok (z4g h2) h.1 h.2
end
end Go.Proofs.YtdjfpcmlffekkaaGreatDoor
