/- Parts of a proof: E10U, E10B, E10C. -/
import Derived.Test.YtpmjcbjdcjjplaaGreatDoorPackS31
import Derived.Test.YtpmjcbjdcjjplaaGreatDoorPackS32
import Derived.Test.YtpmjcbjdcjjplaaGreatDoorPackS33
set_option maxHeartbeats 8000000
set_option maxRecDepth 100000
set_option linter.unusedVariables false
set_option linter.unusedSimpArgs false
namespace Go.Proofs.YtpmjcbjdcjjplaaGreatDoor
section
open Go Go.RowKit
theorem Kept.grow {P:Nat->Prop} {w w':World} {cs:List Value} {t:VT} (h:Kept P w cs t) (hb:Below w.heap.size w w'):Kept (fun b=>P b\/w.heap.size<=b) w' cs t:=h.to (fun b hp hlt=>⟨.inl hp,hb.block b hlt⟩) hb.size
theorem z39 (P:Nat->Prop) (w:World) (k n:Int) (f:Nat) (s:ByteArray) (hk:wfI k) (hn:wfI n) (hf:(Lit.float .f64 f).wf= true) (hs:s.size<=maxLen):Kept P w (valC k n f s) (.mk k n f s [] []):=zfw _ _ k n f s hk hn hf hs
theorem z0k {n:Int} (h: -9223372036854775808<=n/\n<=9223372036854775807):wfI n:=by
 unfold wfI Lit.wf;simp only[Bool.and_eq_true,decide_eq_true_eq];exact⟨h.1,h.2⟩
theorem z49 {f:Nat} (h:(Lit.float .f64 f).wf= true):(Lit.float .f64 (zu f)).wf= true:=by
 unfold zu;split
 ·decide
 ·exact h
theorem zh5 {f:Nat} (h:(Lit.float .f64 f).wf= true):(Lit.float .f64 (unV.fNeg f)).wf= true:=by
 have h1:=wf64 h;refine wf_of_lt .f64 _ ?_;show f ^^^ 9223372036854775808 < 2 ^ 64;exact Nat.xor_lt_two_pow h1 (by decide)
theorem z0v {k n:Int} {f:Nat} {s:ByteArray} {ns:List ByteArray} {its:List VT} (h:zB (.mk k n f s ns its)= true):s.size<=200:=by
 have h1:=(z18.1 h).2;have hE:s.toList.isEmpty= true->s.size<=200:=fun he=>by
  have:s.toList=[]:=List.isEmpty_iff.1 he;rw[ByteArray.toList_eq] at this;cases s with
  |mk d=>simp at this;subst this;exact Nat.zero_le _
 rw[zr,if_neg (by decide)] at h1;unfold bareB at h1;by_cases k1:k= 1
 ·rw[if_pos k1] at h1;simp only[Bool.and_eq_true,Bool.false_or] at h1;exact hE h1.1.2.2.1
 rw[if_neg k1] at h1;by_cases k2:k= 2
 ·rw[if_pos k2] at h1;simp only[Bool.and_eq_true,Bool.false_or] at h1;exact hE h1.2.2.1
 rw[if_neg k2] at h1;by_cases k3:k= 3
 ·rw[if_pos k3] at h1;simp only[Bool.and_eq_true,Bool.false_or] at h1;exact hE h1.2.2.1
 rw[if_neg k3] at h1;by_cases k4:k= 4
 ·rw[if_pos k4] at h1;simp only[Bool.and_eq_true,decide_eq_true_eq] at h1;exact h1.2
 rw[if_neg k4] at h1;by_cases k6:k= 6
 ·rw[if_pos k6] at h1;simp only[Bool.and_eq_true,Bool.false_or] at h1;exact hE h1.2.2.1.2.2.1
 rw[if_neg k6] at h1;by_cases k5:k= 5
 ·rw[if_pos k5] at h1;simp only[Bool.and_eq_true,Bool.false_or] at h1;exact hE h1.1.2.2.1
 ·rw[if_neg k5] at h1;cases h1
def tC (b:Bool):List Value:=valC 1 (if b= true then 1 else 0) 0 ⟨#[]⟩
theorem z2v (b:Bool):∀ v∈tC b,v.oneCell'= true:=z06 _ _ _ _
theorem z1n (b:Bool) (w:World):Calls Tryz.prog 73 #[.bool b] w fun e w'=>e= .returned (.agg ⟨tC b⟩)/\Below w.heap.size w w':=zdR b w
theorem z2N (P:Nat->Prop) (w:World) (n:Int) (hn:wfI n):Kept P w (valC 2 n 0 ⟨#[]⟩) (vI n):=z39 P w 2 n 0 ⟨#[]⟩ (z0k (by omega)) hn (by decide) (by decide)
theorem z1Q (P:Nat->Prop) (w:World) (b:Bool):Kept P w (tC b) (vB b):=z39 P w 1 _ 0 ⟨#[]⟩ (z0k (by omega)) (by cases b<;>exact z0k (by decide)) (by decide) (by decide)
theorem z6N (P:Nat->Prop) (w:World) (f:Nat) (hf:(Lit.float .f64 f).wf= true):Kept P w (valC 3 0 f ⟨#[]⟩) (vF f):=z39 P w 3 0 f ⟨#[]⟩ (z0k (by omega)) (z0k (by omega)) hf (by decide)
theorem zg3 (P:Nat->Prop) (w:World) (s:ByteArray) (hs:s.size<=maxLen):Kept P w (valC 4 0 0 s) (vS s):=z39 P w 4 0 0 s (z0k (by omega)) (z0k (by omega)) (by decide) hs
def UnPost (P:Nat->Prop) (r:Res) (w:World) (e:Ending) (w':World):Prop:=
 (∃ v cs',r= .ok v/\e= .returned (.agg ⟨cs'⟩)/\Kept (fun b=>P b\/w.heap.size<=b) w' cs' v/\Below w.heap.size w w')\/(∃ n,r= .error n/\e= panE n/\Below w.heap.size w w')
theorem UnPost.ok {P:Nat->Prop} {r:Res} {w:World} {v:VT} {cs':List Value} {e:Ending} {w':World} (hr:r= .ok v) (he:e= .returned (.agg ⟨cs'⟩)) (hk:Kept (fun b=>P b\/w.heap.size<=b) w' cs' v) (hb:Below w.heap.size w w'):UnPost P r w e w':= .inl ⟨v,cs',hr,he,hk,hb⟩
theorem UnPost.no {P:Nat->Prop} {r:Res} {w:World} {n:Int} {e:Ending} {w':World} (hr:r= .error n) (he:e= panE n) (hb:Below w.heap.size w w'):UnPost P r w e w':= .inr ⟨n,hr,he,hb⟩
structure UB (w W:World) (cs:List Value):Prop where
 wa:Whole 39 W w.heap.size cs
 wb:Whole 39 W (w.heap.size+1) zV6
 bel:Below w.heap.size w W
theorem z9e (w:World) (cs:List Value):UB w ((w.alloc (.cells ⟨cs⟩ 39)).alloc (.cells zV6.toArray 39)) cs:=by
 have h1:=Whole.new w cs 39;have h2:=zc w (.cells ⟨cs⟩ 39);have g:(w.alloc (.cells ⟨cs⟩ 39)).heap.size= w.heap.size+1:=by simp
 generalize w.alloc (.cells ⟨cs⟩ 39)= W1 at*;have h3:=Whole.new W1 zV6 39;have h4:=zc W1 (.cells zV6.toArray 39);rw[g] at h3;exact⟨h1.keep (h4.block _ (by omega)),h3,h2.trans (h4.mono (by omega))⟩
theorem zdZ (P:Nat->Prop) (k:Int) (s:ByteArray) (px o:Nat) (a:VT) (cs:List Value) (w:World) (hx0:w.cell? ⟨px,o,none⟩= some (.int .i64 k)) (hx1:w.cell? ⟨px,o+1,none⟩= some (.string s)) (hpx:px < w.heap.size) (hv:Kept P w cs a) (hr:zB a= true) (htb:TabP w):
  Calls Tryz.prog 76 #[.pointer (some ⟨px,o,none⟩),.agg ⟨cs⟩] w (UnPost P (unV k s a) w):=by
 cases a with
 |mk kv n f sv ns its=>
  obtain⟨r,C⟩:∃ r,unV k s (.mk kv n f sv ns its)= r:=⟨_,rfl⟩;rw[C];rw[unV] at C;have HV:=I hv;have e0:=I hv.val;have g8:=I htb;have a8:=I hr;obtain⟨vn,vi,rfl,i0,f3,e2,f5,i2,e3,hi⟩:=ValAt.inv hv;obtain⟨f2,NA,nc,rfl,f1⟩:=i2;obtain⟨b6,A,c,rfl,hA⟩:=hi;have g4:=I f1;have g0:=I hA;have b9:=I (And.intro f3 (And.intro e2 f5));have g3:=I (And.intro f2 b6);have c8:=I e3;have a1:=I hx0;have h6:=I hx1;have Y:=I hpx;clear hv hr htb i0 f3 e2 f5 e3 b6 f2 f1 hA hx0 hx1 hpx;go_enter Tryz.func76,Tryz.ntmps76;go_upto_region 1 with (fail);have g:=I (z9e w [.int .i64 kv,.int .i64 n,.float .f64 f,.string sv,.slice NA ns.length nc,.slice A its.length c]);rw[z0A];generalize (w.alloc (.cells ⟨[.int .i64 kv,.int .i64 n,.float .f64 f,.string sv,.slice NA ns.length nc,.slice A its.length c]⟩ 39)).alloc (.cells zV6.toArray 39)= W at*;by_cases k18:k= 18
  ·subst k18
   rw[if_pos rfl] at C;by_cases h:kv= 6
   ·subst h
    rw[if_neg (by decide)] at C;have G:=I C.symm;clear C;have x0:W.cell? ⟨px,o,none⟩= some (.int .i64 18):=(g.o.bel.cell (p:=⟨px,o,none⟩) Y.o).trans a1.o;have d0:W.cell? ⟨w.heap.size,0,none⟩= some (.int .i64 6):=g.o.wa.cells 0 rfl;have d4:W.cell? ⟨w.heap.size,4,none⟩= some (.slice NA ns.length nc):=g.o.wa.cells 4 rfl;have d5:W.cell? ⟨w.heap.size,5,none⟩= some (.slice A its.length c):=g.o.wa.cells 5 rfl;have x1:W.cell? ⟨px,o+1,none⟩= some (.string s):=(g.o.bel.cell (p:=⟨px,o+1,none⟩) Y.o).trans h6.o;have c9:Hid (∀ z:World,Below W.heap.size W z->Calls Tryz.prog 116 #[.slice NA ns.length nc,.string s] z fun e z'=>e= .returned (.int .i64 (Lib.idxOfS ns s))/\z'= z):=I fun z hz=>by
     rcases Nat.eq_zero_or_pos ns.length with h0|h0
     ·obtain rfl:ns=[]:=List.eq_nil_of_length_eq_zero h0
      exact Tryz.slices_Index_string_empty NA nc s z
     ·obtain⟨b,c5,rfl,N,hc⟩:=g4.o h0
      have:=Tryz.slices_Index_string b c5 ns.length nc ns s z (Nat.le_refl _) (by have:=g3.o.1;omega) fun j hj=>by
       obtain⟨q,j5,i3,i4,_⟩:=hc j _ (List.getElem?_eq_getElem hj);subst i4;have h2:=i3 0 _ rfl;rw[Nat.mul_one,Nat.add_zero] at h2;have h3:=(zx.1 h2).2;rw[List.getD_eq_getElem?_getD,List.getElem?_eq_getElem hj];exact(hz.cell (p:=⟨b,c5+j,none⟩) (Nat.lt_of_lt_of_le N g.o.bel.size)).trans ((g.o.bel.cell (p:=⟨b,c5+j,none⟩) N).trans h3)
      rw[List.take_length] at this;exact this
    go_upto_region 4 with ((go_at_call 34;refine ze (zt 6 _) ?_));clear x0 d0;refine zo [(0,true),(1,true),(2,true),(3,true),(4,true),(5,true),(6,false),(7,true)] (fun z=>Below W.heap.size W z) (by kernel_rfl) (by intro c a d v w h;cases d<;>exact h) ?_;have hs:Below W.heap.size W W.drew:=(Below.refl _ _).drew;have d7:=I g.o.wa.lt;refine z7 20 (.pointer (some ⟨w.heap.size,4,none⟩)) rfl rfl rfl hs (fun z hz=>by go_simp) ?_;go_frame;refine z7 21 (.slice NA ns.length nc) rfl rfl rfl hs (fun z hz=>by have e4:=(hz.cell (p:=⟨w.heap.size,4,none⟩) d7.o).trans d4;clear hz;go_simp) ?_;go_frame;refine zf 22 (.pointer (some ⟨px,o,none⟩)) rfl rfl rfl rfl hs rfl ?_;go_frame;refine z7 23 (.pointer (some ⟨px,o,none⟩)) rfl rfl rfl hs (fun z hz=>by go_simp) ?_;go_frame;refine z7 24 (.pointer (some ⟨px,o+1,none⟩)) rfl rfl rfl hs (fun z hz=>by go_simp) ?_;go_frame;refine z7 25 (.string s) rfl rfl rfl hs (fun z hz=>by have e1:=(hz.cell (p:=⟨px,o+1,none⟩) (Nat.lt_of_lt_of_le Y.o g.o.bel.size)).trans x1;clear hz;go_simp) ?_;go_frame;refine zA 26 116 Tryz.func116 (by kernel_rfl) [.slice NA ns.length nc,.string s] rfl rfl rfl rfl rfl ?_;refine(c9.o _ hs).mono ?_;rintro e z ⟨rfl,rfl⟩;refine⟨_,rfl,hs,?_⟩;go_frame;refine zS 5 (.int .i64 (Lib.idxOfS ns s)) rfl rfl rfl rfl hs rfl ?_;go_frame;refine zD ?_;have c7:=z38 ns s;have b5:Hid (UB w W.drew [.int .i64 6,.int .i64 n,.float .f64 f,.string sv,.slice NA ns.length nc,.slice A its.length c]):=I ⟨g.o.wa.keep rfl,g.o.wb.keep rfl,g.o.bel.drew⟩;clear d4 d5 x1 hs c9 d7 g;have g:=b5;clear b5;generalize W.drew= W at*;obtain⟨ix,c4⟩:∃ ix,Lib.idxOfS ns s= ix:=⟨_,rfl⟩;rw[c4] at c7 G;rw[c4];clear c4;rcases c7 with rfl|⟨h8,h9⟩
    ·go_wp2_with ((go_at_call 34;refine ze (zJ 10 _) ?_))
     exact⟨rfl,.no G.o rfl g.o.bel⟩
    ·have a3: ¬ ix= -1:=by omega
     rw[if_neg a3] at G;have i1:=(z0i a8.o).2.2 rfl;obtain⟨j,rfl⟩:∃ j:Nat,ix=(j:Int):=⟨ix.toNat,by omega⟩;have hj:j < its.length:=by omega
     have j3:(j:Int) <(its.length:Int):=by omega
     have j2:(0:Int)<=(j:Int):=by omega
     obtain⟨b,ob,rfl,h7,hc⟩:=g0.o (by omega);obtain⟨ks,e6,e7,e8⟩:=hc j _ (List.getElem?_eq_getElem hj);have d6:Hid (Kept P w ks its[j]):=I e8;have b3:=I e6;have g1:Hid (W.rangeAt b (ob+j*6) ks):=I (zb (z0t e7 fun a v h=>(zx.1 h).2) g.o.bel h7);have g6:=I (zm d6.o.val).2;have g7:Hid (r= .ok its[j]):=I (by rw[G.o];simp[List.getD,List.getElem?_eq_getElem hj]);have b7:=I g.o.wb;have d5:W.cell? ⟨w.heap.size,5,none⟩= some (.slice (some ⟨b,ob,none⟩) its.length c):=g.o.wa.cells 5 rfl;clear hc e6 e7 e8 h8 h9 a3 i1;go_wp2_with (first|(go_at_call 34;refine ze (zt 10 _) ?_)|((with_reducible refine za tyK39 _ rfl ?_ g1.o rfl b3.o ?_);exact wA rfl)|((with_reducible refine zi 39 _ _ rfl rfl ?_ b7.o (ks) ?_ ?_ ?_ ?_ ?_ ?_);exact wA rfl;rw[b3.o];rfl;rfl;rfl;rw[b3.o];kernel_rfl;exact g6.o;intro Z2 HX X))
     (try simp only[Exit.inBlock,Exit.then])
     refine bodyPost_ret (zk rfl Tryz.underlying39 rfl _ _ (w.heap.size+1) (ks) (by rw[b3.o];kernel_rfl) rfl HX.o.range) rfl ?_;have K:=g.o.bel.trans (X.o.below (B:=w.heap.size) g.o.bel.size (by omega) (by omega));exact .ok g7.o rfl (d6.o.grow K) K
   ·rw[if_pos h] at C
    have h1:(kv ==6)= false:=(by simpa using h);have G:=I C.symm;clear C;have x0:W.cell? ⟨px,o,none⟩= some (.int .i64 18):=(g.o.bel.cell (p:=⟨px,o,none⟩) Y.o).trans a1.o;have d0:W.cell? ⟨w.heap.size,0,none⟩= some (.int .i64 kv):=g.o.wa.cells 0 rfl;go_wp2_with ((go_at_call 34;refine ze (zJ 6 _) ?_));exact⟨rfl,.no G.o rfl g.o.bel⟩
  rw[if_neg k18] at C;by_cases k4:k= 4
  ·subst k4
   rw[if_pos rfl] at C;by_cases h:kv= 1
   ·subst h
    rw[if_pos rfl] at C;have G:=I C.symm;clear C;have x0:W.cell? ⟨px,o,none⟩= some (.int .i64 4):=(g.o.bel.cell (p:=⟨px,o,none⟩) Y.o).trans a1.o;have d0:W.cell? ⟨w.heap.size,0,none⟩= some (.int .i64 1):=g.o.wa.cells 0 rfl;have d1:W.cell? ⟨w.heap.size,1,none⟩= some (.int .i64 n):=g.o.wa.cells 1 rfl;obtain⟨b,N⟩:∃ b,(n ==0)= b:=⟨_,rfl⟩;rw[N] at G;go_wp2_with (first|(go_at_call 34;refine ze (zt 6 _) ?_)|(go_at_call 73;refine(z1n b _).mono ?_;rintro e z ⟨rfl,N⟩;have O:=I N;have a0:=I (g.o.wb.keep (N.block _ (g.o.wb.lt)));clear N)|((with_reducible refine zi 39 _ _ rfl rfl ?_ a0.o (tC b) ?_ ?_ ?_ ?_ ?_ ?_);exact wA rfl;rfl;rfl;rfl;kernel_rfl;exact z2v b;intro Z2 HX X))
    (try simp only[Exit.inBlock,Exit.then])
    refine bodyPost_ret (zk rfl Tryz.underlying39 rfl _ _ (w.heap.size+1) (tC b) (by kernel_rfl) rfl HX.o.range) rfl ?_;have K:=(beT g.o.bel O.o).trans (X.o.below (B:=w.heap.size) (Nat.le_trans g.o.bel.size O.o.size) (by omega) (by omega));exact .ok G.o rfl (z1Q _ _ b) K
   ·rw[if_neg h] at C
    have h1:(kv ==1)= false:=(by simpa using h);have G:=I C.symm;clear C;have x0:W.cell? ⟨px,o,none⟩= some (.int .i64 4):=(g.o.bel.cell (p:=⟨px,o,none⟩) Y.o).trans a1.o;have d0:W.cell? ⟨w.heap.size,0,none⟩= some (.int .i64 kv):=g.o.wa.cells 0 rfl;go_wp2_with ((go_at_call 34;refine ze (zJ 6 _) ?_));exact⟨rfl,.no G.o rfl g.o.bel⟩
  rw[if_neg k4] at C;by_cases k21:k= 21
  ·subst k21
   rw[if_pos rfl] at C;by_cases h:kv= 2
   ·subst h
    rw[if_pos rfl] at C;have G:=I C.symm;clear C;have x0:W.cell? ⟨px,o,none⟩= some (.int .i64 21):=(g.o.bel.cell (p:=⟨px,o,none⟩) Y.o).trans a1.o;have d0:W.cell? ⟨w.heap.size,0,none⟩= some (.int .i64 2):=g.o.wa.cells 0 rfl;have d1:W.cell? ⟨w.heap.size,1,none⟩= some (.int .i64 n):=g.o.wa.cells 1 rfl;go_wp2_with (first|(go_at_call 34;refine ze (zt 6 _) ?_)|(go_at_call 118;refine ze (z8r n _) ?_)|(go_at_call 117;refine(z8v (floatOfInt .f64 n) _).mono ?_;rintro e z ⟨rfl,N⟩;have O:=I N;have a0:=I (g.o.wb.keep (N.block _ (g.o.wb.lt)));clear N)|((with_reducible refine zi 39 _ _ rfl rfl ?_ a0.o (valC 3 0 (zu (floatOfInt .f64 n)) ⟨#[]⟩) ?_ ?_ ?_ ?_ ?_ ?_);exact wA rfl;rfl;rfl;rfl;kernel_rfl;exact z06 _ _ _ _;intro Z2 HX X))
    (try simp only[Exit.inBlock,Exit.then])
    refine bodyPost_ret (zk rfl Tryz.underlying39 rfl _ _ (w.heap.size+1) (valC 3 0 (zu (floatOfInt .f64 n)) ⟨#[]⟩) (by kernel_rfl) rfl HX.o.range) rfl ?_;have K:=(beT g.o.bel O.o).trans (X.o.below (B:=w.heap.size) (Nat.le_trans g.o.bel.size O.o.size) (by omega) (by omega));exact .ok G.o rfl (z6N _ _ _ (z49 (floatOfInt_wf .f64 n))) K
   ·rw[if_neg h] at C
    have h1:(kv ==2)= false:=(by simpa using h);have G:=I C.symm;clear C;have x0:W.cell? ⟨px,o,none⟩= some (.int .i64 21):=(g.o.bel.cell (p:=⟨px,o,none⟩) Y.o).trans a1.o;have d0:W.cell? ⟨w.heap.size,0,none⟩= some (.int .i64 kv):=g.o.wa.cells 0 rfl;go_wp2_with ((go_at_call 34;refine ze (zJ 6 _) ?_));exact⟨rfl,.no G.o rfl g.o.bel⟩
  rw[if_neg k21] at C;by_cases k22:k= 22
  ·subst k22
   rw[if_pos rfl] at C;by_cases h:kv= 3
   ·subst h
    rw[if_pos rfl] at C;have G:=I C.symm;clear C;have x0:W.cell? ⟨px,o,none⟩= some (.int .i64 22):=(g.o.bel.cell (p:=⟨px,o,none⟩) Y.o).trans a1.o;have d0:W.cell? ⟨w.heap.size,0,none⟩= some (.int .i64 3):=g.o.wa.cells 0 rfl;have d2:W.cell? ⟨w.heap.size,2,none⟩= some (.float .f64 f):=g.o.wa.cells 2 rfl;go_wp2_with (first|(go_at_call 34;refine ze (zt 6 _) ?_)|(go_at_call 119;fail));refine(zdL f _).mono ?_;rintro e z ⟨⟨m,hm,rfl⟩|⟨hm,rfl⟩,N⟩
    ·rw[hm] at G
     have a7:=I N;have a5:=I (g.o.wb.keep (N.block _ g.o.wb.lt));have a4:Hid (wfI m):=I (by
      unfold z22 at hm;split at hm
      ·cases hm
      ·split at hm
       ·exact floatToIntVal_wf hm
       ·cases hm)
     clear N hm;go_wp2_with (first|(go_at_call 34;refine ze (zt 0 _) ?_)|(go_at_call 120;refine(z1S m _).mono ?_;rintro e z ⟨rfl,N⟩;have O:=I N;have a0:=I (a5.o.keep (N.block _ (a5.o.lt)));clear N)|((with_reducible refine zi 39 _ _ rfl rfl ?_ a0.o (valC 2 m 0 ⟨#[]⟩) ?_ ?_ ?_ ?_ ?_ ?_);exact wA rfl;rfl;rfl;rfl;kernel_rfl;exact z06 _ _ _ _;intro Z2 HX X))
     (try simp only[Exit.inBlock,Exit.then])
     refine bodyPost_ret (zk rfl Tryz.underlying39 rfl _ _ (w.heap.size+1) (valC 2 m 0 ⟨#[]⟩) (by kernel_rfl) rfl HX.o.range) rfl ?_;have K:=(g.o.bel.trans ((beT a7.o O.o).mono g.o.bel.size)).trans (X.o.below (B:=w.heap.size) (Nat.le_trans g.o.bel.size (beT a7.o O.o).size) (by omega) (by omega));exact .ok G.o rfl (z2N _ _ m a4.o) K
    ·rw[hm] at G
     have a7:=I N;clear N hm;go_wp2_with ((go_at_call 34;refine ze (zJ 3 _) ?_));exact⟨rfl,.no G.o rfl (beT g.o.bel a7.o)⟩
   ·rw[if_neg h] at C
    have h1:(kv ==3)= false:=(by simpa using h);have G:=I C.symm;clear C;have x0:W.cell? ⟨px,o,none⟩= some (.int .i64 22):=(g.o.bel.cell (p:=⟨px,o,none⟩) Y.o).trans a1.o;have d0:W.cell? ⟨w.heap.size,0,none⟩= some (.int .i64 kv):=g.o.wa.cells 0 rfl;go_wp2_with ((go_at_call 34;refine ze (zJ 6 _) ?_));exact⟨rfl,.no G.o rfl g.o.bel⟩
  rw[if_neg k22] at C;by_cases k23:k= 23
  ·subst k23
   rw[if_pos rfl] at C;by_cases h:kv= 4
   ·subst h
    rw[if_pos rfl] at C;have G:=I C.symm;clear C;have x0:W.cell? ⟨px,o,none⟩= some (.int .i64 23):=(g.o.bel.cell (p:=⟨px,o,none⟩) Y.o).trans a1.o;have d0:W.cell? ⟨w.heap.size,0,none⟩= some (.int .i64 4):=g.o.wa.cells 0 rfl;have b7:=I g.o.wb;have d8:=I (zm e0.o).2;go_wp2_with (first|(go_at_call 34;refine ze (zt 6 _) ?_)|((with_reducible refine za tyK39 _ rfl ?_ g.o.wa.range rfl ?_ ?_);exact wA rfl;rfl)|((with_reducible refine zi 39 _ _ rfl rfl ?_ b7.o ([.int .i64 4,.int .i64 n,.float .f64 f,.string sv,.slice NA ns.length nc,.slice A its.length c]) ?_ ?_ ?_ ?_ ?_ ?_);exact wA rfl;rfl;rfl;rfl;kernel_rfl;exact d8.o;intro Z2 HX X))
    (try simp only[Exit.inBlock,Exit.then])
    refine bodyPost_ret (zk rfl Tryz.underlying39 rfl _ _ (w.heap.size+1) ([.int .i64 4,.int .i64 n,.float .f64 f,.string sv,.slice NA ns.length nc,.slice A its.length c]) (by kernel_rfl) rfl HX.o.range) rfl ?_;have K:=g.o.bel.trans (X.o.below (B:=w.heap.size) g.o.bel.size (by omega) (by omega));exact .ok G.o rfl (HV.o.grow K) K
   ·rw[if_neg h] at C
    by_cases h2:kv= 1\/kv= 2\/kv= 3
    ·rw[if_pos h2] at C
     have h1:(decide (1<=kv) && decide (kv<=4))= true:=(by simp;omega);have h4:(kv !=4)= true:=(by simpa using h);have j0: ¬ kv= 4:=h;have G:=I C.symm;clear C;have x0:W.cell? ⟨px,o,none⟩= some (.int .i64 23):=(g.o.bel.cell (p:=⟨px,o,none⟩) Y.o).trans a1.o;have d0:W.cell? ⟨w.heap.size,0,none⟩= some (.int .i64 kv):=g.o.wa.cells 0 rfl;have f4:z6g (.mk kv n f sv ns its)= true:=a8.o;have g9:=I ((e0.o.under g.o.bel).more g.o.bel.size);have b8:=I (zfp (.mk kv n f sv ns its) _ W (g8.o.next g.o.bel) g9.o);rw[f4,if_pos rfl] at b8;have d9:Hid ((⟨(textV (.mk kv n f sv ns its)).toArray⟩:ByteArray).size<=maxLen):=I (by
      have h5:kv= 1\/kv= 2\/kv= 3:=by simp only[Bool.and_eq_true,decide_eq_true_eq] at h1;omega
      have hw:=b9.o.1;unfold wfI Lit.wf at hw;simp only[Bool.and_eq_true,decide_eq_true_eq] at hw;have:=z6v (k:=kv) (n:=n) (f:=f) (s:=sv) (ns:=ns) (its:=its) hw h5;show(textV _).toArray.size<=maxLen;rw[List.size_toArray];unfold maxLen;omega)
     obtain⟨h2,h3⟩:1<=kv/\kv<=4:=by simpa using h1
     obtain⟨tx,f6⟩:∃ tx:ByteArray,(⟨(textV (.mk kv n f sv ns its)).toArray⟩:ByteArray)= tx:=⟨_,rfl⟩;rw[f6] at b8 d9 G;clear f4 f6 h1;go_upto_region 22 with (first|(go_at_call 34;refine ze (zt 6 _) ?_)|((with_reducible refine za tyK39 _ rfl ?_ g.o.wa.range rfl ?_ ?_);exact wA rfl;rfl)|(go_at_call 121;refine b8.o.mono ?_;rintro e z ⟨rfl,N⟩;have a7:=I N;have a5:=I (g.o.wb.keep (N.block _ g.o.wb.lt));clear N));go_wp2_with (first|(go_at_call 122;refine(zeD tx _).mono ?_;rintro e z ⟨rfl,N⟩;have O:=I N;have a0:=I (a5.o.keep (N.block _ (a5.o.lt)));clear N)|((with_reducible refine zi 39 _ _ rfl rfl ?_ a0.o (valC 4 0 0 tx) ?_ ?_ ?_ ?_ ?_ ?_);exact wA rfl;rfl;rfl;rfl;kernel_rfl;exact z06 _ _ _ _;intro Z2 HX X))
     (try simp only[Exit.inBlock,Exit.then])
     refine bodyPost_ret (zk rfl Tryz.underlying39 rfl _ _ (w.heap.size+1) (valC 4 0 0 tx) (by kernel_rfl) rfl HX.o.range) rfl ?_;have K:=(g.o.bel.trans ((beT a7.o O.o).mono g.o.bel.size)).trans (X.o.below (B:=w.heap.size) (Nat.le_trans g.o.bel.size (beT a7.o O.o).size) (by omega) (by omega));exact .ok G.o rfl (zg3 _ _ tx d9.o) K
    ·rw[if_neg h2] at C
     have h1:(decide (1<=kv) && decide (kv<=4))= false:=(by by_cases h5:1<=kv;(simp;omega);(simp;omega));have G:=I C.symm;clear C;have x0:W.cell? ⟨px,o,none⟩= some (.int .i64 23):=(g.o.bel.cell (p:=⟨px,o,none⟩) Y.o).trans a1.o;have d0:W.cell? ⟨w.heap.size,0,none⟩= some (.int .i64 kv):=g.o.wa.cells 0 rfl;by_cases h2:1<=kv
     ·have h3: ¬ kv<=4:=by simpa [h2] using h1
      go_wp2_with ((go_at_call 34;refine ze (zJ 6 _) ?_));exact⟨rfl,.no G.o rfl g.o.bel⟩
     ·go_wp2_with ((go_at_call 34;refine ze (zJ 6 _) ?_))
      exact⟨rfl,.no G.o rfl g.o.bel⟩
  rw[if_neg k23] at C;by_cases k20:k= 20
  ·subst k20
   rw[if_pos rfl] at C;by_cases h:kv= 5
   ·subst h
    rw[if_pos (Or.inl rfl)] at C;have G:=I C.symm;clear C;have x0:W.cell? ⟨px,o,none⟩= some (.int .i64 20):=(g.o.bel.cell (p:=⟨px,o,none⟩) Y.o).trans a1.o;have d0:W.cell? ⟨w.heap.size,0,none⟩= some (.int .i64 5):=g.o.wa.cells 0 rfl;have d3:W.cell? ⟨w.heap.size,3,none⟩= some (.string sv):=g.o.wa.cells 3 rfl;have d5:W.cell? ⟨w.heap.size,5,none⟩= some (.slice A its.length c):=g.o.wa.cells 5 rfl;have g2:=I c8.o;have a9:(its.length:Int)+ (sv.size:Int)<=9000000000000000000:=by have h1:=(z0i a8.o).1;have h2:=z0v a8.o;omega
    have b0:IntKind.i64.wrap ((its.length:Int)+ (sv.size:Int))=(its.length:Int)+ (sv.size:Int):=by rw[IntKind.wrap_i64];omega
    have b1:wrap64 ((its.length:Int)+ (sv.size:Int))=(its.length:Int)+ (sv.size:Int):=by unfold wrap64;omega
    have a4:Hid (wfI ((its.length:Int)+ (sv.size:Int))):=I (z0k (by omega));obtain⟨m,hm⟩:∃ m,(its.length:Int)+ (sv.size:Int)= m:=⟨_,rfl⟩;rw[hm] at a4 G b0 b1;clear a9;go_wp2_with (first|(go_at_call 34;refine ze (zt 6 _) ?_)|(rw[hm];(go_at_call 120;refine(z1S m _).mono ?_;rintro e z ⟨rfl,N⟩;have O:=I N;have a0:=I (g.o.wb.keep (N.block _ (g.o.wb.lt)));clear N))|(go_at_call 120;refine(z1S m _).mono ?_;rintro e z ⟨rfl,N⟩;have O:=I N;have a0:=I (g.o.wb.keep (N.block _ (g.o.wb.lt)));clear N)|((with_reducible refine zi 39 _ _ rfl rfl ?_ a0.o (valC 2 m 0 ⟨#[]⟩) ?_ ?_ ?_ ?_ ?_ ?_);exact wA rfl;rfl;rfl;rfl;kernel_rfl;exact z06 _ _ _ _;intro Z2 HX X))
    (try simp only[Exit.inBlock,Exit.then])
    refine bodyPost_ret (zk rfl Tryz.underlying39 rfl _ _ (w.heap.size+1) (valC 2 m 0 ⟨#[]⟩) (by kernel_rfl) rfl HX.o.range) rfl ?_;have K:=(beT g.o.bel O.o).trans (X.o.below (B:=w.heap.size) (Nat.le_trans g.o.bel.size O.o.size) (by omega) (by omega));exact .ok G.o rfl (z2N _ _ m a4.o) K
   ·by_cases h2:kv= 4
    ·subst h2
     rw[if_pos (Or.inr rfl)] at C;have G:=I C.symm;clear C;have x0:W.cell? ⟨px,o,none⟩= some (.int .i64 20):=(g.o.bel.cell (p:=⟨px,o,none⟩) Y.o).trans a1.o;have d0:W.cell? ⟨w.heap.size,0,none⟩= some (.int .i64 4):=g.o.wa.cells 0 rfl;have d3:W.cell? ⟨w.heap.size,3,none⟩= some (.string sv):=g.o.wa.cells 3 rfl;have d5:W.cell? ⟨w.heap.size,5,none⟩= some (.slice A its.length c):=g.o.wa.cells 5 rfl;have g2:=I c8.o;have a9:(its.length:Int)+ (sv.size:Int)<=9000000000000000000:=by have h1:=(z0i a8.o).1;have h2:=z0v a8.o;omega
     have b0:IntKind.i64.wrap ((its.length:Int)+ (sv.size:Int))=(its.length:Int)+ (sv.size:Int):=by rw[IntKind.wrap_i64];omega
     have b1:wrap64 ((its.length:Int)+ (sv.size:Int))=(its.length:Int)+ (sv.size:Int):=by unfold wrap64;omega
     have a4:Hid (wfI ((its.length:Int)+ (sv.size:Int))):=I (z0k (by omega));obtain⟨m,hm⟩:∃ m,(its.length:Int)+ (sv.size:Int)= m:=⟨_,rfl⟩;rw[hm] at a4 G b0 b1;clear a9;go_wp2_with (first|(go_at_call 34;refine ze (zt 6 _) ?_)|(rw[hm];(go_at_call 120;refine(z1S m _).mono ?_;rintro e z ⟨rfl,N⟩;have O:=I N;have a0:=I (g.o.wb.keep (N.block _ (g.o.wb.lt)));clear N))|(go_at_call 120;refine(z1S m _).mono ?_;rintro e z ⟨rfl,N⟩;have O:=I N;have a0:=I (g.o.wb.keep (N.block _ (g.o.wb.lt)));clear N)|((with_reducible refine zi 39 _ _ rfl rfl ?_ a0.o (valC 2 m 0 ⟨#[]⟩) ?_ ?_ ?_ ?_ ?_ ?_);exact wA rfl;rfl;rfl;rfl;kernel_rfl;exact z06 _ _ _ _;intro Z2 HX X))
     (try simp only[Exit.inBlock,Exit.then])
     refine bodyPost_ret (zk rfl Tryz.underlying39 rfl _ _ (w.heap.size+1) (valC 2 m 0 ⟨#[]⟩) (by kernel_rfl) rfl HX.o.range) rfl ?_;have K:=(beT g.o.bel O.o).trans (X.o.below (B:=w.heap.size) (Nat.le_trans g.o.bel.size O.o.size) (by omega) (by omega));exact .ok G.o rfl (z2N _ _ m a4.o) K
    ·rw[if_neg (by omega)] at C
     have h1:(kv ==5)= false:=(by simpa using h);have h2:(kv ==4)= false:=(by simpa using h2);have G:=I C.symm;clear C;have x0:W.cell? ⟨px,o,none⟩= some (.int .i64 20):=(g.o.bel.cell (p:=⟨px,o,none⟩) Y.o).trans a1.o;have d0:W.cell? ⟨w.heap.size,0,none⟩= some (.int .i64 kv):=g.o.wa.cells 0 rfl;go_wp2_with ((go_at_call 34;refine ze (zJ 6 _) ?_));exact⟨rfl,.no G.o rfl g.o.bel⟩
  rw[if_neg k20] at C;have e18:(k ==18)= false:=by simpa using k18
  have e4:(k ==4)= false:=by simpa using k4
  have e21:(k ==21)= false:=by simpa using k21
  have e22:(k ==22)= false:=by simpa using k22
  have e23:(k ==23)= false:=by simpa using k23
  have e20:(k ==20)= false:=by simpa using k20
  by_cases h3:kv= 3
  ·subst h3
   rw[if_pos rfl] at C;have G:=I C.symm;clear C;have x0:W.cell? ⟨px,o,none⟩= some (.int .i64 k):=(g.o.bel.cell (p:=⟨px,o,none⟩) Y.o).trans a1.o;have d0:W.cell? ⟨w.heap.size,0,none⟩= some (.int .i64 3):=g.o.wa.cells 0 rfl;have d2:W.cell? ⟨w.heap.size,2,none⟩= some (.float .f64 f):=g.o.wa.cells 2 rfl;have g5:=I (fun w=>zeK f w);go_wp2_with (first|(go_at_call 34;refine ze (zt 6 _) ?_)|(go_at_call 123;refine ze (g5.o _) ?_)|(go_at_call 117;refine(z8v (zu (unV.fNeg f)) _).mono ?_;rintro e z ⟨rfl,N⟩;have O:=I N;have a0:=I (g.o.wb.keep (N.block _ (g.o.wb.lt)));clear N)|((with_reducible refine zi 39 _ _ rfl rfl ?_ a0.o (valC 3 0 (zu (zu (unV.fNeg f))) ⟨#[]⟩) ?_ ?_ ?_ ?_ ?_ ?_);exact wA rfl;rfl;rfl;rfl;kernel_rfl;exact z06 _ _ _ _;intro Z2 HX X))
   (try simp only[Exit.inBlock,Exit.then])
   refine bodyPost_ret (zk rfl Tryz.underlying39 rfl _ _ (w.heap.size+1) (valC 3 0 (zu (zu (unV.fNeg f))) ⟨#[]⟩) (by kernel_rfl) rfl HX.o.range) rfl ?_;have K:=(beT g.o.bel O.o).trans (X.o.below (B:=w.heap.size) (Nat.le_trans g.o.bel.size O.o.size) (by omega) (by omega));exact .ok G.o rfl (by rw[z59];exact z6N _ _ _ (z49 (zh5 b9.o.2.1))) K
  rw[if_neg h3] at C;by_cases h2:kv= 2
  ·subst h2
   rw[if_pos rfl] at C;by_cases hn:n= -9223372036854775808
   ·rw[if_pos hn] at C
    have a3:Hid (n= -9223372036854775808):=(I hn);clear hn;have G:=I C.symm;clear C;have x0:W.cell? ⟨px,o,none⟩= some (.int .i64 k):=(g.o.bel.cell (p:=⟨px,o,none⟩) Y.o).trans a1.o;have d0:W.cell? ⟨w.heap.size,0,none⟩= some (.int .i64 2):=g.o.wa.cells 0 rfl;have d1:W.cell? ⟨w.heap.size,1,none⟩= some (.int .i64 n):=g.o.wa.cells 1 rfl;have b0:IntKind.i64.wrap (-n)= n:=by rw[IntKind.wrap_i64];have:=a3.o;omega
    have b1:wrap64 (-n)= n:=by unfold wrap64;have:=a3.o;omega
    have j6:(n ==0)= false:=by have:=a3.o;simp;omega
    have j7: ¬ n= 0:=by have:=a3.o;omega
    clear a3;go_wp2_with (first|(go_at_call 34;refine ze (zt 6 _) ?_)|(go_at_call 34;refine ze (zJ 7 _) ?_));exact⟨rfl,.no G.o rfl g.o.bel⟩
   ·rw[if_neg hn] at C
    have a3: ¬ n= -9223372036854775808:=hn;have G:=I C.symm;clear C;have x0:W.cell? ⟨px,o,none⟩= some (.int .i64 k):=(g.o.bel.cell (p:=⟨px,o,none⟩) Y.o).trans a1.o;have d0:W.cell? ⟨w.heap.size,0,none⟩= some (.int .i64 2):=g.o.wa.cells 0 rfl;have d1:W.cell? ⟨w.heap.size,1,none⟩= some (.int .i64 n):=g.o.wa.cells 1 rfl;have b4:=b9.o.1;unfold wfI Lit.wf at b4;simp only[Bool.and_eq_true,decide_eq_true_eq] at b4;have f0:IntKind.i64.min= -9223372036854775808:=rfl;have e9:IntKind.i64.max= 9223372036854775807:=rfl;rw[f0,e9] at b4;have b0:IntKind.i64.wrap (-n)= -n:=by rw[IntKind.wrap_i64];omega
    have b1:wrap64 (-n)= -n:=by unfold wrap64;omega
    have a4:Hid (wfI (-n)):=I (z0k (by omega));clear b4 f0 e9 a3;by_cases h0:n= 0
    ·subst h0
     go_wp2_with (first|(go_at_call 34;refine ze (zt 6 _) ?_)|(go_at_call 34;refine ze (zt 7 _) ?_)|(go_at_call 120;refine(z1S 0 _).mono ?_;rintro e z ⟨rfl,N⟩;have O:=I N;have a0:=I (g.o.wb.keep (N.block _ (g.o.wb.lt)));clear N)|((with_reducible refine zi 39 _ _ rfl rfl ?_ a0.o (valC 2 0 0 ⟨#[]⟩) ?_ ?_ ?_ ?_ ?_ ?_);exact wA rfl;rfl;rfl;rfl;kernel_rfl;exact z06 _ _ _ _;intro Z2 HX X))
     (try simp only[Exit.inBlock,Exit.then])
     refine bodyPost_ret (zk rfl Tryz.underlying39 rfl _ _ (w.heap.size+1) (valC 2 0 0 ⟨#[]⟩) (by kernel_rfl) rfl HX.o.range) rfl ?_;have K:=(beT g.o.bel O.o).trans (X.o.below (B:=w.heap.size) (Nat.le_trans g.o.bel.size O.o.size) (by omega) (by omega));exact .ok G.o rfl (z2N _ _ 0 (z0k (by omega))) K
    ·have j4:(n != -n)= true:=by simp;omega
     have i7: ¬ n= -n:=by omega
     go_wp2_with (first|(go_at_call 34;refine ze (zt 6 _) ?_)|(go_at_call 34;refine ze (zt 7 _) ?_)|(go_at_call 120;refine(z1S (-n) _).mono ?_;rintro e z ⟨rfl,N⟩;have O:=I N;have a0:=I (g.o.wb.keep (N.block _ (g.o.wb.lt)));clear N)|((with_reducible refine zi 39 _ _ rfl rfl ?_ a0.o (valC 2 (-n) 0 ⟨#[]⟩) ?_ ?_ ?_ ?_ ?_ ?_);exact wA rfl;rfl;rfl;rfl;kernel_rfl;exact z06 _ _ _ _;intro Z2 HX X))
     (try simp only[Exit.inBlock,Exit.then])
     refine bodyPost_ret (zk rfl Tryz.underlying39 rfl _ _ (w.heap.size+1) (valC 2 (-n) 0 ⟨#[]⟩) (by kernel_rfl) rfl HX.o.range) rfl ?_;have K:=(beT g.o.bel O.o).trans (X.o.below (B:=w.heap.size) (Nat.le_trans g.o.bel.size O.o.size) (by omega) (by omega));exact .ok G.o rfl (z2N _ _ _ a4.o) K
  ·rw[if_neg h2] at C
   have h1:(kv ==3)= false:=(by simpa using h3);have h2:(kv ==2)= false:=(by simpa using h2);have G:=I C.symm;clear C;have x0:W.cell? ⟨px,o,none⟩= some (.int .i64 k):=(g.o.bel.cell (p:=⟨px,o,none⟩) Y.o).trans a1.o;have d0:W.cell? ⟨w.heap.size,0,none⟩= some (.int .i64 kv):=g.o.wa.cells 0 rfl;go_wp2_with ((go_at_call 34;refine ze (zJ 6 _) ?_));exact⟨rfl,.no G.o rfl g.o.bel⟩
end
section
open Go Go.RowKit
theorem z7g (a:Int) (ha: -9223372036854775808<=a/\a<=9223372036854775807) (w:World):Calls Tryz.prog 199 #[.int .i64 a] w fun e w'=>e= .returned (.int .u64 ((a.natAbs:Nat):Int))/\w'= w:=by
 by_cases h:a < 0
 ·have e1:IntKind.u64.wrap (-(IntKind.u64.wrap a))=((a.natAbs:Nat):Int):=by rw[IntKind.wrap_u64,IntKind.wrap_u64];omega
  go_enter Tryz.func199,Tryz.ntmps199;go_wp2;go_ret;exact⟨by first|rw[e1]|rfl,rfl⟩
 ·have e1:IntKind.u64.wrap a=((a.natAbs:Nat):Int):=by rw[IntKind.wrap_u64];omega
  go_enter Tryz.func199,Tryz.ntmps199;go_wp2;go_ret;exact⟨by first|rw[e1]|rfl,rfl⟩
def IntPost (r:Except Int Int) (w:World) (e:Ending) (w':World):Prop:=((∃ n,r= .ok n/\e= .returned (.int .i64 n))\/(∃ c,r= .error c/\e= panE c))/\w'= w
theorem IntPost.ok {n:Int} {w:World} {e:Ending} {w':World} {r:Except Int Int} (hr:r= .ok n) (he:e= .returned (.int .i64 n)) (hw:w'= w):IntPost r w e w':=⟨.inl ⟨n,hr,he⟩,hw⟩
theorem IntPost.no {c:Int} {w:World} {e:Ending} {w':World} {r:Except Int Int} (hr:r= .error c) (he:e= panE c) (hw:w'= w):IntPost r w e w':=⟨.inr ⟨c,hr,he⟩,hw⟩
theorem zdI (a b X Y q r R:Int) (sa:decide (a < 0)= true) (sb:decide (b < 0)= true) (HS1:Hid (∀ w:World,Calls Tryz.prog 199 #[.int .i64 a] w fun e w'=>e= .returned (.int .u64 X)/\w'= w)) (HS2:Hid (∀ w:World,Calls Tryz.prog 199 #[.int .i64 b] w fun e w'=>e= .returned (.int .u64 Y)/\w'= w))
  (HM:Hid (∀ w:World,Calls Tryz.prog 198 #[.int .u64 X,.int .u64 Y] w fun e w'=>e= .returned (.tuple #[.int .u64 q,.int .u64 r])/\w'= w)) (hq:q= 0) (hr:decide (r<=9223372036854775807)= true) (e3:IntKind.i64.wrap r= R) (w:World):
  Calls Tryz.prog 155 #[.int .i64 a,.int .i64 b] w fun e w'=>e= .returned (.int .i64 R)/\w'= w:=by
 subst hq;have g:IntKind.u64.wrap (9223372036854775808 - 1)= 9223372036854775807:=by rw[IntKind.wrap_u64];omega
 go_enter Tryz.func155,Tryz.ntmps155;go_wp2_with (first|(go_at_call 199;first|((with_reducible refine ze (HS1.o _) ?_))|((with_reducible refine ze (HS2.o _) ?_)))|(go_at_call 198;refine ze (HM.o _) ?_)|(go_at_call 34;refine ze (zt 7 _) ?_));go_ret;exact⟨by first|rfl|rw[e3]|simp[e3],rfl⟩
theorem zdG (a b X Y q r:Int) (sa:decide (a < 0)= true) (sb:decide (b < 0)= true) (HS1:Hid (∀ w:World,Calls Tryz.prog 199 #[.int .i64 a] w fun e w'=>e= .returned (.int .u64 X)/\w'= w)) (HS2:Hid (∀ w:World,Calls Tryz.prog 199 #[.int .i64 b] w fun e w'=>e= .returned (.int .u64 Y)/\w'= w))
  (HM:Hid (∀ w:World,Calls Tryz.prog 198 #[.int .u64 X,.int .u64 Y] w fun e w'=>e= .returned (.tuple #[.int .u64 q,.int .u64 r])/\w'= w)) (hq:q= 0) (hr:decide (r<=9223372036854775807)= false) (w:World):
  Calls Tryz.prog 155 #[.int .i64 a,.int .i64 b] w fun e w'=>e= panE 7/\w'= w:=by
 subst hq;have g:IntKind.u64.wrap (9223372036854775808 - 1)= 9223372036854775807:=by rw[IntKind.wrap_u64];omega
 go_enter Tryz.func155,Tryz.ntmps155;go_wp2_with (first|(go_at_call 199;first|((with_reducible refine ze (HS1.o _) ?_))|((with_reducible refine ze (HS2.o _) ?_)))|(go_at_call 198;refine ze (HM.o _) ?_)|(go_at_call 34;refine ze (zJ 7 _) ?_));exact⟨rfl,rfl,rfl⟩
theorem zdH (a b X Y q r:Int) (sa:decide (a < 0)= true) (sb:decide (b < 0)= true) (HS1:Hid (∀ w:World,Calls Tryz.prog 199 #[.int .i64 a] w fun e w'=>e= .returned (.int .u64 X)/\w'= w)) (HS2:Hid (∀ w:World,Calls Tryz.prog 199 #[.int .i64 b] w fun e w'=>e= .returned (.int .u64 Y)/\w'= w))
  (HM:Hid (∀ w:World,Calls Tryz.prog 198 #[.int .u64 X,.int .u64 Y] w fun e w'=>e= .returned (.tuple #[.int .u64 q,.int .u64 r])/\w'= w)) (hq:(q ==0)= false) (w:World):
  Calls Tryz.prog 155 #[.int .i64 a,.int .i64 b] w fun e w'=>e= panE 7/\w'= w:=by
 have g:IntKind.u64.wrap (9223372036854775808 - 1)= 9223372036854775807:=by rw[IntKind.wrap_u64];omega
 go_enter Tryz.func155,Tryz.ntmps155;go_wp2_with (first|(go_at_call 199;first|((with_reducible refine ze (HS1.o _) ?_))|((with_reducible refine ze (HS2.o _) ?_)))|(go_at_call 198;refine ze (HM.o _) ?_)|(go_at_call 34;refine ze (zJ 7 _) ?_));exact⟨rfl,rfl,rfl⟩
theorem zdF (a b X Y q r R:Int) (sa:decide (a < 0)= true) (sb:decide (b < 0)= false) (HS1:Hid (∀ w:World,Calls Tryz.prog 199 #[.int .i64 a] w fun e w'=>e= .returned (.int .u64 X)/\w'= w)) (HS2:Hid (∀ w:World,Calls Tryz.prog 199 #[.int .i64 b] w fun e w'=>e= .returned (.int .u64 Y)/\w'= w))
  (HM:Hid (∀ w:World,Calls Tryz.prog 198 #[.int .u64 X,.int .u64 Y] w fun e w'=>e= .returned (.tuple #[.int .u64 q,.int .u64 r])/\w'= w)) (hq:q= 0) (hr:decide (r<=9223372036854775808)= true) (e3:IntKind.i64.wrap (IntKind.u64.wrap (-r))= R) (w:World):
  Calls Tryz.prog 155 #[.int .i64 a,.int .i64 b] w fun e w'=>e= .returned (.int .i64 R)/\w'= w:=by
 subst hq;have g:IntKind.u64.wrap (9223372036854775808 - 1)= 9223372036854775807:=by rw[IntKind.wrap_u64];omega
 go_enter Tryz.func155,Tryz.ntmps155;go_wp2_with (first|(go_at_call 199;first|((with_reducible refine ze (HS1.o _) ?_))|((with_reducible refine ze (HS2.o _) ?_)))|(go_at_call 198;refine ze (HM.o _) ?_)|(go_at_call 34;refine ze (zt 7 _) ?_));go_ret;exact⟨by first|rfl|rw[e3]|simp[e3],rfl⟩
theorem zdD (a b X Y q r:Int) (sa:decide (a < 0)= true) (sb:decide (b < 0)= false) (HS1:Hid (∀ w:World,Calls Tryz.prog 199 #[.int .i64 a] w fun e w'=>e= .returned (.int .u64 X)/\w'= w)) (HS2:Hid (∀ w:World,Calls Tryz.prog 199 #[.int .i64 b] w fun e w'=>e= .returned (.int .u64 Y)/\w'= w))
  (HM:Hid (∀ w:World,Calls Tryz.prog 198 #[.int .u64 X,.int .u64 Y] w fun e w'=>e= .returned (.tuple #[.int .u64 q,.int .u64 r])/\w'= w)) (hq:q= 0) (hr:decide (r<=9223372036854775808)= false) (w:World):
  Calls Tryz.prog 155 #[.int .i64 a,.int .i64 b] w fun e w'=>e= panE 7/\w'= w:=by
 subst hq;have g:IntKind.u64.wrap (9223372036854775808 - 1)= 9223372036854775807:=by rw[IntKind.wrap_u64];omega
 go_enter Tryz.func155,Tryz.ntmps155;go_wp2_with (first|(go_at_call 199;first|((with_reducible refine ze (HS1.o _) ?_))|((with_reducible refine ze (HS2.o _) ?_)))|(go_at_call 198;refine ze (HM.o _) ?_)|(go_at_call 34;refine ze (zJ 7 _) ?_));exact⟨rfl,rfl,rfl⟩
theorem zdE (a b X Y q r:Int) (sa:decide (a < 0)= true) (sb:decide (b < 0)= false) (HS1:Hid (∀ w:World,Calls Tryz.prog 199 #[.int .i64 a] w fun e w'=>e= .returned (.int .u64 X)/\w'= w)) (HS2:Hid (∀ w:World,Calls Tryz.prog 199 #[.int .i64 b] w fun e w'=>e= .returned (.int .u64 Y)/\w'= w))
  (HM:Hid (∀ w:World,Calls Tryz.prog 198 #[.int .u64 X,.int .u64 Y] w fun e w'=>e= .returned (.tuple #[.int .u64 q,.int .u64 r])/\w'= w)) (hq:(q ==0)= false) (w:World):
  Calls Tryz.prog 155 #[.int .i64 a,.int .i64 b] w fun e w'=>e= panE 7/\w'= w:=by
 have g:IntKind.u64.wrap (9223372036854775808 - 1)= 9223372036854775807:=by rw[IntKind.wrap_u64];omega
 go_enter Tryz.func155,Tryz.ntmps155;go_wp2_with (first|(go_at_call 199;first|((with_reducible refine ze (HS1.o _) ?_))|((with_reducible refine ze (HS2.o _) ?_)))|(go_at_call 198;refine ze (HM.o _) ?_)|(go_at_call 34;refine ze (zJ 7 _) ?_));exact⟨rfl,rfl,rfl⟩
theorem zdC (a b X Y q r R:Int) (sa:decide (a < 0)= false) (sb:decide (b < 0)= true) (HS1:Hid (∀ w:World,Calls Tryz.prog 199 #[.int .i64 a] w fun e w'=>e= .returned (.int .u64 X)/\w'= w)) (HS2:Hid (∀ w:World,Calls Tryz.prog 199 #[.int .i64 b] w fun e w'=>e= .returned (.int .u64 Y)/\w'= w))
  (HM:Hid (∀ w:World,Calls Tryz.prog 198 #[.int .u64 X,.int .u64 Y] w fun e w'=>e= .returned (.tuple #[.int .u64 q,.int .u64 r])/\w'= w)) (hq:q= 0) (hr:decide (r<=9223372036854775808)= true) (e3:IntKind.i64.wrap (IntKind.u64.wrap (-r))= R) (w:World):
  Calls Tryz.prog 155 #[.int .i64 a,.int .i64 b] w fun e w'=>e= .returned (.int .i64 R)/\w'= w:=by
 subst hq;have g:IntKind.u64.wrap (9223372036854775808 - 1)= 9223372036854775807:=by rw[IntKind.wrap_u64];omega
 go_enter Tryz.func155,Tryz.ntmps155;go_wp2_with (first|(go_at_call 199;first|((with_reducible refine ze (HS1.o _) ?_))|((with_reducible refine ze (HS2.o _) ?_)))|(go_at_call 198;refine ze (HM.o _) ?_)|(go_at_call 34;refine ze (zt 7 _) ?_));go_ret;exact⟨by first|rfl|rw[e3]|simp[e3],rfl⟩
theorem zdA (a b X Y q r:Int) (sa:decide (a < 0)= false) (sb:decide (b < 0)= true) (HS1:Hid (∀ w:World,Calls Tryz.prog 199 #[.int .i64 a] w fun e w'=>e= .returned (.int .u64 X)/\w'= w)) (HS2:Hid (∀ w:World,Calls Tryz.prog 199 #[.int .i64 b] w fun e w'=>e= .returned (.int .u64 Y)/\w'= w))
  (HM:Hid (∀ w:World,Calls Tryz.prog 198 #[.int .u64 X,.int .u64 Y] w fun e w'=>e= .returned (.tuple #[.int .u64 q,.int .u64 r])/\w'= w)) (hq:q= 0) (hr:decide (r<=9223372036854775808)= false) (w:World):
  Calls Tryz.prog 155 #[.int .i64 a,.int .i64 b] w fun e w'=>e= panE 7/\w'= w:=by
 subst hq;have g:IntKind.u64.wrap (9223372036854775808 - 1)= 9223372036854775807:=by rw[IntKind.wrap_u64];omega
 go_enter Tryz.func155,Tryz.ntmps155;go_wp2_with (first|(go_at_call 199;first|((with_reducible refine ze (HS1.o _) ?_))|((with_reducible refine ze (HS2.o _) ?_)))|(go_at_call 198;refine ze (HM.o _) ?_)|(go_at_call 34;refine ze (zJ 7 _) ?_));exact⟨rfl,rfl,rfl⟩
theorem zdB (a b X Y q r:Int) (sa:decide (a < 0)= false) (sb:decide (b < 0)= true) (HS1:Hid (∀ w:World,Calls Tryz.prog 199 #[.int .i64 a] w fun e w'=>e= .returned (.int .u64 X)/\w'= w)) (HS2:Hid (∀ w:World,Calls Tryz.prog 199 #[.int .i64 b] w fun e w'=>e= .returned (.int .u64 Y)/\w'= w))
  (HM:Hid (∀ w:World,Calls Tryz.prog 198 #[.int .u64 X,.int .u64 Y] w fun e w'=>e= .returned (.tuple #[.int .u64 q,.int .u64 r])/\w'= w)) (hq:(q ==0)= false) (w:World):
  Calls Tryz.prog 155 #[.int .i64 a,.int .i64 b] w fun e w'=>e= panE 7/\w'= w:=by
 have g:IntKind.u64.wrap (9223372036854775808 - 1)= 9223372036854775807:=by rw[IntKind.wrap_u64];omega
 go_enter Tryz.func155,Tryz.ntmps155;go_wp2_with (first|(go_at_call 199;first|((with_reducible refine ze (HS1.o _) ?_))|((with_reducible refine ze (HS2.o _) ?_)))|(go_at_call 198;refine ze (HM.o _) ?_)|(go_at_call 34;refine ze (zJ 7 _) ?_));exact⟨rfl,rfl,rfl⟩
theorem zdz (a b X Y q r R:Int) (sa:decide (a < 0)= false) (sb:decide (b < 0)= false) (HS1:Hid (∀ w:World,Calls Tryz.prog 199 #[.int .i64 a] w fun e w'=>e= .returned (.int .u64 X)/\w'= w)) (HS2:Hid (∀ w:World,Calls Tryz.prog 199 #[.int .i64 b] w fun e w'=>e= .returned (.int .u64 Y)/\w'= w))
  (HM:Hid (∀ w:World,Calls Tryz.prog 198 #[.int .u64 X,.int .u64 Y] w fun e w'=>e= .returned (.tuple #[.int .u64 q,.int .u64 r])/\w'= w)) (hq:q= 0) (hr:decide (r<=9223372036854775807)= true) (e3:IntKind.i64.wrap r= R) (w:World):
  Calls Tryz.prog 155 #[.int .i64 a,.int .i64 b] w fun e w'=>e= .returned (.int .i64 R)/\w'= w:=by
 subst hq;have g:IntKind.u64.wrap (9223372036854775808 - 1)= 9223372036854775807:=by rw[IntKind.wrap_u64];omega
 go_enter Tryz.func155,Tryz.ntmps155;go_wp2_with (first|(go_at_call 199;first|((with_reducible refine ze (HS1.o _) ?_))|((with_reducible refine ze (HS2.o _) ?_)))|(go_at_call 198;refine ze (HM.o _) ?_)|(go_at_call 34;refine ze (zt 7 _) ?_));go_ret;exact⟨by first|rfl|rw[e3]|simp[e3],rfl⟩
theorem zdx (a b X Y q r:Int) (sa:decide (a < 0)= false) (sb:decide (b < 0)= false) (HS1:Hid (∀ w:World,Calls Tryz.prog 199 #[.int .i64 a] w fun e w'=>e= .returned (.int .u64 X)/\w'= w)) (HS2:Hid (∀ w:World,Calls Tryz.prog 199 #[.int .i64 b] w fun e w'=>e= .returned (.int .u64 Y)/\w'= w))
  (HM:Hid (∀ w:World,Calls Tryz.prog 198 #[.int .u64 X,.int .u64 Y] w fun e w'=>e= .returned (.tuple #[.int .u64 q,.int .u64 r])/\w'= w)) (hq:q= 0) (hr:decide (r<=9223372036854775807)= false) (w:World):
  Calls Tryz.prog 155 #[.int .i64 a,.int .i64 b] w fun e w'=>e= panE 7/\w'= w:=by
 subst hq;have g:IntKind.u64.wrap (9223372036854775808 - 1)= 9223372036854775807:=by rw[IntKind.wrap_u64];omega
 go_enter Tryz.func155,Tryz.ntmps155;go_wp2_with (first|(go_at_call 199;first|((with_reducible refine ze (HS1.o _) ?_))|((with_reducible refine ze (HS2.o _) ?_)))|(go_at_call 198;refine ze (HM.o _) ?_)|(go_at_call 34;refine ze (zJ 7 _) ?_));exact⟨rfl,rfl,rfl⟩
theorem zdy (a b X Y q r:Int) (sa:decide (a < 0)= false) (sb:decide (b < 0)= false) (HS1:Hid (∀ w:World,Calls Tryz.prog 199 #[.int .i64 a] w fun e w'=>e= .returned (.int .u64 X)/\w'= w)) (HS2:Hid (∀ w:World,Calls Tryz.prog 199 #[.int .i64 b] w fun e w'=>e= .returned (.int .u64 Y)/\w'= w))
  (HM:Hid (∀ w:World,Calls Tryz.prog 198 #[.int .u64 X,.int .u64 Y] w fun e w'=>e= .returned (.tuple #[.int .u64 q,.int .u64 r])/\w'= w)) (hq:(q ==0)= false) (w:World):
  Calls Tryz.prog 155 #[.int .i64 a,.int .i64 b] w fun e w'=>e= panE 7/\w'= w:=by
 have g:IntKind.u64.wrap (9223372036854775808 - 1)= 9223372036854775807:=by rw[IntKind.wrap_u64];omega
 go_enter Tryz.func155,Tryz.ntmps155;go_wp2_with (first|(go_at_call 199;first|((with_reducible refine ze (HS1.o _) ?_))|((with_reducible refine ze (HS2.o _) ?_)))|(go_at_call 198;refine ze (HM.o _) ?_)|(go_at_call 34;refine ze (zJ 7 _) ?_));exact⟨rfl,rfl,rfl⟩
theorem zdJ (a b:Int) (ha: -9223372036854775808<=a/\a<=9223372036854775807) (hb: -9223372036854775808<=b/\b<=9223372036854775807) (w:World):
  Calls Tryz.prog 155 #[.int .i64 a,.int .i64 b] w (IntPost (okI (a*b)) w):=by
 have g:=I (z7g a ha);have A:=I (z7g b hb);have G:=I (fun w=>Tryz.bits_Mul64 a.natAbs b.natAbs (by omega) (by omega) w);by_cases sa:a < 0
 ·by_cases sb:b < 0
  ·have C:=z4y (a:=a) (b:=b) (by constructor<;>intro<;>omega)
   by_cases hp:a.natAbs*b.natAbs<=9223372036854775807
   ·refine(zdI a b _ _ _ _ ((a.natAbs*b.natAbs:Nat):Int) (decide_eq_true sa) (decide_eq_true sb) g A G (by omega) (decide_eq_true (by omega)) (by rw[wrapI];omega) w).mono fun e w' h=> .ok (by rw[C,if_pos hp]) h.1 h.2
   ·by_cases h1:a.natAbs*b.natAbs / 18446744073709551616= 0
    ·refine(zdG a b _ _ _ _ (decide_eq_true sa) (decide_eq_true sb) g A G (by omega) (decide_eq_false (by omega)) w).mono fun e w' h=> .no (by rw[C,if_neg hp]) h.1 h.2
    ·refine(zdH a b _ _ _ _ (decide_eq_true sa) (decide_eq_true sb) g A G (by rw[beq_eq_false_iff_ne];omega) w).mono fun e w' h=> .no (by rw[C,if_neg hp]) h.1 h.2
  ·have C:=z4c (a:=a) (b:=b) (by omega)
   by_cases hp:a.natAbs*b.natAbs<=9223372036854775808
   ·refine(zdF a b _ _ _ _ (-((a.natAbs*b.natAbs:Nat):Int)) (decide_eq_true sa) (decide_eq_false sb) g A G (by omega) (decide_eq_true (by omega)) (by rw[wrapI,IntKind.wrap_u64];omega) w).mono fun e w' h=> .ok (by rw[C,if_pos hp]) h.1 h.2
   ·by_cases h1:a.natAbs*b.natAbs / 18446744073709551616= 0
    ·refine(zdD a b _ _ _ _ (decide_eq_true sa) (decide_eq_false sb) g A G (by omega) (decide_eq_false (by omega)) w).mono fun e w' h=> .no (by rw[C,if_neg hp]) h.1 h.2
    ·refine(zdE a b _ _ _ _ (decide_eq_true sa) (decide_eq_false sb) g A G (by rw[beq_eq_false_iff_ne];omega) w).mono fun e w' h=> .no (by rw[C,if_neg hp]) h.1 h.2
 ·by_cases sb:b < 0
  ·have C:=z4c (a:=a) (b:=b) (by omega)
   by_cases hp:a.natAbs*b.natAbs<=9223372036854775808
   ·refine(zdC a b _ _ _ _ (-((a.natAbs*b.natAbs:Nat):Int)) (decide_eq_false sa) (decide_eq_true sb) g A G (by omega) (decide_eq_true (by omega)) (by rw[wrapI,IntKind.wrap_u64];omega) w).mono fun e w' h=> .ok (by rw[C,if_pos hp]) h.1 h.2
   ·by_cases h1:a.natAbs*b.natAbs / 18446744073709551616= 0
    ·refine(zdA a b _ _ _ _ (decide_eq_false sa) (decide_eq_true sb) g A G (by omega) (decide_eq_false (by omega)) w).mono fun e w' h=> .no (by rw[C,if_neg hp]) h.1 h.2
    ·refine(zdB a b _ _ _ _ (decide_eq_false sa) (decide_eq_true sb) g A G (by rw[beq_eq_false_iff_ne];omega) w).mono fun e w' h=> .no (by rw[C,if_neg hp]) h.1 h.2
  ·have C:=z4y (a:=a) (b:=b) (by constructor<;>intro<;>omega)
   by_cases hp:a.natAbs*b.natAbs<=9223372036854775807
   ·refine(zdz a b _ _ _ _ ((a.natAbs*b.natAbs:Nat):Int) (decide_eq_false sa) (decide_eq_false sb) g A G (by omega) (decide_eq_true (by omega)) (by rw[wrapI];omega) w).mono fun e w' h=> .ok (by rw[C,if_pos hp]) h.1 h.2
   ·by_cases h1:a.natAbs*b.natAbs / 18446744073709551616= 0
    ·refine(zdx a b _ _ _ _ (decide_eq_false sa) (decide_eq_false sb) g A G (by omega) (decide_eq_false (by omega)) w).mono fun e w' h=> .no (by rw[C,if_neg hp]) h.1 h.2
    ·refine(zdy a b _ _ _ _ (decide_eq_false sa) (decide_eq_false sb) g A G (by rw[beq_eq_false_iff_ne];omega) w).mono fun e w' h=> .no (by rw[C,if_neg hp]) h.1 h.2
end
section
open Go Go.RowKit
theorem zbB (a b n:Int) (hn:wrap64 (a+b)= n) (hs:0<=bits .and .i64 (bits .xor .i64 a n) (bits .xor .i64 b n)) (w:World):
  Calls Tryz.prog 126 #[.int .i64 5,.int .i64 a,.int .i64 b] w fun e w'=>e= .returned (.int .i64 n)/\w'= w:=by
 go_enter Tryz.func126,Tryz.ntmps126;go_wp2_with ((go_at_call 34;refine ze (zt 7 _) ?_));go_ret;exact⟨rfl,rfl⟩
theorem zbA (a b n:Int) (hn:wrap64 (a+b)= n) (hs: ¬ 0<=bits .and .i64 (bits .xor .i64 a n) (bits .xor .i64 b n)) (w:World):
  Calls Tryz.prog 126 #[.int .i64 5,.int .i64 a,.int .i64 b] w fun e w'=>e= panE 7/\w'= w:=by
 go_enter Tryz.func126,Tryz.ntmps126;go_wp2_with ((go_at_call 34;refine ze (zJ 7 _) ?_));exact⟨rfl,rfl,rfl⟩
theorem zbz (a b:Int) (ha: -9223372036854775808<=a/\a<=9223372036854775807) (hb: -9223372036854775808<=b/\b<=9223372036854775807) (w:World):
  Calls Tryz.prog 126 #[.int .i64 5,.int .i64 a,.int .i64 b] w (IntPost (okI (a+b)) w):=by
 have g:=zgq ha hb;by_cases h: -9223372036854775808<=a+b/\a+b<=9223372036854775807
 ·have A:wrap64 (a+b)= a+b:=by unfold wrap64;omega
  rw[A] at g;exact(zbB a b _ A (g.2 h) w).mono fun e w' h2=> .ok (z4U h) h2.1 h2.2
 ·exact(zbA a b _ rfl (mt g.1 h) w).mono fun e w' h2=> .no (z8P h) h2.1 h2.2
theorem zbI (a b n:Int) (hn:wrap64 (a - b)= n) (hs:0<=bits .and .i64 (bits .xor .i64 a b) (bits .xor .i64 a n)) (w:World):
  Calls Tryz.prog 126 #[.int .i64 6,.int .i64 a,.int .i64 b] w fun e w'=>e= .returned (.int .i64 n)/\w'= w:=by
 go_enter Tryz.func126,Tryz.ntmps126;go_wp2_with ((go_at_call 34;refine ze (zt 7 _) ?_));go_ret;exact⟨rfl,rfl⟩
theorem zbH (a b n:Int) (hn:wrap64 (a - b)= n) (hs: ¬ 0<=bits .and .i64 (bits .xor .i64 a b) (bits .xor .i64 a n)) (w:World):
  Calls Tryz.prog 126 #[.int .i64 6,.int .i64 a,.int .i64 b] w fun e w'=>e= panE 7/\w'= w:=by
 go_enter Tryz.func126,Tryz.ntmps126;go_wp2_with ((go_at_call 34;refine ze (zJ 7 _) ?_));exact⟨rfl,rfl,rfl⟩
theorem zbG (a b:Int) (ha: -9223372036854775808<=a/\a<=9223372036854775807) (hb: -9223372036854775808<=b/\b<=9223372036854775807) (w:World):
  Calls Tryz.prog 126 #[.int .i64 6,.int .i64 a,.int .i64 b] w (IntPost (okI (a - b)) w):=by
 have g:=zes ha hb;by_cases h: -9223372036854775808<=a - b/\a - b<=9223372036854775807
 ·have A:wrap64 (a - b)= a - b:=by unfold wrap64;omega
  rw[A] at g;exact(zbI a b _ A (g.2 h) w).mono fun e w' h2=> .ok (z4U h) h2.1 h2.2
 ·exact(zbH a b _ rfl (mt g.1 h) w).mono fun e w' h2=> .no (z8P h) h2.1 h2.2
theorem zbF (a b:Int) (ha: -9223372036854775808<=a/\a<=9223372036854775807) (hb: -9223372036854775808<=b/\b<=9223372036854775807) (w:World):
  Calls Tryz.prog 126 #[.int .i64 7,.int .i64 a,.int .i64 b] w (IntPost (okI (a*b)) w):=by
 have C:=I (zdJ a b ha hb w);go_enter Tryz.func126,Tryz.ntmps126;go_wp2_with (go_at_call 155;fail);refine C.o.mono ?_;rintro e w' ⟨⟨n,g,rfl⟩|⟨c,g,rfl⟩,rfl⟩
 ·have A:=I g
  clear g C;go_wp2;go_ret;exact .ok A.o rfl rfl
 ·have A:=I g
  clear g C;go_wp2;exact⟨rfl,.no A.o rfl rfl⟩
theorem za1 (k a:Int) (h5:(k ==5)= false) (h6:(k ==6)= false) (h7:(k ==7)= false) (w:World):
  Calls Tryz.prog 126 #[.int .i64 k,.int .i64 a,.int .i64 0] w fun e w'=>e= panE 8/\w'= w:=by
 go_enter Tryz.func126,Tryz.ntmps126;go_wp2_with ((go_at_call 34;refine ze (zJ 8 _) ?_));exact⟨rfl,rfl,rfl⟩
theorem zbD (a:Int) (w:World):
  Calls Tryz.prog 126 #[.int .i64 9,.int .i64 a,.int .i64 (-1)] w fun e w'=>e= .returned (.int .i64 0)/\w'= w:=by
 go_enter Tryz.func126,Tryz.ntmps126;go_wp2_with ((go_at_call 34;refine ze (zt 8 _) ?_));go_ret;exact⟨rfl,rfl⟩
theorem zbE (a b:Int) (h0: ¬ b= 0) (h0':(b !=0)= true) (h1:(b == -1)= false) (hw:IntKind.i64.wrap (a.tmod b)= a.tmod b) (w:World):
  Calls Tryz.prog 126 #[.int .i64 9,.int .i64 a,.int .i64 b] w fun e w'=>e= .returned (.int .i64 (a.tmod b))/\w'= w:=by
 go_enter Tryz.func126,Tryz.ntmps126;go_wp2_with ((go_at_call 34;refine ze (zt 8 _) ?_));go_ret;exact⟨by first|rfl|rw[hw]|simp[hw],rfl⟩
theorem zbC (k a b:Int) (h5:(k ==5)= false) (h6:(k ==6)= false) (h7:(k ==7)= false) (h9:(k ==9)= false) (h0: ¬ b= 0) (h0':(b !=0)= true) (h1:(b != -1)= true) (hw:IntKind.i64.wrap (a.tdiv b)= a.tdiv b) (w:World):
  Calls Tryz.prog 126 #[.int .i64 k,.int .i64 a,.int .i64 b] w fun e w'=>e= .returned (.int .i64 (a.tdiv b))/\w'= w:=by
 go_enter Tryz.func126,Tryz.ntmps126;go_wp2_with (first|(go_at_call 34;refine ze (zt 7 _) ?_)|(go_at_call 34;refine ze (zt 8 _) ?_));go_ret;exact⟨by first|rfl|rw[hw]|simp[hw],rfl⟩
theorem za0 (k a:Int) (h5:(k ==5)= false) (h6:(k ==6)= false) (h7:(k ==7)= false) (h9:(k ==9)= false) (n:Int) (hn:IntKind.i64.wrap (-a)= n) (hne:((a !=n) ||(a ==0))= true) (hw:IntKind.i64.wrap (a.tdiv (-1))= n) (w:World):
  Calls Tryz.prog 126 #[.int .i64 k,.int .i64 a,.int .i64 (-1)] w fun e w'=>e= .returned (.int .i64 n)/\w'= w:=by
 cases h:(a !=n) with
 |true=>
  clear hne;go_enter Tryz.func126,Tryz.ntmps126;go_wp2_with (first|(go_at_call 34;refine ze (zt 7 _) ?_)|(go_at_call 34;refine ze (zt 8 _) ?_));go_ret;exact⟨by first|rfl|rw[hw]|simp[hw],rfl⟩
 |false=>
  rw[h,Bool.false_or] at hne;go_enter Tryz.func126,Tryz.ntmps126;go_wp2_with (first|(go_at_call 34;refine ze (zt 7 _) ?_)|(go_at_call 34;refine ze (zt 8 _) ?_));go_ret;exact⟨by first|rfl|rw[hw]|simp[hw],rfl⟩
theorem z9Z (k a:Int) (h5:(k ==5)= false) (h6:(k ==6)= false) (h7:(k ==7)= false) (h9:(k ==9)= false) (n:Int) (hn:IntKind.i64.wrap (-a)= n) (hne:(a !=n)= false) (h0:(a ==0)= false) (w:World):
  Calls Tryz.prog 126 #[.int .i64 k,.int .i64 a,.int .i64 (-1)] w fun e w'=>e= panE 7/\w'= w:=by
 go_enter Tryz.func126,Tryz.ntmps126;go_wp2_with (first|(go_at_call 34;refine ze (zt 8 _) ?_)|(go_at_call 34;refine ze (zJ 7 _) ?_));exact⟨rfl,rfl,rfl⟩
theorem zgu {a b:Int} (ha: -9223372036854775808<=a/\a<=9223372036854775807) (h0:b≠0) (h1:b≠ -1): -9223372036854775808<=a.tdiv b/\a.tdiv b<=9223372036854775807:=by
 by_cases h2:b= 1
 ·subst h2;rw[Int.tdiv_one];exact ha
 have h3:=Int.natAbs_tdiv a b;have h4:a.natAbs / b.natAbs<=a.natAbs / 2:=Nat.div_le_div_left (by omega) (by omega);have h5:(a.tdiv b).natAbs<=a.natAbs / 2:=by rw[h3];exact h4
 omega
theorem zay {a b:Int} (ha: -9223372036854775808<=a/\a<=9223372036854775807): -9223372036854775808<=a.tmod b/\a.tmod b<=9223372036854775807:=by
 have h1:(a.tmod b).natAbs<=a.natAbs:=by rw[Int.natAbs_tmod];exact Nat.mod_le _ _
 have h2:=Int.tmod_nonneg b (a:=a);have h3:=Int.neg_tmod (a:= -a) (b:=b);rw[Int.neg_neg] at h3;have h4:=Int.tmod_nonneg b (a:= -a);omega
theorem ze6 (k a b:Int) (ha: -9223372036854775808<=a/\a<=9223372036854775807) (hb: -9223372036854775808<=b/\b<=9223372036854775807) (w:World):
  Calls Tryz.prog 126 #[.int .i64 k,.int .i64 a,.int .i64 b] w (IntPost (z1D k a b) w):=by
 unfold z1D;by_cases k5:k= 5
 ·subst k5;rw[if_pos rfl];exact zbz a b ha hb w
 by_cases k6:k= 6
 ·subst k6;rw[if_neg (by decide),if_pos rfl];exact zbG a b ha hb w
 by_cases k7:k= 7
 ·subst k7;rw[if_neg (by decide),if_neg (by decide),if_pos rfl];exact zbF a b ha hb w
 rw[if_neg k5,if_neg k6,if_neg k7];have e5:(k ==5)= false:=by simpa using k5
 have e6:(k ==6)= false:=by simpa using k6
 have e7:(k ==7)= false:=by simpa using k7
 by_cases h0:b= 0
 ·subst h0
  rw[if_pos rfl];exact(za1 k a e5 e6 e7 w).mono fun e w' h=> .no rfl h.1 h.2
 rw[if_neg h0];by_cases k9:k= 9
 ·subst k9
  rw[if_pos rfl];by_cases h1:b= -1
  ·subst h1
   have h2:a.tmod (-1)= 0:=by rw[show(-1:Int)= -(1:Int) from rfl,Int.tmod_neg,Int.tmod_one]
   rw[h2];exact(zbD a w).mono fun e w' h=> .ok rfl h.1 h.2
  ·have h2:=zay (b:=b) ha
   exact(zbE a b h0 (by simpa using h0) (by simpa using h1) (by rw[wrapI];omega) w).mono fun e w' h=> .ok rfl h.1 h.2
 ·rw[if_neg k9]
  have e9:(k ==9)= false:=by simpa using k9
  by_cases h1:b= -1
  ·subst h1
   have h2:a.tdiv (-1)= -a:=by rw[show(-1:Int)= -(1:Int) from rfl,Int.tdiv_neg,Int.tdiv_one]
   rw[h2];by_cases hm:a= -9223372036854775808
   ·subst hm
    exact(z9Z k _ e5 e6 e7 e9 (-9223372036854775808) (by rw[wrapI];omega) (by decide) (by decide) w).mono fun e w' h=> .no (z8P (by omega)) h.1 h.2
   ·refine(za0 k a e5 e6 e7 e9 (-a) (by rw[wrapI];omega) ?_ (by rw[h2,wrapI];omega) w).mono fun e w' h=> .ok (z4U (by omega)) h.1 h.2
    by_cases hz:a= 0
    ·subst hz;rfl
    ·have:(a != -a)= true:=by simp;omega
     rw[this];rfl
  ·have h2:=zgu ha h0 h1
   exact(zbC k a b e5 e6 e7 e9 h0 (by simpa using h0) (by simpa using h1) (by rw[wrapI];omega) w).mono fun e w' h=> .ok (z4U h2) h.1 h.2
end
end Go.Proofs.YtpmjcbjdcjjplaaGreatDoor
