/- Parts of a proof: E10U, E10B, E10C. -/
import Derived.Test.YtdjfpcmlffekkaaGreatDoorPackG7
import Derived.Test.YtdjfpcmlffekkaaGreatDoorPackG25
import Derived.Test.YtdjfpcmlffekkaaGreatDoorPackG27
import Derived.Test.YtdjfpcmlffekkaaGreatDoorPackG31
import Derived.Test.YtdjfpcmlffekkaaGreatDoorPackG32
import Derived.Test.YtdjfpcmlffekkaaGreatDoorPackG33
set_option maxHeartbeats 8000000
set_option maxRecDepth 100000
set_option linter.unusedVariables false
set_option linter.unusedSimpArgs false
namespace Go.Proofs.YtdjfpcmlffekkaaGreatDoor
section
open Go Go.RowKit
theorem Kept.grow {P:Nat->Prop} {w w':World} {cs:List Value} {t:VT} (h:Kept P w cs t) (hb:Below w.heap.size w w'):Kept (fun b=>P b\/w.heap.size<=b) w' cs t:=h.to (fun b hp hlt=>⟨.inl hp,hb.block b hlt⟩) hb.size
theorem z2w (P:Nat->Prop) (w:World) (k n:Int) (f:Nat) (s:ByteArray) (hk:wfI k) (hn:wfI n) (hf:(Lit.float .f64 f).wf= true) (hs:s.size<=maxLen):Kept P w (valC k n f s) (.mk k n f s [] []):=zdw _ _ k n f s hk hn hf hs
theorem z0l {n:Int} (h: -9223372036854775808<=n/\n<=9223372036854775807):wfI n:=by
 unfold wfI Lit.wf;simp only[Bool.and_eq_true,decide_eq_true_eq];exact⟨h.1,h.2⟩
theorem z3o {f:Nat} (h:(Lit.float .f64 f).wf= true):(Lit.float .f64 (zo f)).wf= true:=by
 unfold zo;split
 ·decide
 ·exact h
theorem zeU {f:Nat} (h:(Lit.float .f64 f).wf= true):(Lit.float .f64 (unV.fNeg f)).wf= true:=by
 have h1:=wf64 h;refine wf_of_lt .f64 _ ?_;show f ^^^ 9223372036854775808 < 2 ^ 64;exact Nat.xor_lt_two_pow h1 (by decide)
theorem z0s {k n:Int} {f:Nat} {s:ByteArray} {ns:List ByteArray} {its:List VT} (h:zx (.mk k n f s ns its)= true):s.size<=200:=by
 have h1:=(z0W.1 h).2;have hE:s.toList.isEmpty= true->s.size<=200:=fun he=>by
  have:s.toList=[]:=List.isEmpty_iff.1 he;rw[ByteArray.toList_eq] at this;cases s with
  |mk d=>simp at this;subst this;exact Nat.zero_le _
 rw[zw,if_neg (by decide)] at h1;unfold bareB at h1;by_cases k1:k= 1
 ·rw[if_pos k1] at h1;simp only[Bool.and_eq_true,Bool.false_or] at h1;exact hE h1.1.2.2.1
 rw[if_neg k1] at h1;by_cases k2:k= 2
 ·rw[if_pos k2] at h1;simp only[Bool.and_eq_true,Bool.false_or] at h1;exact hE h1.2.2.1
 rw[if_neg k2] at h1;by_cases k3:k= 3
 ·rw[if_pos k3] at h1;simp only[Bool.and_eq_true,Bool.false_or] at h1;exact hE h1.2.2.1
 rw[if_neg k3] at h1;by_cases k4:k= 4
 ·rw[if_pos k4] at h1;simp only[Bool.and_eq_true,decide_eq_true_eq] at h1;exact h1.2
 rw[if_neg k4] at h1;by_cases k6:k= 6
 ·rw[if_pos k6] at h1;simp only[Bool.and_eq_true,Bool.false_or] at h1;exact hE h1.2.2.1.2.2.1
 rw[if_neg k6] at h1;by_cases k5:k= 5
 ·rw[if_pos k5] at h1;simp only[Bool.and_eq_true,Bool.false_or] at h1;exact hE h1.1.2.2.1
 ·rw[if_neg k5] at h1;cases h1
def tC (b:Bool):List Value:=valC 1 (if b= true then 1 else 0) 0 ⟨#[]⟩
theorem z1Y (b:Bool):∀ v∈tC b,v.oneCell'= true:=z02 _ _ _ _
theorem z15 (b:Bool) (w:World):Calls Tryz.prog 135 #[.bool b] w fun e w'=>e= .returned (.agg ⟨tC b⟩)/\Below w.heap.size w w':=zbV b w
theorem z2d (P:Nat->Prop) (w:World) (n:Int) (hn:wfI n):Kept P w (valC 2 n 0 ⟨#[]⟩) (vI n):=z2w P w 2 n 0 ⟨#[]⟩ (z0l (by omega)) hn (by decide) (by decide)
theorem z1o (P:Nat->Prop) (w:World) (b:Bool):Kept P w (tC b) (vB b):=z2w P w 1 _ 0 ⟨#[]⟩ (z0l (by omega)) (by cases b<;>exact z0l (by decide)) (by decide) (by decide)
theorem z5M (P:Nat->Prop) (w:World) (f:Nat) (hf:(Lit.float .f64 f).wf= true):Kept P w (valC 3 0 f ⟨#[]⟩) (vF f):=z2w P w 3 0 f ⟨#[]⟩ (z0l (by omega)) (z0l (by omega)) hf (by decide)
theorem ze2 (P:Nat->Prop) (w:World) (s:ByteArray) (hs:s.size<=maxLen):Kept P w (valC 4 0 0 s) (vS s):=z2w P w 4 0 0 s (z0l (by omega)) (z0l (by omega)) (by decide) hs
def UnPost (P:Nat->Prop) (r:Res) (w:World) (e:Ending) (w':World):Prop:=
 (∃ v cs',r= .ok v/\e= .returned (.agg ⟨cs'⟩)/\Kept (fun b=>P b\/w.heap.size<=b) w' cs' v/\Below w.heap.size w w')\/(∃ n,r= .error n/\e= panE n/\Below w.heap.size w w')
theorem UnPost.ok {P:Nat->Prop} {r:Res} {w:World} {v:VT} {cs':List Value} {e:Ending} {w':World} (hr:r= .ok v) (he:e= .returned (.agg ⟨cs'⟩)) (hk:Kept (fun b=>P b\/w.heap.size<=b) w' cs' v) (hb:Below w.heap.size w w'):UnPost P r w e w':= .inl ⟨v,cs',hr,he,hk,hb⟩
theorem UnPost.no {P:Nat->Prop} {r:Res} {w:World} {n:Int} {e:Ending} {w':World} (hr:r= .error n) (he:e= panE n) (hb:Below w.heap.size w w'):UnPost P r w e w':= .inr ⟨n,hr,he,hb⟩
structure UB (w W:World) (cs:List Value):Prop where
 wa:Whole 52 W w.heap.size cs
 wb:Whole 52 W (w.heap.size+1) zV6
 bel:Below w.heap.size w W
theorem z7W (w:World) (cs:List Value):UB w ((w.alloc (.cells ⟨cs⟩ 52)).alloc (.cells zV6.toArray 52)) cs:=by
 have h1:=Whole.new w cs 52;have h2:=zc w (.cells ⟨cs⟩ 52);have g:(w.alloc (.cells ⟨cs⟩ 52)).heap.size= w.heap.size+1:=by simp
 generalize w.alloc (.cells ⟨cs⟩ 52)= W1 at*;have h3:=Whole.new W1 zV6 52;have h4:=zc W1 (.cells zV6.toArray 52);rw[g] at h3;exact⟨h1.keep (h4.block _ (by omega)),h3,h2.trans (h4.mono (by omega))⟩
theorem zc2 (P:Nat->Prop) (k:Int) (s:ByteArray) (px o:Nat) (a:VT) (cs:List Value) (w:World) (hx0:w.cell? ⟨px,o,none⟩= some (.int .i64 k)) (hx1:w.cell? ⟨px,o+1,none⟩= some (.string s)) (hpx:px < w.heap.size) (hv:Kept P w cs a) (hr:zx a= true) (htb:TabP w):
  Calls Tryz.prog 137 #[.pointer (some ⟨px,o,none⟩),.agg ⟨cs⟩] w (UnPost P (unV k s a) w):=by
 cases a with
 |mk kv n f sv ns its=>
  obtain⟨r,C⟩:∃ r,unV k s (.mk kv n f sv ns its)= r:=⟨_,rfl⟩;rw[C];rw[unV] at C;have HV:=I hv;have d9:=I hv.val;have g7:=I htb;have a7:=I hr;obtain⟨vn,vi,rfl,h9,f2,e0,f4,i1,e2,hi⟩:=ValAt.inv hv;obtain⟨f1,NA,nc,rfl,f0⟩:=i1;obtain⟨b5,A,c,rfl,hA⟩:=hi;have g3:=I f0;have f9:=I hA;have b8:=I (And.intro f2 (And.intro e0 f4));have g2:=I (And.intro f1 b5);have c7:=I e2;have a0:=I hx0;have g9:=I hx1;have X:=I hpx;clear hv hr htb h9 f2 e0 f4 e2 b5 f1 f0 hA hx0 hx1 hpx;go_enter Tryz.func137,Tryz.ntmps137;go_upto_region 1 with (fail);have g:=I (z7W w [.int .i64 kv,.int .i64 n,.float .f64 f,.string sv,.slice NA ns.length nc,.slice A its.length c]);rw[z0v];generalize (w.alloc (.cells ⟨[.int .i64 kv,.int .i64 n,.float .f64 f,.string sv,.slice NA ns.length nc,.slice A its.length c]⟩ 52)).alloc (.cells zV6.toArray 52)= W at*;by_cases k18:k= 18
  ·subst k18
   rw[if_pos rfl] at C;by_cases h:kv= 6
   ·subst h
    rw[if_neg (by decide)] at C;have F:=I C.symm;clear C;have x0:W.cell? ⟨px,o,none⟩= some (.int .i64 18):=(g.o.bel.cell (p:=⟨px,o,none⟩) X.o).trans a0.o;have d0:W.cell? ⟨w.heap.size,0,none⟩= some (.int .i64 6):=g.o.wa.cells 0 rfl;have d4:W.cell? ⟨w.heap.size,4,none⟩= some (.slice NA ns.length nc):=g.o.wa.cells 4 rfl;have d5:W.cell? ⟨w.heap.size,5,none⟩= some (.slice A its.length c):=g.o.wa.cells 5 rfl;have x1:W.cell? ⟨px,o+1,none⟩= some (.string s):=(g.o.bel.cell (p:=⟨px,o+1,none⟩) X.o).trans g9.o;have c8:Hid (∀ z:World,Below W.heap.size W z->Calls Tryz.prog 150 #[.slice NA ns.length nc,.string s] z fun e z'=>e= .returned (.int .i64 (Lib.idxOfS ns s))/\z'= z):=I fun z hz=>by
     rcases Nat.eq_zero_or_pos ns.length with h0|h0
     ·obtain rfl:ns=[]:=List.eq_nil_of_length_eq_zero h0
      exact Tryz.slices_Index_string_empty NA nc s z
     ·obtain⟨b,c4,rfl,K,hc⟩:=g3.o h0
      have:=Tryz.slices_Index_string b c4 ns.length nc ns s z (Nat.le_refl _) (by have:=g2.o.1;omega) fun j hj=>by
       obtain⟨q,j4,i2,i3,_⟩:=hc j _ (List.getElem?_eq_getElem hj);subst i3;have h2:=i2 0 _ rfl;rw[Nat.mul_one,Nat.add_zero] at h2;have h3:=(zu.1 h2).2;rw[List.getD_eq_getElem?_getD,List.getElem?_eq_getElem hj];exact(hz.cell (p:=⟨b,c4+j,none⟩) (Nat.lt_of_lt_of_le K g.o.bel.size)).trans ((g.o.bel.cell (p:=⟨b,c4+j,none⟩) K).trans h3)
      rw[List.take_length] at this;exact this
    go_upto_region 4 with ((go_at_call 115;refine zd (zm 6 _) ?_));clear x0 d0;refine zr [(0,true),(1,true),(2,true),(3,true),(4,true),(5,true),(6,false),(7,true)] (fun z=>Below W.heap.size W z) (by kernel_rfl) (by intro c a d v w h;cases d<;>exact h) ?_;have hs:Below W.heap.size W W.drew:=(Below.refl _ _).drew;have d6:=I g.o.wa.lt;refine z7 20 (.pointer (some ⟨w.heap.size,4,none⟩)) rfl rfl rfl hs (fun z hz=>by go_simp) ?_;go_frame;refine z7 21 (.slice NA ns.length nc) rfl rfl rfl hs (fun z hz=>by have e4:=(hz.cell (p:=⟨w.heap.size,4,none⟩) d6.o).trans d4;clear hz;go_simp) ?_;go_frame;refine zf 22 (.pointer (some ⟨px,o,none⟩)) rfl rfl rfl rfl hs rfl ?_;go_frame;refine z7 23 (.pointer (some ⟨px,o,none⟩)) rfl rfl rfl hs (fun z hz=>by go_simp) ?_;go_frame;refine z7 24 (.pointer (some ⟨px,o+1,none⟩)) rfl rfl rfl hs (fun z hz=>by go_simp) ?_;go_frame;refine z7 25 (.string s) rfl rfl rfl hs (fun z hz=>by have e1:=(hz.cell (p:=⟨px,o+1,none⟩) (Nat.lt_of_lt_of_le X.o g.o.bel.size)).trans x1;clear hz;go_simp) ?_;go_frame;refine zv 26 150 Tryz.func150 (by kernel_rfl) [.slice NA ns.length nc,.string s] rfl rfl rfl rfl rfl ?_;refine(c8.o _ hs).mono ?_;rintro e z ⟨rfl,rfl⟩;refine⟨_,rfl,hs,?_⟩;go_frame;refine zI 5 (.int .i64 (Lib.idxOfS ns s)) rfl rfl rfl rfl hs rfl ?_;go_frame;refine zF ?_;have c6:=z3F ns s;have b4:Hid (UB w W.drew [.int .i64 6,.int .i64 n,.float .f64 f,.string sv,.slice NA ns.length nc,.slice A its.length c]):=I ⟨g.o.wa.keep rfl,g.o.wb.keep rfl,g.o.bel.drew⟩;clear d4 d5 x1 hs c8 d6 g;have g:=b4;clear b4;generalize W.drew= W at*;obtain⟨ix,b9⟩:∃ ix,Lib.idxOfS ns s= ix:=⟨_,rfl⟩;rw[b9] at c6 F;rw[b9];clear b9;rcases c6 with rfl|⟨h7,h8⟩
    ·go_wp2_with ((go_at_call 115;refine zd (zD 10 _) ?_))
     exact⟨rfl,.no F.o rfl g.o.bel⟩
    ·have a2: ¬ ix= -1:=by omega
     rw[if_neg a2] at F;have i0:=(z0i a7.o).2.2 rfl;obtain⟨j,rfl⟩:∃ j:Nat,ix=(j:Int):=⟨ix.toNat,by omega⟩;have hj:j < its.length:=by omega
     have j2:(j:Int) <(its.length:Int):=by omega
     have j1:(0:Int)<=(j:Int):=by omega
     obtain⟨b,ob,rfl,h6,hc⟩:=f9.o (by omega);obtain⟨ks,e5,e6,e7⟩:=hc j _ (List.getElem?_eq_getElem hj);have c9:Hid (Kept P w ks its[j]):=I e7;have b2:=I e5;have g0:Hid (W.rangeAt b (ob+j*6) ks):=I (zb (z0p e6 fun a v h=>(zu.1 h).2) g.o.bel h6);have g5:=I (zp c9.o.val).2;have g6:Hid (r= .ok its[j]):=I (by rw[F.o];simp[List.getD,List.getElem?_eq_getElem hj]);have b6:=I g.o.wb;have d5:W.cell? ⟨w.heap.size,5,none⟩= some (.slice (some ⟨b,ob,none⟩) its.length c):=g.o.wa.cells 5 rfl;clear hc e5 e6 e7 h7 h8 a2 i0;go_wp2_with (first|(go_at_call 115;refine zd (zm 10 _) ?_)|((with_reducible refine za tyK52 _ rfl ?_ g0.o rfl b2.o ?_);exact wA rfl)|((with_reducible refine zg 52 _ _ rfl rfl ?_ b6.o (ks) ?_ ?_ ?_ ?_ ?_ ?_);exact wA rfl;rw[b2.o];rfl;rfl;rfl;rw[b2.o];kernel_rfl;exact g5.o;intro Z2 HX O))
     (try simp only[Exit.inBlock,Exit.then])
     refine bodyPost_ret (zk rfl Tryz.underlying52 rfl _ _ (w.heap.size+1) (ks) (by rw[b2.o];kernel_rfl) rfl HX.o.range) rfl ?_;have G:=g.o.bel.trans (O.o.below (B:=w.heap.size) g.o.bel.size (by omega) (by omega));exact .ok g6.o rfl (c9.o.grow G) G
   ·rw[if_pos h] at C
    have h1:(kv ==6)= false:=(by simpa using h);have F:=I C.symm;clear C;have x0:W.cell? ⟨px,o,none⟩= some (.int .i64 18):=(g.o.bel.cell (p:=⟨px,o,none⟩) X.o).trans a0.o;have d0:W.cell? ⟨w.heap.size,0,none⟩= some (.int .i64 kv):=g.o.wa.cells 0 rfl;go_wp2_with ((go_at_call 115;refine zd (zD 6 _) ?_));exact⟨rfl,.no F.o rfl g.o.bel⟩
  rw[if_neg k18] at C;by_cases k4:k= 4
  ·subst k4
   rw[if_pos rfl] at C;by_cases h:kv= 1
   ·subst h
    rw[if_pos rfl] at C;have F:=I C.symm;clear C;have x0:W.cell? ⟨px,o,none⟩= some (.int .i64 4):=(g.o.bel.cell (p:=⟨px,o,none⟩) X.o).trans a0.o;have d0:W.cell? ⟨w.heap.size,0,none⟩= some (.int .i64 1):=g.o.wa.cells 0 rfl;have d1:W.cell? ⟨w.heap.size,1,none⟩= some (.int .i64 n):=g.o.wa.cells 1 rfl;obtain⟨b,K⟩:∃ b,(n ==0)= b:=⟨_,rfl⟩;rw[K] at F;go_wp2_with (first|(go_at_call 115;refine zd (zm 6 _) ?_)|(go_at_call 135;refine(z15 b _).mono ?_;rintro e z ⟨rfl,K⟩;have N:=I K;have Y:=I (g.o.wb.keep (K.block _ (g.o.wb.lt)));clear K)|((with_reducible refine zg 52 _ _ rfl rfl ?_ Y.o (tC b) ?_ ?_ ?_ ?_ ?_ ?_);exact wA rfl;rfl;rfl;rfl;kernel_rfl;exact z1Y b;intro Z2 HX O))
    (try simp only[Exit.inBlock,Exit.then])
    refine bodyPost_ret (zk rfl Tryz.underlying52 rfl _ _ (w.heap.size+1) (tC b) (by kernel_rfl) rfl HX.o.range) rfl ?_;have G:=(beT g.o.bel N.o).trans (O.o.below (B:=w.heap.size) (Nat.le_trans g.o.bel.size N.o.size) (by omega) (by omega));exact .ok F.o rfl (z1o _ _ b) G
   ·rw[if_neg h] at C
    have h1:(kv ==1)= false:=(by simpa using h);have F:=I C.symm;clear C;have x0:W.cell? ⟨px,o,none⟩= some (.int .i64 4):=(g.o.bel.cell (p:=⟨px,o,none⟩) X.o).trans a0.o;have d0:W.cell? ⟨w.heap.size,0,none⟩= some (.int .i64 kv):=g.o.wa.cells 0 rfl;go_wp2_with ((go_at_call 115;refine zd (zD 6 _) ?_));exact⟨rfl,.no F.o rfl g.o.bel⟩
  rw[if_neg k4] at C;by_cases k21:k= 21
  ·subst k21
   rw[if_pos rfl] at C;by_cases h:kv= 2
   ·subst h
    rw[if_pos rfl] at C;have F:=I C.symm;clear C;have x0:W.cell? ⟨px,o,none⟩= some (.int .i64 21):=(g.o.bel.cell (p:=⟨px,o,none⟩) X.o).trans a0.o;have d0:W.cell? ⟨w.heap.size,0,none⟩= some (.int .i64 2):=g.o.wa.cells 0 rfl;have d1:W.cell? ⟨w.heap.size,1,none⟩= some (.int .i64 n):=g.o.wa.cells 1 rfl;go_wp2_with (first|(go_at_call 115;refine zd (zm 6 _) ?_)|(go_at_call 156;refine zd (z7a n _) ?_)|(go_at_call 155;refine(z7f (floatOfInt .f64 n) _).mono ?_;rintro e z ⟨rfl,K⟩;have N:=I K;have Y:=I (g.o.wb.keep (K.block _ (g.o.wb.lt)));clear K)|((with_reducible refine zg 52 _ _ rfl rfl ?_ Y.o (valC 3 0 (zo (floatOfInt .f64 n)) ⟨#[]⟩) ?_ ?_ ?_ ?_ ?_ ?_);exact wA rfl;rfl;rfl;rfl;kernel_rfl;exact z02 _ _ _ _;intro Z2 HX O))
    (try simp only[Exit.inBlock,Exit.then])
    refine bodyPost_ret (zk rfl Tryz.underlying52 rfl _ _ (w.heap.size+1) (valC 3 0 (zo (floatOfInt .f64 n)) ⟨#[]⟩) (by kernel_rfl) rfl HX.o.range) rfl ?_;have G:=(beT g.o.bel N.o).trans (O.o.below (B:=w.heap.size) (Nat.le_trans g.o.bel.size N.o.size) (by omega) (by omega));exact .ok F.o rfl (z5M _ _ _ (z3o (floatOfInt_wf .f64 n))) G
   ·rw[if_neg h] at C
    have h1:(kv ==2)= false:=(by simpa using h);have F:=I C.symm;clear C;have x0:W.cell? ⟨px,o,none⟩= some (.int .i64 21):=(g.o.bel.cell (p:=⟨px,o,none⟩) X.o).trans a0.o;have d0:W.cell? ⟨w.heap.size,0,none⟩= some (.int .i64 kv):=g.o.wa.cells 0 rfl;go_wp2_with ((go_at_call 115;refine zd (zD 6 _) ?_));exact⟨rfl,.no F.o rfl g.o.bel⟩
  rw[if_neg k21] at C;by_cases k22:k= 22
  ·subst k22
   rw[if_pos rfl] at C;by_cases h:kv= 3
   ·subst h
    rw[if_pos rfl] at C;have F:=I C.symm;clear C;have x0:W.cell? ⟨px,o,none⟩= some (.int .i64 22):=(g.o.bel.cell (p:=⟨px,o,none⟩) X.o).trans a0.o;have d0:W.cell? ⟨w.heap.size,0,none⟩= some (.int .i64 3):=g.o.wa.cells 0 rfl;have d2:W.cell? ⟨w.heap.size,2,none⟩= some (.float .f64 f):=g.o.wa.cells 2 rfl;go_wp2_with (first|(go_at_call 115;refine zd (zm 6 _) ?_)|(go_at_call 157;fail));refine(zbP f _).mono ?_;rintro e z ⟨⟨m,hm,rfl⟩|⟨hm,rfl⟩,K⟩
    ·rw[hm] at F
     have a6:=I K;have a4:=I (g.o.wb.keep (K.block _ g.o.wb.lt));have a3:Hid (wfI m):=I (by
      unfold z1B at hm;split at hm
      ·cases hm
      ·split at hm
       ·exact floatToIntVal_wf hm
       ·cases hm)
     clear K hm;go_wp2_with (first|(go_at_call 115;refine zd (zm 0 _) ?_)|(go_at_call 158;refine(z1r m _).mono ?_;rintro e z ⟨rfl,K⟩;have N:=I K;have Y:=I (a4.o.keep (K.block _ (a4.o.lt)));clear K)|((with_reducible refine zg 52 _ _ rfl rfl ?_ Y.o (valC 2 m 0 ⟨#[]⟩) ?_ ?_ ?_ ?_ ?_ ?_);exact wA rfl;rfl;rfl;rfl;kernel_rfl;exact z02 _ _ _ _;intro Z2 HX O))
     (try simp only[Exit.inBlock,Exit.then])
     refine bodyPost_ret (zk rfl Tryz.underlying52 rfl _ _ (w.heap.size+1) (valC 2 m 0 ⟨#[]⟩) (by kernel_rfl) rfl HX.o.range) rfl ?_;have G:=(g.o.bel.trans ((beT a6.o N.o).mono g.o.bel.size)).trans (O.o.below (B:=w.heap.size) (Nat.le_trans g.o.bel.size (beT a6.o N.o).size) (by omega) (by omega));exact .ok F.o rfl (z2d _ _ m a3.o) G
    ·rw[hm] at F
     have a6:=I K;clear K hm;go_wp2_with ((go_at_call 115;refine zd (zD 3 _) ?_));exact⟨rfl,.no F.o rfl (beT g.o.bel a6.o)⟩
   ·rw[if_neg h] at C
    have h1:(kv ==3)= false:=(by simpa using h);have F:=I C.symm;clear C;have x0:W.cell? ⟨px,o,none⟩= some (.int .i64 22):=(g.o.bel.cell (p:=⟨px,o,none⟩) X.o).trans a0.o;have d0:W.cell? ⟨w.heap.size,0,none⟩= some (.int .i64 kv):=g.o.wa.cells 0 rfl;go_wp2_with ((go_at_call 115;refine zd (zD 6 _) ?_));exact⟨rfl,.no F.o rfl g.o.bel⟩
  rw[if_neg k22] at C;by_cases k23:k= 23
  ·subst k23
   rw[if_pos rfl] at C;by_cases h:kv= 4
   ·subst h
    rw[if_pos rfl] at C;have F:=I C.symm;clear C;have x0:W.cell? ⟨px,o,none⟩= some (.int .i64 23):=(g.o.bel.cell (p:=⟨px,o,none⟩) X.o).trans a0.o;have d0:W.cell? ⟨w.heap.size,0,none⟩= some (.int .i64 4):=g.o.wa.cells 0 rfl;have b6:=I g.o.wb;have d7:=I (zp d9.o).2;go_wp2_with (first|(go_at_call 115;refine zd (zm 6 _) ?_)|((with_reducible refine za tyK52 _ rfl ?_ g.o.wa.range rfl ?_ ?_);exact wA rfl;rfl)|((with_reducible refine zg 52 _ _ rfl rfl ?_ b6.o ([.int .i64 4,.int .i64 n,.float .f64 f,.string sv,.slice NA ns.length nc,.slice A its.length c]) ?_ ?_ ?_ ?_ ?_ ?_);exact wA rfl;rfl;rfl;rfl;kernel_rfl;exact d7.o;intro Z2 HX O))
    (try simp only[Exit.inBlock,Exit.then])
    refine bodyPost_ret (zk rfl Tryz.underlying52 rfl _ _ (w.heap.size+1) ([.int .i64 4,.int .i64 n,.float .f64 f,.string sv,.slice NA ns.length nc,.slice A its.length c]) (by kernel_rfl) rfl HX.o.range) rfl ?_;have G:=g.o.bel.trans (O.o.below (B:=w.heap.size) g.o.bel.size (by omega) (by omega));exact .ok F.o rfl (HV.o.grow G) G
   ·rw[if_neg h] at C
    by_cases h2:kv= 1\/kv= 2\/kv= 3
    ·rw[if_pos h2] at C
     have h1:(decide (1<=kv) && decide (kv<=4))= true:=(by simp;omega);have h4:(kv !=4)= true:=(by simpa using h);have i9: ¬ kv= 4:=h;have F:=I C.symm;clear C;have x0:W.cell? ⟨px,o,none⟩= some (.int .i64 23):=(g.o.bel.cell (p:=⟨px,o,none⟩) X.o).trans a0.o;have d0:W.cell? ⟨w.heap.size,0,none⟩= some (.int .i64 kv):=g.o.wa.cells 0 rfl;have f3:z5k (.mk kv n f sv ns its)= true:=a7.o;have g8:=I ((d9.o.under g.o.bel).more g.o.bel.size);have b7:=I (zdo (.mk kv n f sv ns its) _ W (g7.o.next g.o.bel) g8.o);rw[f3,if_pos rfl] at b7;have d8:Hid ((⟨(textV (.mk kv n f sv ns its)).toArray⟩:ByteArray).size<=maxLen):=I (by
      have h5:kv= 1\/kv= 2\/kv= 3:=by simp only[Bool.and_eq_true,decide_eq_true_eq] at h1;omega
      have hw:=b8.o.1;unfold wfI Lit.wf at hw;simp only[Bool.and_eq_true,decide_eq_true_eq] at hw;have:=z5w (k:=kv) (n:=n) (f:=f) (s:=sv) (ns:=ns) (its:=its) hw h5;show(textV _).toArray.size<=maxLen;rw[List.size_toArray];unfold maxLen;omega)
     obtain⟨h2,h3⟩:1<=kv/\kv<=4:=by simpa using h1
     obtain⟨tx,f5⟩:∃ tx:ByteArray,(⟨(textV (.mk kv n f sv ns its)).toArray⟩:ByteArray)= tx:=⟨_,rfl⟩;rw[f5] at b7 d8 F;clear f3 f5 h1;go_upto_region 22 with (first|(go_at_call 115;refine zd (zm 6 _) ?_)|((with_reducible refine za tyK52 _ rfl ?_ g.o.wa.range rfl ?_ ?_);exact wA rfl;rfl)|(go_at_call 159;refine b7.o.mono ?_;rintro e z ⟨rfl,K⟩;have a6:=I K;have a4:=I (g.o.wb.keep (K.block _ g.o.wb.lt));clear K));go_wp2_with (first|(go_at_call 160;refine(zcI tx _).mono ?_;rintro e z ⟨rfl,K⟩;have N:=I K;have Y:=I (a4.o.keep (K.block _ (a4.o.lt)));clear K)|((with_reducible refine zg 52 _ _ rfl rfl ?_ Y.o (valC 4 0 0 tx) ?_ ?_ ?_ ?_ ?_ ?_);exact wA rfl;rfl;rfl;rfl;kernel_rfl;exact z02 _ _ _ _;intro Z2 HX O))
     (try simp only[Exit.inBlock,Exit.then])
     refine bodyPost_ret (zk rfl Tryz.underlying52 rfl _ _ (w.heap.size+1) (valC 4 0 0 tx) (by kernel_rfl) rfl HX.o.range) rfl ?_;have G:=(g.o.bel.trans ((beT a6.o N.o).mono g.o.bel.size)).trans (O.o.below (B:=w.heap.size) (Nat.le_trans g.o.bel.size (beT a6.o N.o).size) (by omega) (by omega));exact .ok F.o rfl (ze2 _ _ tx d8.o) G
    ·rw[if_neg h2] at C
     have h1:(decide (1<=kv) && decide (kv<=4))= false:=(by by_cases h5:1<=kv;(simp;omega);(simp;omega));have F:=I C.symm;clear C;have x0:W.cell? ⟨px,o,none⟩= some (.int .i64 23):=(g.o.bel.cell (p:=⟨px,o,none⟩) X.o).trans a0.o;have d0:W.cell? ⟨w.heap.size,0,none⟩= some (.int .i64 kv):=g.o.wa.cells 0 rfl;by_cases h2:1<=kv
     ·have h3: ¬ kv<=4:=by simpa [h2] using h1
      go_wp2_with ((go_at_call 115;refine zd (zD 6 _) ?_));exact⟨rfl,.no F.o rfl g.o.bel⟩
     ·go_wp2_with ((go_at_call 115;refine zd (zD 6 _) ?_))
      exact⟨rfl,.no F.o rfl g.o.bel⟩
  rw[if_neg k23] at C;by_cases k20:k= 20
  ·subst k20
   rw[if_pos rfl] at C;by_cases h:kv= 5
   ·subst h
    rw[if_pos (Or.inl rfl)] at C;have F:=I C.symm;clear C;have x0:W.cell? ⟨px,o,none⟩= some (.int .i64 20):=(g.o.bel.cell (p:=⟨px,o,none⟩) X.o).trans a0.o;have d0:W.cell? ⟨w.heap.size,0,none⟩= some (.int .i64 5):=g.o.wa.cells 0 rfl;have d3:W.cell? ⟨w.heap.size,3,none⟩= some (.string sv):=g.o.wa.cells 3 rfl;have d5:W.cell? ⟨w.heap.size,5,none⟩= some (.slice A its.length c):=g.o.wa.cells 5 rfl;have g1:=I c7.o;have a8:(its.length:Int)+ (sv.size:Int)<=9000000000000000000:=by have h1:=(z0i a7.o).1;have h2:=z0s a7.o;omega
    have a9:IntKind.i64.wrap ((its.length:Int)+ (sv.size:Int))=(its.length:Int)+ (sv.size:Int):=by rw[IntKind.wrap_i64];omega
    have b0:wrap64 ((its.length:Int)+ (sv.size:Int))=(its.length:Int)+ (sv.size:Int):=by unfold wrap64;omega
    have a3:Hid (wfI ((its.length:Int)+ (sv.size:Int))):=I (z0l (by omega));obtain⟨m,hm⟩:∃ m,(its.length:Int)+ (sv.size:Int)= m:=⟨_,rfl⟩;rw[hm] at a3 F a9 b0;clear a8;go_wp2_with (first|(go_at_call 115;refine zd (zm 6 _) ?_)|(rw[hm];(go_at_call 158;refine(z1r m _).mono ?_;rintro e z ⟨rfl,K⟩;have N:=I K;have Y:=I (g.o.wb.keep (K.block _ (g.o.wb.lt)));clear K))|(go_at_call 158;refine(z1r m _).mono ?_;rintro e z ⟨rfl,K⟩;have N:=I K;have Y:=I (g.o.wb.keep (K.block _ (g.o.wb.lt)));clear K)|((with_reducible refine zg 52 _ _ rfl rfl ?_ Y.o (valC 2 m 0 ⟨#[]⟩) ?_ ?_ ?_ ?_ ?_ ?_);exact wA rfl;rfl;rfl;rfl;kernel_rfl;exact z02 _ _ _ _;intro Z2 HX O))
    (try simp only[Exit.inBlock,Exit.then])
    refine bodyPost_ret (zk rfl Tryz.underlying52 rfl _ _ (w.heap.size+1) (valC 2 m 0 ⟨#[]⟩) (by kernel_rfl) rfl HX.o.range) rfl ?_;have G:=(beT g.o.bel N.o).trans (O.o.below (B:=w.heap.size) (Nat.le_trans g.o.bel.size N.o.size) (by omega) (by omega));exact .ok F.o rfl (z2d _ _ m a3.o) G
   ·by_cases h2:kv= 4
    ·subst h2
     rw[if_pos (Or.inr rfl)] at C;have F:=I C.symm;clear C;have x0:W.cell? ⟨px,o,none⟩= some (.int .i64 20):=(g.o.bel.cell (p:=⟨px,o,none⟩) X.o).trans a0.o;have d0:W.cell? ⟨w.heap.size,0,none⟩= some (.int .i64 4):=g.o.wa.cells 0 rfl;have d3:W.cell? ⟨w.heap.size,3,none⟩= some (.string sv):=g.o.wa.cells 3 rfl;have d5:W.cell? ⟨w.heap.size,5,none⟩= some (.slice A its.length c):=g.o.wa.cells 5 rfl;have g1:=I c7.o;have a8:(its.length:Int)+ (sv.size:Int)<=9000000000000000000:=by have h1:=(z0i a7.o).1;have h2:=z0s a7.o;omega
     have a9:IntKind.i64.wrap ((its.length:Int)+ (sv.size:Int))=(its.length:Int)+ (sv.size:Int):=by rw[IntKind.wrap_i64];omega
     have b0:wrap64 ((its.length:Int)+ (sv.size:Int))=(its.length:Int)+ (sv.size:Int):=by unfold wrap64;omega
     have a3:Hid (wfI ((its.length:Int)+ (sv.size:Int))):=I (z0l (by omega));obtain⟨m,hm⟩:∃ m,(its.length:Int)+ (sv.size:Int)= m:=⟨_,rfl⟩;rw[hm] at a3 F a9 b0;clear a8;go_wp2_with (first|(go_at_call 115;refine zd (zm 6 _) ?_)|(rw[hm];(go_at_call 158;refine(z1r m _).mono ?_;rintro e z ⟨rfl,K⟩;have N:=I K;have Y:=I (g.o.wb.keep (K.block _ (g.o.wb.lt)));clear K))|(go_at_call 158;refine(z1r m _).mono ?_;rintro e z ⟨rfl,K⟩;have N:=I K;have Y:=I (g.o.wb.keep (K.block _ (g.o.wb.lt)));clear K)|((with_reducible refine zg 52 _ _ rfl rfl ?_ Y.o (valC 2 m 0 ⟨#[]⟩) ?_ ?_ ?_ ?_ ?_ ?_);exact wA rfl;rfl;rfl;rfl;kernel_rfl;exact z02 _ _ _ _;intro Z2 HX O))
     (try simp only[Exit.inBlock,Exit.then])
     refine bodyPost_ret (zk rfl Tryz.underlying52 rfl _ _ (w.heap.size+1) (valC 2 m 0 ⟨#[]⟩) (by kernel_rfl) rfl HX.o.range) rfl ?_;have G:=(beT g.o.bel N.o).trans (O.o.below (B:=w.heap.size) (Nat.le_trans g.o.bel.size N.o.size) (by omega) (by omega));exact .ok F.o rfl (z2d _ _ m a3.o) G
    ·rw[if_neg (by omega)] at C
     have h1:(kv ==5)= false:=(by simpa using h);have h2:(kv ==4)= false:=(by simpa using h2);have F:=I C.symm;clear C;have x0:W.cell? ⟨px,o,none⟩= some (.int .i64 20):=(g.o.bel.cell (p:=⟨px,o,none⟩) X.o).trans a0.o;have d0:W.cell? ⟨w.heap.size,0,none⟩= some (.int .i64 kv):=g.o.wa.cells 0 rfl;go_wp2_with ((go_at_call 115;refine zd (zD 6 _) ?_));exact⟨rfl,.no F.o rfl g.o.bel⟩
  rw[if_neg k20] at C;have e18:(k ==18)= false:=by simpa using k18
  have e4:(k ==4)= false:=by simpa using k4
  have e21:(k ==21)= false:=by simpa using k21
  have e22:(k ==22)= false:=by simpa using k22
  have e23:(k ==23)= false:=by simpa using k23
  have e20:(k ==20)= false:=by simpa using k20
  by_cases h3:kv= 3
  ·subst h3
   rw[if_pos rfl] at C;have F:=I C.symm;clear C;have x0:W.cell? ⟨px,o,none⟩= some (.int .i64 k):=(g.o.bel.cell (p:=⟨px,o,none⟩) X.o).trans a0.o;have d0:W.cell? ⟨w.heap.size,0,none⟩= some (.int .i64 3):=g.o.wa.cells 0 rfl;have d2:W.cell? ⟨w.heap.size,2,none⟩= some (.float .f64 f):=g.o.wa.cells 2 rfl;have g4:=I (fun w=>zcP f w);go_wp2_with (first|(go_at_call 115;refine zd (zm 6 _) ?_)|(go_at_call 161;refine zd (g4.o _) ?_)|(go_at_call 155;refine(z7f (zo (unV.fNeg f)) _).mono ?_;rintro e z ⟨rfl,K⟩;have N:=I K;have Y:=I (g.o.wb.keep (K.block _ (g.o.wb.lt)));clear K)|((with_reducible refine zg 52 _ _ rfl rfl ?_ Y.o (valC 3 0 (zo (zo (unV.fNeg f))) ⟨#[]⟩) ?_ ?_ ?_ ?_ ?_ ?_);exact wA rfl;rfl;rfl;rfl;kernel_rfl;exact z02 _ _ _ _;intro Z2 HX O))
   (try simp only[Exit.inBlock,Exit.then])
   refine bodyPost_ret (zk rfl Tryz.underlying52 rfl _ _ (w.heap.size+1) (valC 3 0 (zo (zo (unV.fNeg f))) ⟨#[]⟩) (by kernel_rfl) rfl HX.o.range) rfl ?_;have G:=(beT g.o.bel N.o).trans (O.o.below (B:=w.heap.size) (Nat.le_trans g.o.bel.size N.o.size) (by omega) (by omega));exact .ok F.o rfl (by rw[z4g];exact z5M _ _ _ (z3o (zeU b8.o.2.1))) G
  rw[if_neg h3] at C;by_cases h2:kv= 2
  ·subst h2
   rw[if_pos rfl] at C;by_cases hn:n= -9223372036854775808
   ·rw[if_pos hn] at C
    have a2:Hid (n= -9223372036854775808):=(I hn);clear hn;have F:=I C.symm;clear C;have x0:W.cell? ⟨px,o,none⟩= some (.int .i64 k):=(g.o.bel.cell (p:=⟨px,o,none⟩) X.o).trans a0.o;have d0:W.cell? ⟨w.heap.size,0,none⟩= some (.int .i64 2):=g.o.wa.cells 0 rfl;have d1:W.cell? ⟨w.heap.size,1,none⟩= some (.int .i64 n):=g.o.wa.cells 1 rfl;have a9:IntKind.i64.wrap (-n)= n:=by rw[IntKind.wrap_i64];have:=a2.o;omega
    have b0:wrap64 (-n)= n:=by unfold wrap64;have:=a2.o;omega
    have j5:(n ==0)= false:=by have:=a2.o;simp;omega
    have j6: ¬ n= 0:=by have:=a2.o;omega
    clear a2;go_wp2_with (first|(go_at_call 115;refine zd (zm 6 _) ?_)|(go_at_call 115;refine zd (zD 7 _) ?_));exact⟨rfl,.no F.o rfl g.o.bel⟩
   ·rw[if_neg hn] at C
    have a2: ¬ n= -9223372036854775808:=hn;have F:=I C.symm;clear C;have x0:W.cell? ⟨px,o,none⟩= some (.int .i64 k):=(g.o.bel.cell (p:=⟨px,o,none⟩) X.o).trans a0.o;have d0:W.cell? ⟨w.heap.size,0,none⟩= some (.int .i64 2):=g.o.wa.cells 0 rfl;have d1:W.cell? ⟨w.heap.size,1,none⟩= some (.int .i64 n):=g.o.wa.cells 1 rfl;have b3:=b8.o.1;unfold wfI Lit.wf at b3;simp only[Bool.and_eq_true,decide_eq_true_eq] at b3;have e9:IntKind.i64.min= -9223372036854775808:=rfl;have e8:IntKind.i64.max= 9223372036854775807:=rfl;rw[e9,e8] at b3;have a9:IntKind.i64.wrap (-n)= -n:=by rw[IntKind.wrap_i64];omega
    have b0:wrap64 (-n)= -n:=by unfold wrap64;omega
    have a3:Hid (wfI (-n)):=I (z0l (by omega));clear b3 e9 e8 a2;by_cases h0:n= 0
    ·subst h0
     go_wp2_with (first|(go_at_call 115;refine zd (zm 6 _) ?_)|(go_at_call 115;refine zd (zm 7 _) ?_)|(go_at_call 158;refine(z1r 0 _).mono ?_;rintro e z ⟨rfl,K⟩;have N:=I K;have Y:=I (g.o.wb.keep (K.block _ (g.o.wb.lt)));clear K)|((with_reducible refine zg 52 _ _ rfl rfl ?_ Y.o (valC 2 0 0 ⟨#[]⟩) ?_ ?_ ?_ ?_ ?_ ?_);exact wA rfl;rfl;rfl;rfl;kernel_rfl;exact z02 _ _ _ _;intro Z2 HX O))
     (try simp only[Exit.inBlock,Exit.then])
     refine bodyPost_ret (zk rfl Tryz.underlying52 rfl _ _ (w.heap.size+1) (valC 2 0 0 ⟨#[]⟩) (by kernel_rfl) rfl HX.o.range) rfl ?_;have G:=(beT g.o.bel N.o).trans (O.o.below (B:=w.heap.size) (Nat.le_trans g.o.bel.size N.o.size) (by omega) (by omega));exact .ok F.o rfl (z2d _ _ 0 (z0l (by omega))) G
    ·have j3:(n != -n)= true:=by simp;omega
     have i6: ¬ n= -n:=by omega
     go_wp2_with (first|(go_at_call 115;refine zd (zm 6 _) ?_)|(go_at_call 115;refine zd (zm 7 _) ?_)|(go_at_call 158;refine(z1r (-n) _).mono ?_;rintro e z ⟨rfl,K⟩;have N:=I K;have Y:=I (g.o.wb.keep (K.block _ (g.o.wb.lt)));clear K)|((with_reducible refine zg 52 _ _ rfl rfl ?_ Y.o (valC 2 (-n) 0 ⟨#[]⟩) ?_ ?_ ?_ ?_ ?_ ?_);exact wA rfl;rfl;rfl;rfl;kernel_rfl;exact z02 _ _ _ _;intro Z2 HX O))
     (try simp only[Exit.inBlock,Exit.then])
     refine bodyPost_ret (zk rfl Tryz.underlying52 rfl _ _ (w.heap.size+1) (valC 2 (-n) 0 ⟨#[]⟩) (by kernel_rfl) rfl HX.o.range) rfl ?_;have G:=(beT g.o.bel N.o).trans (O.o.below (B:=w.heap.size) (Nat.le_trans g.o.bel.size N.o.size) (by omega) (by omega));exact .ok F.o rfl (z2d _ _ _ a3.o) G
  ·rw[if_neg h2] at C
   have h1:(kv ==3)= false:=(by simpa using h3);have h2:(kv ==2)= false:=(by simpa using h2);have F:=I C.symm;clear C;have x0:W.cell? ⟨px,o,none⟩= some (.int .i64 k):=(g.o.bel.cell (p:=⟨px,o,none⟩) X.o).trans a0.o;have d0:W.cell? ⟨w.heap.size,0,none⟩= some (.int .i64 kv):=g.o.wa.cells 0 rfl;go_wp2_with ((go_at_call 115;refine zd (zD 6 _) ?_));exact⟨rfl,.no F.o rfl g.o.bel⟩
end
section
open Go Go.RowKit
theorem z69 (a:Int) (ha: -9223372036854775808<=a/\a<=9223372036854775807) (w:World):Calls Tryz.prog 198 #[.int .i64 a] w fun e w'=>e= .returned (.int .u64 ((a.natAbs:Nat):Int))/\w'= w:=by
 by_cases h:a < 0
 ·have e1:IntKind.u64.wrap (-(IntKind.u64.wrap a))=((a.natAbs:Nat):Int):=by rw[IntKind.wrap_u64,IntKind.wrap_u64];omega
  go_enter Tryz.func198,Tryz.ntmps198;go_wp2;go_ret;exact⟨by first|rw[e1]|rfl,rfl⟩
 ·have e1:IntKind.u64.wrap a=((a.natAbs:Nat):Int):=by rw[IntKind.wrap_u64];omega
  go_enter Tryz.func198,Tryz.ntmps198;go_wp2;go_ret;exact⟨by first|rw[e1]|rfl,rfl⟩
def IntPost (r:Except Int Int) (w:World) (e:Ending) (w':World):Prop:=((∃ n,r= .ok n/\e= .returned (.int .i64 n))\/(∃ c,r= .error c/\e= panE c))/\w'= w
theorem IntPost.ok {n:Int} {w:World} {e:Ending} {w':World} {r:Except Int Int} (hr:r= .ok n) (he:e= .returned (.int .i64 n)) (hw:w'= w):IntPost r w e w':=⟨.inl ⟨n,hr,he⟩,hw⟩
theorem IntPost.no {c:Int} {w:World} {e:Ending} {w':World} {r:Except Int Int} (hr:r= .error c) (he:e= panE c) (hw:w'= w):IntPost r w e w':=⟨.inr ⟨c,hr,he⟩,hw⟩
theorem zbM (a b X Y q r R:Int) (sa:decide (a < 0)= true) (sb:decide (b < 0)= true) (HS1:Hid (∀ w:World,Calls Tryz.prog 198 #[.int .i64 a] w fun e w'=>e= .returned (.int .u64 X)/\w'= w)) (HS2:Hid (∀ w:World,Calls Tryz.prog 198 #[.int .i64 b] w fun e w'=>e= .returned (.int .u64 Y)/\w'= w))
  (HM:Hid (∀ w:World,Calls Tryz.prog 197 #[.int .u64 X,.int .u64 Y] w fun e w'=>e= .returned (.tuple #[.int .u64 q,.int .u64 r])/\w'= w)) (hq:q= 0) (hr:decide (r<=9223372036854775807)= true) (e3:IntKind.i64.wrap r= R) (w:World):
  Calls Tryz.prog 179 #[.int .i64 a,.int .i64 b] w fun e w'=>e= .returned (.int .i64 R)/\w'= w:=by
 subst hq;have g:IntKind.u64.wrap (9223372036854775808 - 1)= 9223372036854775807:=by rw[IntKind.wrap_u64];omega
 go_enter Tryz.func179,Tryz.ntmps179;go_wp2_with (first|(go_at_call 198;first|((with_reducible refine zd (HS1.o _) ?_))|((with_reducible refine zd (HS2.o _) ?_)))|(go_at_call 197;refine zd (HM.o _) ?_)|(go_at_call 115;refine zd (zm 7 _) ?_));go_ret;exact⟨by first|rfl|rw[e3]|simp[e3],rfl⟩
theorem zbK (a b X Y q r:Int) (sa:decide (a < 0)= true) (sb:decide (b < 0)= true) (HS1:Hid (∀ w:World,Calls Tryz.prog 198 #[.int .i64 a] w fun e w'=>e= .returned (.int .u64 X)/\w'= w)) (HS2:Hid (∀ w:World,Calls Tryz.prog 198 #[.int .i64 b] w fun e w'=>e= .returned (.int .u64 Y)/\w'= w))
  (HM:Hid (∀ w:World,Calls Tryz.prog 197 #[.int .u64 X,.int .u64 Y] w fun e w'=>e= .returned (.tuple #[.int .u64 q,.int .u64 r])/\w'= w)) (hq:q= 0) (hr:decide (r<=9223372036854775807)= false) (w:World):
  Calls Tryz.prog 179 #[.int .i64 a,.int .i64 b] w fun e w'=>e= panE 7/\w'= w:=by
 subst hq;have g:IntKind.u64.wrap (9223372036854775808 - 1)= 9223372036854775807:=by rw[IntKind.wrap_u64];omega
 go_enter Tryz.func179,Tryz.ntmps179;go_wp2_with (first|(go_at_call 198;first|((with_reducible refine zd (HS1.o _) ?_))|((with_reducible refine zd (HS2.o _) ?_)))|(go_at_call 197;refine zd (HM.o _) ?_)|(go_at_call 115;refine zd (zD 7 _) ?_));exact⟨rfl,rfl,rfl⟩
theorem zbL (a b X Y q r:Int) (sa:decide (a < 0)= true) (sb:decide (b < 0)= true) (HS1:Hid (∀ w:World,Calls Tryz.prog 198 #[.int .i64 a] w fun e w'=>e= .returned (.int .u64 X)/\w'= w)) (HS2:Hid (∀ w:World,Calls Tryz.prog 198 #[.int .i64 b] w fun e w'=>e= .returned (.int .u64 Y)/\w'= w))
  (HM:Hid (∀ w:World,Calls Tryz.prog 197 #[.int .u64 X,.int .u64 Y] w fun e w'=>e= .returned (.tuple #[.int .u64 q,.int .u64 r])/\w'= w)) (hq:(q ==0)= false) (w:World):
  Calls Tryz.prog 179 #[.int .i64 a,.int .i64 b] w fun e w'=>e= panE 7/\w'= w:=by
 have g:IntKind.u64.wrap (9223372036854775808 - 1)= 9223372036854775807:=by rw[IntKind.wrap_u64];omega
 go_enter Tryz.func179,Tryz.ntmps179;go_wp2_with (first|(go_at_call 198;first|((with_reducible refine zd (HS1.o _) ?_))|((with_reducible refine zd (HS2.o _) ?_)))|(go_at_call 197;refine zd (HM.o _) ?_)|(go_at_call 115;refine zd (zD 7 _) ?_));exact⟨rfl,rfl,rfl⟩
theorem zbJ (a b X Y q r R:Int) (sa:decide (a < 0)= true) (sb:decide (b < 0)= false) (HS1:Hid (∀ w:World,Calls Tryz.prog 198 #[.int .i64 a] w fun e w'=>e= .returned (.int .u64 X)/\w'= w)) (HS2:Hid (∀ w:World,Calls Tryz.prog 198 #[.int .i64 b] w fun e w'=>e= .returned (.int .u64 Y)/\w'= w))
  (HM:Hid (∀ w:World,Calls Tryz.prog 197 #[.int .u64 X,.int .u64 Y] w fun e w'=>e= .returned (.tuple #[.int .u64 q,.int .u64 r])/\w'= w)) (hq:q= 0) (hr:decide (r<=9223372036854775808)= true) (e3:IntKind.i64.wrap (IntKind.u64.wrap (-r))= R) (w:World):
  Calls Tryz.prog 179 #[.int .i64 a,.int .i64 b] w fun e w'=>e= .returned (.int .i64 R)/\w'= w:=by
 subst hq;have g:IntKind.u64.wrap (9223372036854775808 - 1)= 9223372036854775807:=by rw[IntKind.wrap_u64];omega
 go_enter Tryz.func179,Tryz.ntmps179;go_wp2_with (first|(go_at_call 198;first|((with_reducible refine zd (HS1.o _) ?_))|((with_reducible refine zd (HS2.o _) ?_)))|(go_at_call 197;refine zd (HM.o _) ?_)|(go_at_call 115;refine zd (zm 7 _) ?_));go_ret;exact⟨by first|rfl|rw[e3]|simp[e3],rfl⟩
theorem zbH (a b X Y q r:Int) (sa:decide (a < 0)= true) (sb:decide (b < 0)= false) (HS1:Hid (∀ w:World,Calls Tryz.prog 198 #[.int .i64 a] w fun e w'=>e= .returned (.int .u64 X)/\w'= w)) (HS2:Hid (∀ w:World,Calls Tryz.prog 198 #[.int .i64 b] w fun e w'=>e= .returned (.int .u64 Y)/\w'= w))
  (HM:Hid (∀ w:World,Calls Tryz.prog 197 #[.int .u64 X,.int .u64 Y] w fun e w'=>e= .returned (.tuple #[.int .u64 q,.int .u64 r])/\w'= w)) (hq:q= 0) (hr:decide (r<=9223372036854775808)= false) (w:World):
  Calls Tryz.prog 179 #[.int .i64 a,.int .i64 b] w fun e w'=>e= panE 7/\w'= w:=by
 subst hq;have g:IntKind.u64.wrap (9223372036854775808 - 1)= 9223372036854775807:=by rw[IntKind.wrap_u64];omega
 go_enter Tryz.func179,Tryz.ntmps179;go_wp2_with (first|(go_at_call 198;first|((with_reducible refine zd (HS1.o _) ?_))|((with_reducible refine zd (HS2.o _) ?_)))|(go_at_call 197;refine zd (HM.o _) ?_)|(go_at_call 115;refine zd (zD 7 _) ?_));exact⟨rfl,rfl,rfl⟩
theorem zbI (a b X Y q r:Int) (sa:decide (a < 0)= true) (sb:decide (b < 0)= false) (HS1:Hid (∀ w:World,Calls Tryz.prog 198 #[.int .i64 a] w fun e w'=>e= .returned (.int .u64 X)/\w'= w)) (HS2:Hid (∀ w:World,Calls Tryz.prog 198 #[.int .i64 b] w fun e w'=>e= .returned (.int .u64 Y)/\w'= w))
  (HM:Hid (∀ w:World,Calls Tryz.prog 197 #[.int .u64 X,.int .u64 Y] w fun e w'=>e= .returned (.tuple #[.int .u64 q,.int .u64 r])/\w'= w)) (hq:(q ==0)= false) (w:World):
  Calls Tryz.prog 179 #[.int .i64 a,.int .i64 b] w fun e w'=>e= panE 7/\w'= w:=by
 have g:IntKind.u64.wrap (9223372036854775808 - 1)= 9223372036854775807:=by rw[IntKind.wrap_u64];omega
 go_enter Tryz.func179,Tryz.ntmps179;go_wp2_with (first|(go_at_call 198;first|((with_reducible refine zd (HS1.o _) ?_))|((with_reducible refine zd (HS2.o _) ?_)))|(go_at_call 197;refine zd (HM.o _) ?_)|(go_at_call 115;refine zd (zD 7 _) ?_));exact⟨rfl,rfl,rfl⟩
theorem zbG (a b X Y q r R:Int) (sa:decide (a < 0)= false) (sb:decide (b < 0)= true) (HS1:Hid (∀ w:World,Calls Tryz.prog 198 #[.int .i64 a] w fun e w'=>e= .returned (.int .u64 X)/\w'= w)) (HS2:Hid (∀ w:World,Calls Tryz.prog 198 #[.int .i64 b] w fun e w'=>e= .returned (.int .u64 Y)/\w'= w))
  (HM:Hid (∀ w:World,Calls Tryz.prog 197 #[.int .u64 X,.int .u64 Y] w fun e w'=>e= .returned (.tuple #[.int .u64 q,.int .u64 r])/\w'= w)) (hq:q= 0) (hr:decide (r<=9223372036854775808)= true) (e3:IntKind.i64.wrap (IntKind.u64.wrap (-r))= R) (w:World):
  Calls Tryz.prog 179 #[.int .i64 a,.int .i64 b] w fun e w'=>e= .returned (.int .i64 R)/\w'= w:=by
 subst hq;have g:IntKind.u64.wrap (9223372036854775808 - 1)= 9223372036854775807:=by rw[IntKind.wrap_u64];omega
 go_enter Tryz.func179,Tryz.ntmps179;go_wp2_with (first|(go_at_call 198;first|((with_reducible refine zd (HS1.o _) ?_))|((with_reducible refine zd (HS2.o _) ?_)))|(go_at_call 197;refine zd (HM.o _) ?_)|(go_at_call 115;refine zd (zm 7 _) ?_));go_ret;exact⟨by first|rfl|rw[e3]|simp[e3],rfl⟩
theorem zbE (a b X Y q r:Int) (sa:decide (a < 0)= false) (sb:decide (b < 0)= true) (HS1:Hid (∀ w:World,Calls Tryz.prog 198 #[.int .i64 a] w fun e w'=>e= .returned (.int .u64 X)/\w'= w)) (HS2:Hid (∀ w:World,Calls Tryz.prog 198 #[.int .i64 b] w fun e w'=>e= .returned (.int .u64 Y)/\w'= w))
  (HM:Hid (∀ w:World,Calls Tryz.prog 197 #[.int .u64 X,.int .u64 Y] w fun e w'=>e= .returned (.tuple #[.int .u64 q,.int .u64 r])/\w'= w)) (hq:q= 0) (hr:decide (r<=9223372036854775808)= false) (w:World):
  Calls Tryz.prog 179 #[.int .i64 a,.int .i64 b] w fun e w'=>e= panE 7/\w'= w:=by
 subst hq;have g:IntKind.u64.wrap (9223372036854775808 - 1)= 9223372036854775807:=by rw[IntKind.wrap_u64];omega
 go_enter Tryz.func179,Tryz.ntmps179;go_wp2_with (first|(go_at_call 198;first|((with_reducible refine zd (HS1.o _) ?_))|((with_reducible refine zd (HS2.o _) ?_)))|(go_at_call 197;refine zd (HM.o _) ?_)|(go_at_call 115;refine zd (zD 7 _) ?_));exact⟨rfl,rfl,rfl⟩
theorem zbF (a b X Y q r:Int) (sa:decide (a < 0)= false) (sb:decide (b < 0)= true) (HS1:Hid (∀ w:World,Calls Tryz.prog 198 #[.int .i64 a] w fun e w'=>e= .returned (.int .u64 X)/\w'= w)) (HS2:Hid (∀ w:World,Calls Tryz.prog 198 #[.int .i64 b] w fun e w'=>e= .returned (.int .u64 Y)/\w'= w))
  (HM:Hid (∀ w:World,Calls Tryz.prog 197 #[.int .u64 X,.int .u64 Y] w fun e w'=>e= .returned (.tuple #[.int .u64 q,.int .u64 r])/\w'= w)) (hq:(q ==0)= false) (w:World):
  Calls Tryz.prog 179 #[.int .i64 a,.int .i64 b] w fun e w'=>e= panE 7/\w'= w:=by
 have g:IntKind.u64.wrap (9223372036854775808 - 1)= 9223372036854775807:=by rw[IntKind.wrap_u64];omega
 go_enter Tryz.func179,Tryz.ntmps179;go_wp2_with (first|(go_at_call 198;first|((with_reducible refine zd (HS1.o _) ?_))|((with_reducible refine zd (HS2.o _) ?_)))|(go_at_call 197;refine zd (HM.o _) ?_)|(go_at_call 115;refine zd (zD 7 _) ?_));exact⟨rfl,rfl,rfl⟩
theorem zbD (a b X Y q r R:Int) (sa:decide (a < 0)= false) (sb:decide (b < 0)= false) (HS1:Hid (∀ w:World,Calls Tryz.prog 198 #[.int .i64 a] w fun e w'=>e= .returned (.int .u64 X)/\w'= w)) (HS2:Hid (∀ w:World,Calls Tryz.prog 198 #[.int .i64 b] w fun e w'=>e= .returned (.int .u64 Y)/\w'= w))
  (HM:Hid (∀ w:World,Calls Tryz.prog 197 #[.int .u64 X,.int .u64 Y] w fun e w'=>e= .returned (.tuple #[.int .u64 q,.int .u64 r])/\w'= w)) (hq:q= 0) (hr:decide (r<=9223372036854775807)= true) (e3:IntKind.i64.wrap r= R) (w:World):
  Calls Tryz.prog 179 #[.int .i64 a,.int .i64 b] w fun e w'=>e= .returned (.int .i64 R)/\w'= w:=by
 subst hq;have g:IntKind.u64.wrap (9223372036854775808 - 1)= 9223372036854775807:=by rw[IntKind.wrap_u64];omega
 go_enter Tryz.func179,Tryz.ntmps179;go_wp2_with (first|(go_at_call 198;first|((with_reducible refine zd (HS1.o _) ?_))|((with_reducible refine zd (HS2.o _) ?_)))|(go_at_call 197;refine zd (HM.o _) ?_)|(go_at_call 115;refine zd (zm 7 _) ?_));go_ret;exact⟨by first|rfl|rw[e3]|simp[e3],rfl⟩
theorem zbB (a b X Y q r:Int) (sa:decide (a < 0)= false) (sb:decide (b < 0)= false) (HS1:Hid (∀ w:World,Calls Tryz.prog 198 #[.int .i64 a] w fun e w'=>e= .returned (.int .u64 X)/\w'= w)) (HS2:Hid (∀ w:World,Calls Tryz.prog 198 #[.int .i64 b] w fun e w'=>e= .returned (.int .u64 Y)/\w'= w))
  (HM:Hid (∀ w:World,Calls Tryz.prog 197 #[.int .u64 X,.int .u64 Y] w fun e w'=>e= .returned (.tuple #[.int .u64 q,.int .u64 r])/\w'= w)) (hq:q= 0) (hr:decide (r<=9223372036854775807)= false) (w:World):
  Calls Tryz.prog 179 #[.int .i64 a,.int .i64 b] w fun e w'=>e= panE 7/\w'= w:=by
 subst hq;have g:IntKind.u64.wrap (9223372036854775808 - 1)= 9223372036854775807:=by rw[IntKind.wrap_u64];omega
 go_enter Tryz.func179,Tryz.ntmps179;go_wp2_with (first|(go_at_call 198;first|((with_reducible refine zd (HS1.o _) ?_))|((with_reducible refine zd (HS2.o _) ?_)))|(go_at_call 197;refine zd (HM.o _) ?_)|(go_at_call 115;refine zd (zD 7 _) ?_));exact⟨rfl,rfl,rfl⟩
theorem zbC (a b X Y q r:Int) (sa:decide (a < 0)= false) (sb:decide (b < 0)= false) (HS1:Hid (∀ w:World,Calls Tryz.prog 198 #[.int .i64 a] w fun e w'=>e= .returned (.int .u64 X)/\w'= w)) (HS2:Hid (∀ w:World,Calls Tryz.prog 198 #[.int .i64 b] w fun e w'=>e= .returned (.int .u64 Y)/\w'= w))
  (HM:Hid (∀ w:World,Calls Tryz.prog 197 #[.int .u64 X,.int .u64 Y] w fun e w'=>e= .returned (.tuple #[.int .u64 q,.int .u64 r])/\w'= w)) (hq:(q ==0)= false) (w:World):
  Calls Tryz.prog 179 #[.int .i64 a,.int .i64 b] w fun e w'=>e= panE 7/\w'= w:=by
 have g:IntKind.u64.wrap (9223372036854775808 - 1)= 9223372036854775807:=by rw[IntKind.wrap_u64];omega
 go_enter Tryz.func179,Tryz.ntmps179;go_wp2_with (first|(go_at_call 198;first|((with_reducible refine zd (HS1.o _) ?_))|((with_reducible refine zd (HS2.o _) ?_)))|(go_at_call 197;refine zd (HM.o _) ?_)|(go_at_call 115;refine zd (zD 7 _) ?_));exact⟨rfl,rfl,rfl⟩
theorem zbN (a b:Int) (ha: -9223372036854775808<=a/\a<=9223372036854775807) (hb: -9223372036854775808<=b/\b<=9223372036854775807) (w:World):
  Calls Tryz.prog 179 #[.int .i64 a,.int .i64 b] w (IntPost (okI (a*b)) w):=by
 have g:=I (z69 a ha);have A:=I (z69 b hb);have F:=I (fun w=>Tryz.bits_Mul64 a.natAbs b.natAbs (by omega) (by omega) w);by_cases sa:a < 0
 ·by_cases sb:b < 0
  ·have C:=z3K (a:=a) (b:=b) (by constructor<;>intro<;>omega)
   by_cases hp:a.natAbs*b.natAbs<=9223372036854775807
   ·refine(zbM a b _ _ _ _ ((a.natAbs*b.natAbs:Nat):Int) (decide_eq_true sa) (decide_eq_true sb) g A F (by omega) (decide_eq_true (by omega)) (by rw[wrapI];omega) w).mono fun e w' h=> .ok (by rw[C,if_pos hp]) h.1 h.2
   ·by_cases h1:a.natAbs*b.natAbs / 18446744073709551616= 0
    ·refine(zbK a b _ _ _ _ (decide_eq_true sa) (decide_eq_true sb) g A F (by omega) (decide_eq_false (by omega)) w).mono fun e w' h=> .no (by rw[C,if_neg hp]) h.1 h.2
    ·refine(zbL a b _ _ _ _ (decide_eq_true sa) (decide_eq_true sb) g A F (by rw[beq_eq_false_iff_ne];omega) w).mono fun e w' h=> .no (by rw[C,if_neg hp]) h.1 h.2
  ·have C:=z3q (a:=a) (b:=b) (by omega)
   by_cases hp:a.natAbs*b.natAbs<=9223372036854775808
   ·refine(zbJ a b _ _ _ _ (-((a.natAbs*b.natAbs:Nat):Int)) (decide_eq_true sa) (decide_eq_false sb) g A F (by omega) (decide_eq_true (by omega)) (by rw[wrapI,IntKind.wrap_u64];omega) w).mono fun e w' h=> .ok (by rw[C,if_pos hp]) h.1 h.2
   ·by_cases h1:a.natAbs*b.natAbs / 18446744073709551616= 0
    ·refine(zbH a b _ _ _ _ (decide_eq_true sa) (decide_eq_false sb) g A F (by omega) (decide_eq_false (by omega)) w).mono fun e w' h=> .no (by rw[C,if_neg hp]) h.1 h.2
    ·refine(zbI a b _ _ _ _ (decide_eq_true sa) (decide_eq_false sb) g A F (by rw[beq_eq_false_iff_ne];omega) w).mono fun e w' h=> .no (by rw[C,if_neg hp]) h.1 h.2
 ·by_cases sb:b < 0
  ·have C:=z3q (a:=a) (b:=b) (by omega)
   by_cases hp:a.natAbs*b.natAbs<=9223372036854775808
   ·refine(zbG a b _ _ _ _ (-((a.natAbs*b.natAbs:Nat):Int)) (decide_eq_false sa) (decide_eq_true sb) g A F (by omega) (decide_eq_true (by omega)) (by rw[wrapI,IntKind.wrap_u64];omega) w).mono fun e w' h=> .ok (by rw[C,if_pos hp]) h.1 h.2
   ·by_cases h1:a.natAbs*b.natAbs / 18446744073709551616= 0
    ·refine(zbE a b _ _ _ _ (decide_eq_false sa) (decide_eq_true sb) g A F (by omega) (decide_eq_false (by omega)) w).mono fun e w' h=> .no (by rw[C,if_neg hp]) h.1 h.2
    ·refine(zbF a b _ _ _ _ (decide_eq_false sa) (decide_eq_true sb) g A F (by rw[beq_eq_false_iff_ne];omega) w).mono fun e w' h=> .no (by rw[C,if_neg hp]) h.1 h.2
  ·have C:=z3K (a:=a) (b:=b) (by constructor<;>intro<;>omega)
   by_cases hp:a.natAbs*b.natAbs<=9223372036854775807
   ·refine(zbD a b _ _ _ _ ((a.natAbs*b.natAbs:Nat):Int) (decide_eq_false sa) (decide_eq_false sb) g A F (by omega) (decide_eq_true (by omega)) (by rw[wrapI];omega) w).mono fun e w' h=> .ok (by rw[C,if_pos hp]) h.1 h.2
   ·by_cases h1:a.natAbs*b.natAbs / 18446744073709551616= 0
    ·refine(zbB a b _ _ _ _ (decide_eq_false sa) (decide_eq_false sb) g A F (by omega) (decide_eq_false (by omega)) w).mono fun e w' h=> .no (by rw[C,if_neg hp]) h.1 h.2
    ·refine(zbC a b _ _ _ _ (decide_eq_false sa) (decide_eq_false sb) g A F (by rw[beq_eq_false_iff_ne];omega) w).mono fun e w' h=> .no (by rw[C,if_neg hp]) h.1 h.2
end
section
open Go Go.RowKit
theorem z9W (a b n:Int) (hn:wrap64 (a+b)= n) (hs:0<=bits .and .i64 (bits .xor .i64 a n) (bits .xor .i64 b n)) (w:World):
  Calls Tryz.prog 164 #[.int .i64 5,.int .i64 a,.int .i64 b] w fun e w'=>e= .returned (.int .i64 n)/\w'= w:=by
 go_enter Tryz.func164,Tryz.ntmps164;go_wp2_with ((go_at_call 115;refine zd (zm 7 _) ?_));go_ret;exact⟨rfl,rfl⟩
theorem z9V (a b n:Int) (hn:wrap64 (a+b)= n) (hs: ¬ 0<=bits .and .i64 (bits .xor .i64 a n) (bits .xor .i64 b n)) (w:World):
  Calls Tryz.prog 164 #[.int .i64 5,.int .i64 a,.int .i64 b] w fun e w'=>e= panE 7/\w'= w:=by
 go_enter Tryz.func164,Tryz.ntmps164;go_wp2_with ((go_at_call 115;refine zd (zD 7 _) ?_));exact⟨rfl,rfl,rfl⟩
theorem z9U (a b:Int) (ha: -9223372036854775808<=a/\a<=9223372036854775807) (hb: -9223372036854775808<=b/\b<=9223372036854775807) (w:World):
  Calls Tryz.prog 164 #[.int .i64 5,.int .i64 a,.int .i64 b] w (IntPost (okI (a+b)) w):=by
 have g:=zen ha hb;by_cases h: -9223372036854775808<=a+b/\a+b<=9223372036854775807
 ·have A:wrap64 (a+b)= a+b:=by unfold wrap64;omega
  rw[A] at g;exact(z9W a b _ A (g.2 h) w).mono fun e w' h2=> .ok (z41 h) h2.1 h2.2
 ·exact(z9V a b _ rfl (mt g.1 h) w).mono fun e w' h2=> .no (z7A h) h2.1 h2.2
theorem za3 (a b n:Int) (hn:wrap64 (a - b)= n) (hs:0<=bits .and .i64 (bits .xor .i64 a b) (bits .xor .i64 a n)) (w:World):
  Calls Tryz.prog 164 #[.int .i64 6,.int .i64 a,.int .i64 b] w fun e w'=>e= .returned (.int .i64 n)/\w'= w:=by
 go_enter Tryz.func164,Tryz.ntmps164;go_wp2_with ((go_at_call 115;refine zd (zm 7 _) ?_));go_ret;exact⟨rfl,rfl⟩
theorem za2 (a b n:Int) (hn:wrap64 (a - b)= n) (hs: ¬ 0<=bits .and .i64 (bits .xor .i64 a b) (bits .xor .i64 a n)) (w:World):
  Calls Tryz.prog 164 #[.int .i64 6,.int .i64 a,.int .i64 b] w fun e w'=>e= panE 7/\w'= w:=by
 go_enter Tryz.func164,Tryz.ntmps164;go_wp2_with ((go_at_call 115;refine zd (zD 7 _) ?_));exact⟨rfl,rfl,rfl⟩
theorem za1 (a b:Int) (ha: -9223372036854775808<=a/\a<=9223372036854775807) (hb: -9223372036854775808<=b/\b<=9223372036854775807) (w:World):
  Calls Tryz.prog 164 #[.int .i64 6,.int .i64 a,.int .i64 b] w (IntPost (okI (a - b)) w):=by
 have g:=zcx ha hb;by_cases h: -9223372036854775808<=a - b/\a - b<=9223372036854775807
 ·have A:wrap64 (a - b)= a - b:=by unfold wrap64;omega
  rw[A] at g;exact(za3 a b _ A (g.2 h) w).mono fun e w' h2=> .ok (z41 h) h2.1 h2.2
 ·exact(za2 a b _ rfl (mt g.1 h) w).mono fun e w' h2=> .no (z7A h) h2.1 h2.2
theorem za0 (a b:Int) (ha: -9223372036854775808<=a/\a<=9223372036854775807) (hb: -9223372036854775808<=b/\b<=9223372036854775807) (w:World):
  Calls Tryz.prog 164 #[.int .i64 7,.int .i64 a,.int .i64 b] w (IntPost (okI (a*b)) w):=by
 have C:=I (zbN a b ha hb w);go_enter Tryz.func164,Tryz.ntmps164;go_wp2_with (go_at_call 179;fail);refine C.o.mono ?_;rintro e w' ⟨⟨n,g,rfl⟩|⟨c,g,rfl⟩,rfl⟩
 ·have A:=I g
  clear g C;go_wp2;go_ret;exact .ok A.o rfl rfl
 ·have A:=I g
  clear g C;go_wp2;exact⟨rfl,.no A.o rfl rfl⟩
theorem z8y (k a:Int) (h5:(k ==5)= false) (h6:(k ==6)= false) (h7:(k ==7)= false) (w:World):
  Calls Tryz.prog 164 #[.int .i64 k,.int .i64 a,.int .i64 0] w fun e w'=>e= panE 8/\w'= w:=by
 go_enter Tryz.func164,Tryz.ntmps164;go_wp2_with ((go_at_call 115;refine zd (zD 8 _) ?_));exact⟨rfl,rfl,rfl⟩
theorem z9Y (a:Int) (w:World):
  Calls Tryz.prog 164 #[.int .i64 9,.int .i64 a,.int .i64 (-1)] w fun e w'=>e= .returned (.int .i64 0)/\w'= w:=by
 go_enter Tryz.func164,Tryz.ntmps164;go_wp2_with ((go_at_call 115;refine zd (zm 8 _) ?_));go_ret;exact⟨rfl,rfl⟩
theorem z9Z (a b:Int) (h0: ¬ b= 0) (h0':(b !=0)= true) (h1:(b == -1)= false) (hw:IntKind.i64.wrap (a.tmod b)= a.tmod b) (w:World):
  Calls Tryz.prog 164 #[.int .i64 9,.int .i64 a,.int .i64 b] w fun e w'=>e= .returned (.int .i64 (a.tmod b))/\w'= w:=by
 go_enter Tryz.func164,Tryz.ntmps164;go_wp2_with ((go_at_call 115;refine zd (zm 8 _) ?_));go_ret;exact⟨by first|rfl|rw[hw]|simp[hw],rfl⟩
theorem z9X (k a b:Int) (h5:(k ==5)= false) (h6:(k ==6)= false) (h7:(k ==7)= false) (h9:(k ==9)= false) (h0: ¬ b= 0) (h0':(b !=0)= true) (h1:(b != -1)= true) (hw:IntKind.i64.wrap (a.tdiv b)= a.tdiv b) (w:World):
  Calls Tryz.prog 164 #[.int .i64 k,.int .i64 a,.int .i64 b] w fun e w'=>e= .returned (.int .i64 (a.tdiv b))/\w'= w:=by
 go_enter Tryz.func164,Tryz.ntmps164;go_wp2_with (first|(go_at_call 115;refine zd (zm 7 _) ?_)|(go_at_call 115;refine zd (zm 8 _) ?_));go_ret;exact⟨by first|rfl|rw[hw]|simp[hw],rfl⟩
theorem z8x (k a:Int) (h5:(k ==5)= false) (h6:(k ==6)= false) (h7:(k ==7)= false) (h9:(k ==9)= false) (n:Int) (hn:IntKind.i64.wrap (-a)= n) (hne:((a !=n) ||(a ==0))= true) (hw:IntKind.i64.wrap (a.tdiv (-1))= n) (w:World):
  Calls Tryz.prog 164 #[.int .i64 k,.int .i64 a,.int .i64 (-1)] w fun e w'=>e= .returned (.int .i64 n)/\w'= w:=by
 cases h:(a !=n) with
 |true=>
  clear hne;go_enter Tryz.func164,Tryz.ntmps164;go_wp2_with (first|(go_at_call 115;refine zd (zm 7 _) ?_)|(go_at_call 115;refine zd (zm 8 _) ?_));go_ret;exact⟨by first|rfl|rw[hw]|simp[hw],rfl⟩
 |false=>
  rw[h,Bool.false_or] at hne;go_enter Tryz.func164,Tryz.ntmps164;go_wp2_with (first|(go_at_call 115;refine zd (zm 7 _) ?_)|(go_at_call 115;refine zd (zm 8 _) ?_));go_ret;exact⟨by first|rfl|rw[hw]|simp[hw],rfl⟩
theorem z8w (k a:Int) (h5:(k ==5)= false) (h6:(k ==6)= false) (h7:(k ==7)= false) (h9:(k ==9)= false) (n:Int) (hn:IntKind.i64.wrap (-a)= n) (hne:(a !=n)= false) (h0:(a ==0)= false) (w:World):
  Calls Tryz.prog 164 #[.int .i64 k,.int .i64 a,.int .i64 (-1)] w fun e w'=>e= panE 7/\w'= w:=by
 go_enter Tryz.func164,Tryz.ntmps164;go_wp2_with (first|(go_at_call 115;refine zd (zm 8 _) ?_)|(go_at_call 115;refine zd (zD 7 _) ?_));exact⟨rfl,rfl,rfl⟩
theorem zeq {a b:Int} (ha: -9223372036854775808<=a/\a<=9223372036854775807) (h0:b≠0) (h1:b≠ -1): -9223372036854775808<=a.tdiv b/\a.tdiv b<=9223372036854775807:=by
 by_cases h2:b= 1
 ·subst h2;rw[Int.tdiv_one];exact ha
 have h3:=Int.natAbs_tdiv a b;have h4:a.natAbs / b.natAbs<=a.natAbs / 2:=Nat.div_le_div_left (by omega) (by omega);have h5:(a.tdiv b).natAbs<=a.natAbs / 2:=by rw[h3];exact h4
 omega
theorem z92 {a b:Int} (ha: -9223372036854775808<=a/\a<=9223372036854775807): -9223372036854775808<=a.tmod b/\a.tmod b<=9223372036854775807:=by
 have h1:(a.tmod b).natAbs<=a.natAbs:=by rw[Int.natAbs_tmod];exact Nat.mod_le _ _
 have h2:=Int.tmod_nonneg b (a:=a);have h3:=Int.neg_tmod (a:= -a) (b:=b);rw[Int.neg_neg] at h3;have h4:=Int.tmod_nonneg b (a:= -a);omega
theorem zc9 (k a b:Int) (ha: -9223372036854775808<=a/\a<=9223372036854775807) (hb: -9223372036854775808<=b/\b<=9223372036854775807) (w:World):
  Calls Tryz.prog 164 #[.int .i64 k,.int .i64 a,.int .i64 b] w (IntPost (z2p k a b) w):=by
 unfold z2p;by_cases k5:k= 5
 ·subst k5;rw[if_pos rfl];exact z9U a b ha hb w
 by_cases k6:k= 6
 ·subst k6;rw[if_neg (by decide),if_pos rfl];exact za1 a b ha hb w
 by_cases k7:k= 7
 ·subst k7;rw[if_neg (by decide),if_neg (by decide),if_pos rfl];exact za0 a b ha hb w
 rw[if_neg k5,if_neg k6,if_neg k7];have e5:(k ==5)= false:=by simpa using k5
 have e6:(k ==6)= false:=by simpa using k6
 have e7:(k ==7)= false:=by simpa using k7
 by_cases h0:b= 0
 ·subst h0
  rw[if_pos rfl];exact(z8y k a e5 e6 e7 w).mono fun e w' h=> .no rfl h.1 h.2
 rw[if_neg h0];by_cases k9:k= 9
 ·subst k9
  rw[if_pos rfl];by_cases h1:b= -1
  ·subst h1
   have h2:a.tmod (-1)= 0:=by rw[show(-1:Int)= -(1:Int) from rfl,Int.tmod_neg,Int.tmod_one]
   rw[h2];exact(z9Y a w).mono fun e w' h=> .ok rfl h.1 h.2
  ·have h2:=z92 (b:=b) ha
   exact(z9Z a b h0 (by simpa using h0) (by simpa using h1) (by rw[wrapI];omega) w).mono fun e w' h=> .ok rfl h.1 h.2
 ·rw[if_neg k9]
  have e9:(k ==9)= false:=by simpa using k9
  by_cases h1:b= -1
  ·subst h1
   have h2:a.tdiv (-1)= -a:=by rw[show(-1:Int)= -(1:Int) from rfl,Int.tdiv_neg,Int.tdiv_one]
   rw[h2];by_cases hm:a= -9223372036854775808
   ·subst hm
    exact(z8w k _ e5 e6 e7 e9 (-9223372036854775808) (by rw[wrapI];omega) (by decide) (by decide) w).mono fun e w' h=> .no (z7A (by omega)) h.1 h.2
   ·refine(z8x k a e5 e6 e7 e9 (-a) (by rw[wrapI];omega) ?_ (by rw[h2,wrapI];omega) w).mono fun e w' h=> .ok (z41 (by omega)) h.1 h.2
    by_cases hz:a= 0
    ·subst hz;rfl
    ·have:(a != -a)= true:=by simp;omega
     rw[this];rfl
  ·have h2:=zeq ha h0 h1
   exact(z9X k a b e5 e6 e7 e9 h0 (by simpa using h0) (by simpa using h1) (by rw[wrapI];omega) w).mono fun e w' h=> .ok (z41 h2) h.1 h.2
end
end Go.Proofs.YtdjfpcmlffekkaaGreatDoor
