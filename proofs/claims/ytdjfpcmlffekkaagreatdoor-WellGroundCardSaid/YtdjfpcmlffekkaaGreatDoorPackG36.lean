/- Parts of a proof: E10E, EvC, ConstE. -/
import Derived.Defers
import Derived.Recover
import Derived.Test.YtdjfpcmlffekkaaGreatDoorPackG27
import Derived.Test.YtdjfpcmlffekkaaGreatDoorPackG35
set_option maxHeartbeats 8000000
set_option maxRecDepth 100000
set_option linter.unusedVariables false
set_option linter.unusedSimpArgs false
namespace Go.Proofs.YtdjfpcmlffekkaaGreatDoor
section
open Go Go.RowKit
theorem Whole.thaw' {T:TypeId} {w:World} {b:Nat} {cs:List Value} (h:Whole T w b cs) (i:Nat):w.frozen? ⟨b,i,none⟩= false:=by
 unfold World.frozen?;have h2:w.heap[b]?= some (.cells cs.toArray T):=h;simp[h2]
theorem z3v (q r:Nat) (n m:Int) (T:TypeId) (older:List PanicEntry) (w:World) (hq:Whole 52 w q zV6) (hr:Whole T w r [.int .i64 m]) (hqr:q≠r):
  CallsD Tryz.prog 114 #[.pointer (some ⟨q,0,none⟩),.pointer (some ⟨r,0,none⟩)] (.panicking ({ v:= .iface 33 (.int .i64 n),recovered:=false }::older)) w fun e u' w'=>
   e= .returned (.tuple #[])/\u'= .panicking ({ v:= .iface 33 (.int .i64 n),recovered:=true }::older)/\Whole 52 w' q zV6/\w'.cell? ⟨r,0,none⟩= some (.int .i64 n)/\But w w' q r:=by
 have O:=I hq;have K:=I hr;have G:w.frozen? ⟨r,0,none⟩= false:=by have:=Whole.thaw' hr 0;exact this
 have F:∀ (S:TypeId) (W:World),(Instr.typeAssert (.iface 33 (.int .i64 n)) S 33 true).run Tryz.prog W= .ok (.tuple #[.int .i64 n,.bool true]) W:=fun S W=>by kernel_rfl
 refine callsD_of_wpS Tryz.func114 rfl fun c₀ cs hu=> ?_;apply wpS_seq;apply wpS_region;simp[wpOpsS,go_sem,recoverD,hu,F,Tryz.ntmps114,Exit.thenS,Array.replicate];refine wpS_of_wp ?_;clear F G hq hr hu;go_wp2_with ((with_reducible refine z0T 52 _ _ rfl rfl ?_ q zV6 zV6 O.o ?_ ?_ ?_ ?_ ?_ ?_);(exact wA rfl);rfl;rfl;rfl;kernel_rfl;exact z02 _ _ _ _;intro Z N C;have X:=I N;have g:=I C;have A:Whole T Z r [.int .i64 m]:=K.o.keep (C.block r K.o.lt (Ne.symm hqr) (Ne.symm hqr));have c0:Z.cell? ⟨r,0,none⟩= some (.int .i64 m):=A.cells 0 rfl;have f0:Z.frozen? ⟨r,0,none⟩= false:=A.thaw' 0;clear N C A);refine⟨rfl,_,rfl,_,results_none rfl _ _ _,rfl,rfl,?_,World.cell?_setCell_same _ _ _ (by rw[c0]),?_⟩
 ·exact X.o.keep (Below.heap_setCell Z ⟨r,0,none⟩ _ q hqr)
 ·exact⟨g.o.os,g.o.tape,g.o.output,by have:=g.o.size;simpa [World.setCell] using this,fun b C h1 h2=>(Below.heap_setCell Z ⟨r,0,none⟩ _ b h2).trans (g.o.block b C h1 h1)⟩
theorem z98 (q r:Nat) (w:World):
  CallsD Tryz.prog 114 #[.pointer (some ⟨q,0,none⟩),.pointer (some ⟨r,0,none⟩)] .returning w fun e u' w'=>e= .returned (.tuple #[])/\u'= .returning/\w'= w:=by
 have g:∀ (S:TypeId) (W:World),(Instr.typeAssert .nilIface S 33 true).run Tryz.prog W= .ok (.tuple #[.int .i64 0,.bool false]) W:=fun S W=>by kernel_rfl
 refine callsD_of_wpS Tryz.func114 rfl fun c₀ cs hu=> ?_;apply wpS_seq;apply wpS_region;simp[wpOpsS,go_sem,recoverD,hu,g,Tryz.ntmps114,Exit.thenS,Array.replicate];refine wpS_of_wp ?_;clear g;go_wp2;refine⟨rfl,_,?_,_,results_none rfl _ _ _,rfl,rfl,rfl⟩;cases c₀
 simp only at hu;subst hu;rfl
theorem z29 {fn:Func} {p q:Tmp} (h:fn.results= #[.cell p 52,.cell q 33]) (tmps:Array Value) (w:World) (g g2:Nat) (cs:List Value) (n:Int) (hl:cs.length= 6)
  (hp:tmps.getD p undef= .pointer (some ⟨g,0,none⟩)) (hq:tmps.getD q undef= .pointer (some ⟨g2,0,none⟩)) (hg:Whole 52 w g cs) (hc:w.cell? ⟨g2,0,none⟩= some (.int .i64 n)):(results fn tmps).run Tryz.prog w= .ok (.tuple #[.agg ⟨cs⟩,.int .i64 n]) w:=by
 have F:tmps[p]?.getD undef= .pointer (some ⟨g,0,none⟩):=by simpa using hp
 have G:tmps[q]?.getD undef= .pointer (some ⟨g2,0,none⟩):=by simpa using hq
 have A:=run_loadVar_mid (P:=Tryz.prog) w g 0 52 cs _ hg.range Tryz.underlying52 rfl (by rw[hl];kernel_rfl);have C:(loadVar 33 ⟨g2,0,none⟩).run Tryz.prog w= .ok (.int .i64 n) w:=by simp[go_sem,loadVar,hc,Tryz.isAgg33]
 simp[results,h,F,G,asAddr,A,C]
def EvTop (r:Res) (w:World) (e:Ending) (w':World):Prop:=
 (∃ v cs,r= .ok v/\e= .returned (.tuple #[.agg ⟨cs⟩,.int .i64 0])/\Kept (fun b=>w.heap.size<=b) w' cs v/\zx v= true/\Below w.heap.size w w')\/(∃ n,r= .error n/\e= .returned (.tuple #[.agg ⟨zV6⟩,.int .i64 n])/\Below w.heap.size w w')
structure ES (w W:World) (cs:List Value):Prop where
 wx:Whole 54 W w.heap.size cs
 wv:Whole 52 W (w.heap.size+1) zV6
 we:Whole 33 W (w.heap.size+2) [.int .i64 0]
 bel:Below w.heap.size w W
theorem zcE (w:World) (cs:List Value):ES w (((w.alloc (.cells ⟨cs⟩ 54)).alloc (.cells zV6.toArray 52)).alloc (.cells #[.int .i64 0] 33)) cs:=by
 have h1:=Whole.new w cs 54;have h2:=zc w (.cells ⟨cs⟩ 54);have A:(w.alloc (.cells ⟨cs⟩ 54)).heap.size= w.heap.size+1:=by simp
 generalize w.alloc (.cells ⟨cs⟩ 54)= W1 at*;have h3:=Whole.new W1 zV6 52;have h4:=zc W1 (.cells zV6.toArray 52);have g:(W1.alloc (.cells zV6.toArray 52)).heap.size= w.heap.size+2:=by simp[A]
 rw[A] at h3;generalize W1.alloc (.cells zV6.toArray 52)= W2 at*;have h5:=Whole.new W2 [.int .i64 0] 33;have h6:=zc W2 (.cells #[.int .i64 0] 33);rw[g] at h5;exact⟨(h1.keep (h4.block _ (by omega))).keep (h6.block _ (by omega)),h3.keep (h6.block _ (by omega)),h5,(h2.trans (h4.mono (by omega))).trans (h6.mono (by omega))⟩
theorem ES.next {w W W':World} {cs:List Value} (h:ES w W cs) (hb:Below W.heap.size W W'):ES w W' cs:=
 ⟨h.wx.keep (hb.block _ h.wx.lt),h.wv.keep (hb.block _ h.wv.lt),h.we.keep (hb.block _ h.we.lt),(beT h.bel hb)⟩
theorem zcK (t:ET) (E:List VarT) (V:List VT) (cs:List Value) (va vb:Value) (w:World) (hx:ExpAt w w.heap.size cs t) (hE:SlAt w w.heap.size 11 (VarAt w w.heap.size) va E) (hV:SlAt w w.heap.size 6 (ValAt w w.heap.size) vb V) (hEl:E.length<=10000) (hVl:V.length<=10000) (htb:TabP w):
  Calls Tryz.prog 89 #[.agg ⟨cs⟩,va,vb] w (EvTop (evalT t E V) w):=by
 have c9:=I (show cs.length= 10 from KeptP.len (p:=fun _=>True) (ExpAt.cells hx fun a v hv=>zu.2 ⟨trivial,hv⟩));have HX:=I hx;have HE:=I hE;have HV:=I hV;have e4:=I hEl;have f3:=I hVl;have f1:=I htb;obtain⟨g1,VB,vc,rfl,e1⟩:=hV;obtain⟨f9,X,ec,rfl,f8⟩:=hE;have f2:=I e1;have g0:∀ (fn:Fn) (first cap:Array Value) (w:World),(Instr.makeFunc fn first cap).run Tryz.prog w= .ok (.func fn first cap) w:=fun _ _ _ _=>rfl;clear hx hEl hVl htb e1 f8 g1 f9
 go_enter_defers Tryz.func89,Tryz.ntmps89
 go_upto_region 1 with (fail);have e9:=I (zcE w cs);rw[z0v];generalize ((w.alloc (.cells ⟨cs⟩ 54)).alloc (.cells zV6.toArray 52)).alloc (.cells #[.int .i64 0] 33)= W at*;go_upto_region 3 with (fail);go_loopg [13] V.length (fun q y u=>∃ j:Nat,j+q= V.length/\y= .int .i64 j/\Below W.heap.size W u/\∀ i x,i < j->V[i]?= some x->zx x= true);case atStart=>exact⟨0,by omega,rfl,Below.refl _ _,fun i x hi=>absurd hi (Nat.not_lt_zero i)⟩
 case round=>
  obtain⟨j,hj,rfl,N,d9⟩:=hrel;have c8:=I N;have d4:=I d9;have K:=I (e9.o.next N);clear N d9;cases gk with
  |zero=>
   obtain rfl:j= V.length:=by omega
   have h2: ¬ ((V.length:Int) <(V.length:Int)):=by omega
   have a9:Hid (V.all zx= true):=I (by
    rw[List.all_eq_true];intro x hx;obtain⟨i,hi⟩:=List.mem_iff_getElem?.1 hx;exact d4.o i x (List.getElem?_eq_some_iff.1 hi).1 hi)
   have f4:=I ((HX.o.under K.o.bel).more K.o.bel.size);have b4:=I (z5R t cs wr f4.o);have d3:=I K.o.wx.range;obtain⟨bq,a0⟩:∃ bq,z0n t= bq:=⟨_,rfl⟩;have a1:=I a0;rw[a0] at b4;clear a0 g0;cases bq with
   |false=>
    have G:Hid (evalT t E V= .error 2):=I (by
     unfold evalT;rw[if_neg];intro h;rw[Bool.and_eq_true,a1.o] at h;cases h.2)
    go_wp2_with (first|((with_reducible refine za tyK54 _ rfl ?_ d3.o rfl c9.o ?_);exact wA rfl)|(go_at_call 84;refine zi b4.o ?_;intro z Y)|(go_at_call 115;refine zd (zD 2 _) ?_));have C:=I (K.o.next Y.o);refine leaves_cons (f:=114) (args:= #[.pointer (some ⟨w.heap.size+1,0,none⟩),.pointer (some ⟨w.heap.size+1+1,0,none⟩)]) (by simp) (by simp[go_sem]) ?_;refine(z3v (w.heap.size+1) (w.heap.size+1+1) 2 0 33 [] _ C.o.wv C.o.we (by omega)).mono ?_;rintro e u' a8 ⟨rfl,rfl,hq,hr,N⟩;exact⟨_,z29 rfl _ _ (w.heap.size+1) (w.heap.size+1+1) zV6 2 rfl rfl rfl hq hr,.inr ⟨2,G.o,rfl,C.o.bel.trans (N.below (B:=w.heap.size) C.o.bel.size (by omega) (by omega))⟩⟩
   |true=>
    have b0:Hid (evalT t E V= evalE E V t):=I (by unfold evalT;rw[if_pos (by rw[a9.o,a1.o];rfl)]);go_upto_region 8 with (first|((with_reducible refine za tyK54 _ rfl ?_ d3.o rfl c9.o ?_);exact wA rfl)|(go_at_call 84;refine zi b4.o ?_;intro z Y)|(go_at_call 115;refine zd (zm 2 _) ?_));have d0:=I (K.o.next Y.o);have e3:=I (zc z (.cells ⟨[.slice X E.length ec,.slice VB V.length vc]⟩ 171));have A:=I (d0.o.next e3.o);have a4:=(z4q.1 a1.o);have e6:Hid (MacAt (z.alloc (.cells ⟨[.slice X E.length ec,.slice VB V.length vc]⟩ 171)) z.heap.size (.slice X E.length ec) (.slice VB V.length vc) E V):=I
     ⟨by simp,zL z [.slice X E.length ec,.slice VB V.length vc] 171,(HE.o.below A.o.bel fun _ _ _ k=>(k.under A.o.bel).more A.o.bel.size).more A.o.bel.size,(HV.o.below A.o.bel fun _ _ _ k=>(k.under A.o.bel).more A.o.bel.size).more A.o.bel.size,e4.o,fun x hx=>List.all_eq_true.1 a9.o x hx,f1.o.next A.o.bel⟩
    have e5:=I (zaS z.heap.size (.slice X E.length ec) (.slice VB V.length vc) E V t 1 cs w.heap.size 0 (z.alloc (.cells ⟨[.slice X E.length ec,.slice VB V.length vc]⟩ 171)) a4.2 a4.1 A.o.wx.range A.o.wx.lt ((HX.o.under A.o.bel).more A.o.bel.size) e6.o);clear a4;have e8:Hid (w.heap.size+2 <(z.alloc (.cells ⟨[.slice X E.length ec,.slice VB V.length vc]⟩ 171)).heap.size):=I A.o.we.lt;go_wp2_with (go_at_call 116;fail);refine e5.o.mono ?_;rintro e z2 (⟨v,a6,hr,rfl,hk,e0,N⟩|⟨n,hr,rfl,N⟩)
    ·have F:=I (A.o.next N)
     have b2:=I (zp hk.val).1;have b3:=I (zp hk.val).2;have HK:=I hk;have e7:=I e0;have G:Hid (evalT t E V= .ok v):=I (b0.o.trans hr);clear hk e0 hr N;go_wp2_with ((with_reducible refine z0T 52 _ _ rfl rfl ?_ (w.heap.size+1) zV6 a6 F.o.wv ?_ ?_ ?_ ?_ ?_ ?_);(exact wA rfl);rw[b2.o];rfl;rfl;rfl;rw[b2.o];kernel_rfl;exact b3.o;intro Z hz N;have f5:=I hz;have a2:=I N;have c7:Whole 33 Z (w.heap.size+1+1) [.int .i64 0]:=F.o.we.keep (N.block _ F.o.we.lt (by omega) (by omega));have c0:Z.cell? ⟨w.heap.size+1+1,0,none⟩= some (.int .i64 0):=c7.cells 0 rfl;have f0:Z.frozen? ⟨w.heap.size+1+1,0,none⟩= false:=c7.thaw' 0;clear hz N c7);have f7:(Z.setCell ⟨w.heap.size+1+1,0,none⟩ (.int .i64 0)).cell? ⟨w.heap.size+1+1,0,none⟩= some (.int .i64 0):=World.cell?_setCell_same _ _ _ (by rw[c0]);have b9:∀ b,b≠w.heap.size+1+1->(Z.setCell ⟨w.heap.size+1+1,0,none⟩ (.int .i64 0)).heap[b]?= Z.heap[b]?:=fun b h=>Below.heap_setCell Z ⟨w.heap.size+1+1,0,none⟩ _ b h;have h3:(Z.setCell ⟨w.heap.size+1+1,0,none⟩ (.int .i64 0)).heap.size= Z.heap.size:=by simp[World.setCell]
     have c5:(Z.setCell ⟨w.heap.size+1+1,0,none⟩ (.int .i64 0)).os= Z.os/\(Z.setCell ⟨w.heap.size+1+1,0,none⟩ (.int .i64 0)).tape= Z.tape/\(Z.setCell ⟨w.heap.size+1+1,0,none⟩ (.int .i64 0)).output= Z.output:=⟨rfl,rfl,rfl⟩;generalize Z.setCell ⟨w.heap.size+1+1,0,none⟩ (.int .i64 0)= Z3 at*;refine leaves_cons (f:=114) (args:= #[.pointer (some ⟨w.heap.size+1,0,none⟩),.pointer (some ⟨w.heap.size+1+1,0,none⟩)]) (by simp) (by simp[go_sem]) ?_;refine(z98 (w.heap.size+1) (w.heap.size+1+1) _).mono ?_;rintro e u' a8 ⟨rfl,rfl,rfl⟩;have hZ:=a2.o.size;have h4:=F.o.bel.size;have hW:Whole 52 a8 (w.heap.size+1) a6:=f5.o.keep (b9 _ (by omega));refine⟨_,z29 rfl _ _ (w.heap.size+1) (w.heap.size+1+1) a6 0 b2.o rfl rfl hW f7,.inl ⟨v,a6,G.o,rfl,HK.o.to (fun b hp a7=> ?_) (by omega),e7.o,?_⟩⟩
     ·have h5:=e8.o
      have h6:w.heap.size+2 < b:=Nat.lt_of_lt_of_le h5 hp;exact⟨by omega,(b9 b (by omega)).trans (a2.o.block b a7 (by omega) (by omega))⟩
     ·exact⟨c5.1.trans (a2.o.os.trans F.o.bel.os),c5.2.1.trans (a2.o.tape.trans F.o.bel.tape),c5.2.2.trans (a2.o.output.trans F.o.bel.output),by omega,fun b a7=>(b9 b (by omega)).trans ((a2.o.block b (by omega) (by omega) (by omega)).trans (F.o.bel.block b a7))⟩
    ·have C:=I (A.o.next N)
     have G:Hid (evalT t E V= .error n):=I (b0.o.trans hr);clear hr N;go_wp2;refine leaves_cons (f:=114) (args:= #[.pointer (some ⟨w.heap.size+1,0,none⟩),.pointer (some ⟨w.heap.size+1+1,0,none⟩)]) (by simp) (by simp[go_sem]) ?_;refine(z3v (w.heap.size+1) (w.heap.size+1+1) n 0 33 [] _ C.o.wv C.o.we (by omega)).mono ?_;rintro e u' a8 ⟨rfl,rfl,hq,hr,N⟩;exact⟨_,z29 rfl _ _ (w.heap.size+1) (w.heap.size+1+1) zV6 n rfl rfl rfl hq hr,.inr ⟨n,G.o,rfl,C.o.bel.trans (N.below (B:=w.heap.size) C.o.bel.size (by omega) (by omega))⟩⟩
  |succ g=>
   have a7:(j:Int) <(V.length:Int):=by omega
   obtain⟨y,hy⟩:∃ y,V[j]?= some y:=⟨_,List.getElem?_eq_getElem (by omega)⟩;obtain⟨b,ob,rfl,f6,hc⟩:=f2.o (by omega);obtain⟨ks,d7,d8,c4⟩:=hc j y hy;have O:=I d7;have d1:Hid (wr.rangeAt b (ob+j*6) ks):=I (zb d8 K.o.bel f6);have d2:=I ((c4.under K.o.bel).more K.o.bel.size);have b3:=I (zp c4).2;have HY:=I hy;clear hc d7 d8 c4 hy;go_upto_region 5 with (first|((with_reducible refine za tyK52 _ rfl ?_ d1.o rfl O.o ?_);exact wA rfl)|((with_reducible refine z1v 52 _ _ rfl ?hw wr ?zn ks ?hwld ?hz ?hx ?hy ?hi ?h1 ?_);(case hwld=>rfl);(case hx=>rfl);(case hy=>rfl);(case hw=>exact wA rfl);(case hz=>exact O.o);(case hi=>rw[O.o];kernel_rfl);(case h1=>exact b3.o);intro Z d6;have b6:=I d6;clear d6));have d5:=I b6.o.range;have a5:=I b6.o.below;have b5:=I (z1s y ks Z ((d2.o.under a5.o).more a5.o.size));obtain⟨bq,a0⟩:∃ bq,(decide (cntV y 0<=200) && zw y 1)= bq:=⟨_,rfl⟩;have a1:Hid (zx y= bq):=I a0;rw[a0] at b5;clear a0 b6 d1 d2;cases bq with
   |true=>
    go_wp2_with (first|((with_reducible refine za tyK52 _ rfl ?_ d5.o rfl O.o ?_);exact wA rfl)|(go_at_call 61;refine zi b5.o ?_;intro z Y)|(go_at_call 115;refine zd (zm 2 _) ?_));go_roundg g;case measure=>omega
    case rel=>
     refine⟨j+1,by omega,by have hv:=f3.o;have hq:wrap64 ((j:Int)+1)=((j+1:Nat):Int):=by { unfold wrap64;omega };first|rw[hq]|rfl,c8.o.trans ((beT a5.o Y.o).mono c8.o.size),fun i x hi hx=> ?_⟩;by_cases hij:i= j
     ·subst hij
      have h1:=HY.o;rw[hx] at h1;injection h1 with h1;rw[h1];exact a1.o
     ·exact d4.o i x (by omega) hx
   |false=>
    have G:Hid (evalT t E V= .error 2):=I (by
     unfold evalT;rw[if_neg];intro h;rw[Bool.and_eq_true,List.all_eq_true] at h;have:=h.1 y (List.mem_of_getElem? HY.o);rw[a1.o] at this;cases this)
    go_wp2_with (first|((with_reducible refine za tyK52 _ rfl ?_ d5.o rfl O.o ?_);exact wA rfl)|(go_at_call 61;refine zi b5.o ?_;intro z Y)|(go_at_call 115;refine zd (zD 2 _) ?_));have C:=I ((K.o.next a5.o).next Y.o);refine leaves_cons (f:=114) (args:= #[.pointer (some ⟨w.heap.size+1,0,none⟩),.pointer (some ⟨w.heap.size+1+1,0,none⟩)]) (by simp) (by simp[go_sem]) ?_;refine(z3v (w.heap.size+1) (w.heap.size+1+1) 2 0 33 [] _ C.o.wv C.o.we (by omega)).mono ?_;rintro e u' a8 ⟨rfl,rfl,hq,hr,N⟩;exact⟨_,z29 rfl _ _ (w.heap.size+1) (w.heap.size+1+1) zV6 2 rfl rfl rfl hq hr,.inr ⟨2,G.o,rfl,C.o.bel.trans (N.below (B:=w.heap.size) C.o.bel.size (by omega) (by omega))⟩⟩
end
section
open Go Go.RowKit
def EvC (r:Res) (w:World) (e:Ending) (w':World):Prop:=
 ∃ cs,e= .returned (.tuple #[.agg ⟨cs⟩,.int .i64 (resV r).2])/\Kept (fun b=>w.heap.size<=b) w' cs (resV r).1/\(∀ v,r= .ok v->zx v= true)/\Below w.heap.size w w'
theorem ev_c {r:Res} {w:World} {e:Ending} {w':World} (h:EvTop r w e w'):EvC r w e w':=by
 rcases h with ⟨v,cs,rfl,rfl,h1,h2,h3⟩|⟨n,rfl,rfl,h3⟩
 ·exact⟨cs,rfl,h1,fun u hu=>by injection hu with hu;subst hu;exact h2,h3⟩
 ·exact⟨zV6,rfl,ValAt.of (zB 0 (by decide +kernel)) (zB 0 (by decide +kernel)) (by decide +kernel) (Nat.zero_le _) (SlAt.nil _ _ _ _) (Nat.zero_le _) (SlAt.nil _ _ _ _),(fun u hu=>by cases hu),h3⟩
theorem zeL (t:ET) (E:List VarT) (V:List VT) (cs:List Value) (va vb:Value) (w:World) (hx:ExpAt w w.heap.size cs t) (hE:SlAt w w.heap.size 11 (VarAt w w.heap.size) va E) (hV:SlAt w w.heap.size 6 (ValAt w w.heap.size) vb V) (hEl:E.length<=10000) (hVl:V.length<=10000) (htb:TabP w):
  Calls Tryz.prog 89 #[.agg ⟨cs⟩,va,vb] w (EvC (evalT t E V) w):=(zcK t E V cs va vb w hx hE hV hEl hVl htb).mono fun _ _ h=>ev_c h
theorem zf4 (w:World) (B:Nat):ValAt w B zV6 v0:=ValAt.of (zB 0 (by decide +kernel)) (zB 0 (by decide +kernel)) (by decide +kernel) (Nat.zero_le _) (SlAt.nil _ _ _ _) (Nat.zero_le _) (SlAt.nil _ _ _ _)
theorem z5i {fn:Func} {p u:Tmp} (h:fn.results= #[.cell p 52,.tmp u]) (tmps:Array Value) (w:World) (g:Nat) (cs:List Value) (hl:cs.length= 6) (x:Value)
  (hp:tmps.getD p undef= .pointer (some ⟨g,0,none⟩)) (hm:Whole 52 w g cs) (hu:tmps.getD u undef= x):(results fn tmps).run Tryz.prog w= .ok (.tuple #[.agg ⟨cs⟩,x]) w:=by
 have A:tmps[p]?.getD undef= .pointer (some ⟨g,0,none⟩):=by simpa using hp
 have C:tmps[u]?.getD undef= x:=by simpa using hu
 have hl:=run_loadVar_mid (P:=Tryz.prog) w g 0 52 cs _ hm.range Tryz.underlying52 rfl (by rw[hl];kernel_rfl);simp[results,h,A,C,asAddr,hl]
end
section
open Go Go.RowKit
def z0t (x:ET):VT × Bool:=if anyE x= true then(v0,false) else((resV (evalT x [] [])).1,(resV (evalT x [] [])).2 ==0)
def zaa (x:ET) (w:World) (e:Ending) (w':World):Prop:=∃ cs,e= .returned (.tuple #[.agg ⟨cs⟩,.bool (z0t x).2])/\ValAt w' w'.heap.size cs (z0t x).1/\Below w.heap.size w w'
theorem z8g (x:ET) (cx:List Value) (w:World) (htb:TabP w) (hx:ExpAt w w.heap.size cx x):Calls Tryz.prog 71 #[.agg ⟨cx⟩] w (zaa x w):=by
 have c6:=I htb;have HX:=I hx;have b8:=I (eslen hx);clear htb hx;go_enter Tryz.func71,Tryz.ntmps71;go_upto_region 1 with (fail);rw[z0v];have h1:=(Whole.new w cx 54).keep ((zc (w.alloc (.cells ⟨cx⟩ 54)) (.cells zV6.toArray 52)).block _ (by simp));have h2:=Whole.new (w.alloc (.cells ⟨cx⟩ 54)) zV6 52;rw[show(w.alloc (.cells ⟨cx⟩ 54)).heap.size= w.heap.size+1 by simp] at h2;have g:Hid (Below w.heap.size w ((w.alloc (.cells ⟨cx⟩ 54)).alloc (.cells zV6.toArray 52))):=I (((Below.refl w.heap.size w).alloc (by simp) (.cells ⟨cx⟩ 54)).alloc (by simp) (.cells zV6.toArray 52));generalize (w.alloc (.cells ⟨cx⟩ 54)).alloc (.cells zV6.toArray 52)= W at*;have Y:=I h1;have a0:=I h2;clear h1 h2;have c7:=I ((HX.o.under g.o).more g.o.size);have HS:=I (z81 x cx w.heap.size 0 W Y.o.range Y.o.lt c7.o);obtain⟨b,C⟩:∃ b,anyE x= b:=⟨_,rfl⟩;rw[C] at HS;have a7:=I C;clear C;cases b with
 |true=>
  have K:Hid (z0t x=(v0,false)):=I (by unfold z0t;rw[a7.o,if_pos rfl]);go_wp2_with (first|(go_at_call 88;refine HS.o.mono ?_;rintro e u ⟨rfl,C⟩;have O:=I C;have N:=I (a0.o.keep (C.block _ a0.o.lt));clear C)|((with_reducible refine zg 52 _ _ rfl rfl ?_ N.o (zV6) ?_ ?_ ?_ ?_ ?_ ?_);exact wA rfl;rfl;rfl;rfl;kernel_rfl;exact z02 _ _ _ _;intro Z a4 F))
  (try simp only[Exit.inBlock,Exit.then])
  refine bodyPost_ret (z5i rfl _ _ (w.heap.size+1) zV6 rfl (.bool false) rfl a4.o rfl) rfl ?_;exact⟨_,by rw[K.o],by rw[K.o];exact zf4 _ _,(beT g.o O.o).trans (F.o.below (Nat.le_trans g.o.size O.o.size) (by omega) (by omega))⟩
 |false=>
  have K:Hid (z0t x=((resV (evalT x [] [])).1,(resV (evalT x [] [])).2 ==0)):=I (by unfold z0t;rw[a7.o,if_neg (by decide)]);go_upto_region 3 with (first|(go_at_call 88;refine HS.o.mono ?_;rintro e u ⟨rfl,C⟩;have O:=I C;have N:=I (a0.o.keep (C.block _ a0.o.lt));have b6:=I (Y.o.keep (C.block _ Y.o.lt));clear C));have X:Hid (Below w.heap.size w u):=I (beT g.o O.o);have c8:=I ((HX.o.under X.o).more X.o.size);have a1:=I (zeL x [] [] cx (.slice none 0 0) (.slice none 0 0) u c8.o (SlAt.nil _ _ _ _) (SlAt.nil _ _ _ _) (by decide) (by decide) (c6.o.next X.o));obtain⟨n1,b5⟩:∃ n,(resV (evalT x [] [])).2= n:=⟨_,rfl⟩;have b2:=I b5;obtain⟨r1,a6⟩:∃ r,evalT x [] []= r:=⟨_,rfl⟩;rw[a6] at a1;have a3:=I a6;clear a6 b5;go_upto_region 4 with (first|((with_reducible refine za tyK54 _ rfl ?_ b6.o.range rfl b8.o ?_);exact wA rfl)|(go_at_call 89;refine a1.o.mono ?_;rintro e y1 ⟨a5,rfl,hk,hr,C⟩;have G:=I (zp hk.val).1;have a2:=I (zp hk.val).2;have b3:=I hk.val;have b1:=I hk;have a9:=I C;clear hk hr C)|((with_reducible refine zW tyK52 _ _ rfl ?_ y1 G.o a2.o rfl ?_ ?_ ?_ ?_);exact wA rfl;rfl;rfl;rfl;intro Z1 A));have a8:Hid (Below u.heap.size u Z1):=I (beT a9.o A.o.below);have b0:Hid (Below w.heap.size w Z1):=I (beT X.o a8.o);have b9:=I (N.o.keep (a8.o.block _ N.o.lt));have d1:Hid (ValAt y1 y1.heap.size a5 (resV r1).1):=b3;have c4:=I A.o.range;have b7:=I N.o.lt;have hN:(resV r1).2= n1:=by rw[← a3.o];exact b2.o
  rw[hN];clear hN;go_wp2_with (first|((with_reducible refine za tyK52 _ rfl ?_ c4.o rfl G.o ?_);exact wA rfl)|((with_reducible refine zg 52 _ _ rfl rfl ?_ b9.o (a5) ?_ ?_ ?_ ?_ ?_ ?_);exact wA rfl;rw[G.o];rfl;rfl;rfl;rw[G.o];kernel_rfl;exact a2.o;intro Z a4 F))
  (try simp only[Exit.inBlock,Exit.then])
  refine bodyPost_ret (z5i rfl _ _ (w.heap.size+1) a5 G.o (.bool (n1 ==0)) rfl a4.o rfl) rfl ?_;have d2:=b7.o;refine⟨_,by rw[K.o,b2.o],?_,b0.o.trans (F.o.below b0.o.size (by omega) (by omega))⟩;rw[K.o,a3.o];exact(b1.o.to (q:=fun _=>True) (fun b hp hl=>⟨trivial,(F.o.block b (Nat.lt_of_lt_of_le hl A.o.below.size) (by omega) (by omega)).trans (A.o.below.block b hl)⟩) (Nat.le_trans A.o.below.size F.o.size)).val
end
end Go.Proofs.YtdjfpcmlffekkaaGreatDoor
