/- Parts of a proof: E10E, EvC, ConstE. -/
import Derived.Test.YtpmjcbjdcjjplaaGreatDoorPackS35
set_option maxHeartbeats 8000000
set_option maxRecDepth 100000
set_option linter.unusedVariables false
set_option linter.unusedSimpArgs false
namespace Go.Proofs.YtpmjcbjdcjjplaaGreatDoor
section
open Go Go.RowKit
theorem Whole.thaw' {T:TypeId} {w:World} {b:Nat} {cs:List Value} (h:Whole T w b cs) (i:Nat):w.frozen? ⟨b,i,none⟩= false:=by
 unfold World.frozen?;have h2:w.heap[b]?= some (.cells cs.toArray T):=h;simp[h2]
theorem z4g (q r:Nat) (n m:Int) (T:TypeId) (older:List PanicEntry) (w:World) (hq:Whole 39 w q zV6) (hr:Whole T w r [.int .i64 m]) (hqr:q≠r):
  CallsD Tryz.prog 33 #[.pointer (some ⟨q,0,none⟩),.pointer (some ⟨r,0,none⟩)] (.panicking ({ v:= .iface 51 (.int .i64 n),recovered:=false }::older)) w fun e u' w'=>
   e= .returned (.tuple #[])/\u'= .panicking ({ v:= .iface 51 (.int .i64 n),recovered:=true }::older)/\Whole 39 w' q zV6/\w'.cell? ⟨r,0,none⟩= some (.int .i64 n)/\But w w' q r:=by
 have X:=I hq;have N:=I hr;have K:w.frozen? ⟨r,0,none⟩= false:=by have:=Whole.thaw' hr 0;exact this
 have G:∀ (S:TypeId) (W:World),(Instr.typeAssert (.iface 51 (.int .i64 n)) S 51 true).run Tryz.prog W= .ok (.tuple #[.int .i64 n,.bool true]) W:=fun S W=>by kernel_rfl
 refine callsD_of_wpS Tryz.func33 rfl fun c₀ cs hu=> ?_;apply wpS_seq;apply wpS_region;simp[wpOpsS,go_sem,recoverD,hu,G,Tryz.ntmps33,Exit.thenS,Array.replicate];refine wpS_of_wp ?_;clear G K hq hr hu;go_wp2_with ((with_reducible refine z0W 39 _ _ rfl rfl ?_ q zV6 zV6 X.o ?_ ?_ ?_ ?_ ?_ ?_);(exact wA rfl);rfl;rfl;rfl;kernel_rfl;exact z06 _ _ _ _;intro Z O C;have Y:=I O;have g:=I C;have A:Whole T Z r [.int .i64 m]:=N.o.keep (C.block r N.o.lt (Ne.symm hqr) (Ne.symm hqr));have c0:Z.cell? ⟨r,0,none⟩= some (.int .i64 m):=A.cells 0 rfl;have f0:Z.frozen? ⟨r,0,none⟩= false:=A.thaw' 0;clear O C A);refine⟨rfl,_,rfl,_,results_none rfl _ _ _,rfl,rfl,?_,World.cell?_setCell_same _ _ _ (by rw[c0]),?_⟩
 ·exact Y.o.keep (Below.heap_setCell Z ⟨r,0,none⟩ _ q hqr)
 ·exact⟨g.o.os,g.o.tape,g.o.output,by have:=g.o.size;simpa [World.setCell] using this,fun b C h1 h2=>(Below.heap_setCell Z ⟨r,0,none⟩ _ b h2).trans (g.o.block b C h1 h1)⟩
theorem zaE (q r:Nat) (w:World):
  CallsD Tryz.prog 33 #[.pointer (some ⟨q,0,none⟩),.pointer (some ⟨r,0,none⟩)] .returning w fun e u' w'=>e= .returned (.tuple #[])/\u'= .returning/\w'= w:=by
 have g:∀ (S:TypeId) (W:World),(Instr.typeAssert .nilIface S 51 true).run Tryz.prog W= .ok (.tuple #[.int .i64 0,.bool false]) W:=fun S W=>by kernel_rfl
 refine callsD_of_wpS Tryz.func33 rfl fun c₀ cs hu=> ?_;apply wpS_seq;apply wpS_region;simp[wpOpsS,go_sem,recoverD,hu,g,Tryz.ntmps33,Exit.thenS,Array.replicate];refine wpS_of_wp ?_;clear g;go_wp2;refine⟨rfl,_,?_,_,results_none rfl _ _ _,rfl,rfl,rfl⟩;cases c₀
 simp only at hu;subst hu;rfl
theorem z2I {fn:Func} {p q:Tmp} (h:fn.results= #[.cell p 39,.cell q 51]) (tmps:Array Value) (w:World) (g g2:Nat) (cs:List Value) (n:Int) (hl:cs.length= 6)
  (hp:tmps.getD p undef= .pointer (some ⟨g,0,none⟩)) (hq:tmps.getD q undef= .pointer (some ⟨g2,0,none⟩)) (hg:Whole 39 w g cs) (hc:w.cell? ⟨g2,0,none⟩= some (.int .i64 n)):(results fn tmps).run Tryz.prog w= .ok (.tuple #[.agg ⟨cs⟩,.int .i64 n]) w:=by
 have G:tmps[p]?.getD undef= .pointer (some ⟨g,0,none⟩):=by simpa using hp
 have K:tmps[q]?.getD undef= .pointer (some ⟨g2,0,none⟩):=by simpa using hq
 have A:=run_loadVar_mid (P:=Tryz.prog) w g 0 39 cs _ hg.range Tryz.underlying39 rfl (by rw[hl];kernel_rfl);have C:(loadVar 51 ⟨g2,0,none⟩).run Tryz.prog w= .ok (.int .i64 n) w:=by simp[go_sem,loadVar,hc,Tryz.isAgg51]
 simp[results,h,G,K,asAddr,A,C]
def EvTop (r:Res) (w:World) (e:Ending) (w':World):Prop:=
 (∃ v cs,r= .ok v/\e= .returned (.tuple #[.agg ⟨cs⟩,.int .i64 0])/\Kept (fun b=>w.heap.size<=b) w' cs v/\zB v= true/\Below w.heap.size w w')\/(∃ n,r= .error n/\e= .returned (.tuple #[.agg ⟨zV6⟩,.int .i64 n])/\Below w.heap.size w w')
structure ES (w W:World) (cs:List Value):Prop where
 wx:Whole 47 W w.heap.size cs
 wv:Whole 39 W (w.heap.size+1) zV6
 we:Whole 51 W (w.heap.size+2) [.int .i64 0]
 bel:Below w.heap.size w W
theorem zez (w:World) (cs:List Value):ES w (((w.alloc (.cells ⟨cs⟩ 47)).alloc (.cells zV6.toArray 39)).alloc (.cells #[.int .i64 0] 51)) cs:=by
 have h1:=Whole.new w cs 47;have h2:=zc w (.cells ⟨cs⟩ 47);have A:(w.alloc (.cells ⟨cs⟩ 47)).heap.size= w.heap.size+1:=by simp
 generalize w.alloc (.cells ⟨cs⟩ 47)= W1 at*;have h3:=Whole.new W1 zV6 39;have h4:=zc W1 (.cells zV6.toArray 39);have g:(W1.alloc (.cells zV6.toArray 39)).heap.size= w.heap.size+2:=by simp[A]
 rw[A] at h3;generalize W1.alloc (.cells zV6.toArray 39)= W2 at*;have h5:=Whole.new W2 [.int .i64 0] 51;have h6:=zc W2 (.cells #[.int .i64 0] 51);rw[g] at h5;exact⟨(h1.keep (h4.block _ (by omega))).keep (h6.block _ (by omega)),h3.keep (h6.block _ (by omega)),h5,(h2.trans (h4.mono (by omega))).trans (h6.mono (by omega))⟩
theorem ES.next {w W W':World} {cs:List Value} (h:ES w W cs) (hb:Below W.heap.size W W'):ES w W' cs:=
 ⟨h.wx.keep (hb.block _ h.wx.lt),h.wv.keep (hb.block _ h.wv.lt),h.we.keep (hb.block _ h.we.lt),(beT h.bel hb)⟩
theorem zeF (t:ET) (E:List VarT) (V:List VT) (cs:List Value) (va vb:Value) (w:World) (hx:ExpAt w w.heap.size cs t) (hE:SlAt w w.heap.size 11 (VarAt w w.heap.size) va E) (hV:SlAt w w.heap.size 6 (ValAt w w.heap.size) vb V) (hEl:E.length<=10000) (hVl:V.length<=10000) (htb:TabP w):
  Calls Tryz.prog 12 #[.agg ⟨cs⟩,va,vb] w (EvTop (evalT t E V) w):=by
 have d0:=I (show cs.length= 10 from KeptP.len (p:=fun _=>True) (ExpAt.cells hx fun a v hv=>zx.2 ⟨trivial,hv⟩));have HX:=I hx;have HE:=I hE;have HV:=I hV;have e5:=I hEl;have f4:=I hVl;have f2:=I htb;obtain⟨g2,VB,vc,rfl,e2⟩:=hV;obtain⟨g0,Y,ec,rfl,f9⟩:=hE;have f3:=I e2;have g1:∀ (fn:Fn) (first cap:Array Value) (w:World),(Instr.makeFunc fn first cap).run Tryz.prog w= .ok (.func fn first cap) w:=fun _ _ _ _=>rfl;clear hx hEl hVl htb e2 f9 g2 g0
 go_enter_defers Tryz.func12,Tryz.ntmps12
 go_upto_region 1 with (fail);have f1:=I (zez w cs);rw[z0A];generalize ((w.alloc (.cells ⟨cs⟩ 47)).alloc (.cells zV6.toArray 39)).alloc (.cells #[.int .i64 0] 51)= W at*;go_upto_region 3 with (fail);go_loopg [13] V.length (fun q y u=>∃ j:Nat,j+q= V.length/\y= .int .i64 j/\Below W.heap.size W u/\∀ i x,i < j->V[i]?= some x->zB x= true);case atStart=>exact⟨0,by omega,rfl,Below.refl _ _,fun i x hi=>absurd hi (Nat.not_lt_zero i)⟩
 case round=>
  obtain⟨j,hj,rfl,O,e0⟩:=hrel;have c9:=I O;have d5:=I e0;have N:=I (f1.o.next O);clear O e0;cases gk with
  |zero=>
   obtain rfl:j= V.length:=by omega
   have h3: ¬ ((V.length:Int) <(V.length:Int)):=by omega
   have b0:Hid (V.all zB= true):=I (by
    rw[List.all_eq_true];intro x hx;obtain⟨i,hi⟩:=List.mem_iff_getElem?.1 hx;exact d5.o i x (List.getElem?_eq_some_iff.1 hi).1 hi)
   have f5:=I ((HX.o.under N.o.bel).more N.o.bel.size);have b5:=I (z6S t cs wr f5.o);have d4:=I N.o.wx.range;obtain⟨bq,a1⟩:∃ bq,zZ t= bq:=⟨_,rfl⟩;have a2:=I a1;rw[a1] at b5;clear a1 g1;cases bq with
   |false=>
    have K:Hid (evalT t E V= .error 2):=I (by
     unfold evalT;rw[if_neg];intro h;rw[Bool.and_eq_true,a2.o] at h;cases h.2)
    go_wp2_with (first|((with_reducible refine za tyK47 _ rfl ?_ d4.o rfl d0.o ?_);exact wA rfl)|(go_at_call 36;refine zg b5.o ?_;intro z a0)|(go_at_call 34;refine ze (zJ 2 _) ?_));have C:=I (N.o.next a0.o);refine leaves_cons (f:=33) (args:= #[.pointer (some ⟨w.heap.size+1,0,none⟩),.pointer (some ⟨w.heap.size+1+1,0,none⟩)]) (by simp) (by simp[go_sem]) ?_;refine(z4g (w.heap.size+1) (w.heap.size+1+1) 2 0 51 [] _ C.o.wv C.o.we (by omega)).mono ?_;rintro e u' a9 ⟨rfl,rfl,hq,hr,O⟩;exact⟨_,z2I rfl _ _ (w.heap.size+1) (w.heap.size+1+1) zV6 2 rfl rfl rfl hq hr,.inr ⟨2,K.o,rfl,C.o.bel.trans (O.below (B:=w.heap.size) C.o.bel.size (by omega) (by omega))⟩⟩
   |true=>
    have b1:Hid (evalT t E V= evalE E V t):=I (by unfold evalT;rw[if_pos (by rw[b0.o,a2.o];rfl)]);go_upto_region 8 with (first|((with_reducible refine za tyK47 _ rfl ?_ d4.o rfl d0.o ?_);exact wA rfl)|(go_at_call 36;refine zg b5.o ?_;intro z a0)|(go_at_call 34;refine ze (zt 2 _) ?_));have d1:=I (N.o.next a0.o);have e4:=I (zc z (.cells ⟨[.slice Y E.length ec,.slice VB V.length vc]⟩ 88));have A:=I (d1.o.next e4.o);have a5:=(z3l.1 a2.o);have e7:Hid (MacAt (z.alloc (.cells ⟨[.slice Y E.length ec,.slice VB V.length vc]⟩ 88)) z.heap.size (.slice Y E.length ec) (.slice VB V.length vc) E V):=I
     ⟨by simp,zv z [.slice Y E.length ec,.slice VB V.length vc] 88,(HE.o.below A.o.bel fun _ _ _ k=>(k.under A.o.bel).more A.o.bel.size).more A.o.bel.size,(HV.o.below A.o.bel fun _ _ _ k=>(k.under A.o.bel).more A.o.bel.size).more A.o.bel.size,e5.o,fun x hx=>List.all_eq_true.1 b0.o x hx,f2.o.next A.o.bel⟩
    have e6:=I (zcy z.heap.size (.slice Y E.length ec) (.slice VB V.length vc) E V t 1 cs w.heap.size 0 (z.alloc (.cells ⟨[.slice Y E.length ec,.slice VB V.length vc]⟩ 88)) a5.2 a5.1 A.o.wx.range A.o.wx.lt ((HX.o.under A.o.bel).more A.o.bel.size) e7.o);clear a5;have e9:Hid (w.heap.size+2 <(z.alloc (.cells ⟨[.slice Y E.length ec,.slice VB V.length vc]⟩ 88)).heap.size):=I A.o.we.lt;go_wp2_with (go_at_call 37;fail);refine e6.o.mono ?_;rintro e z2 (⟨v,a7,hr,rfl,hk,e1,O⟩|⟨n,hr,rfl,O⟩)
    ·have G:=I (A.o.next O)
     have b3:=I (zm hk.val).1;have b4:=I (zm hk.val).2;have HK:=I hk;have e8:=I e1;have K:Hid (evalT t E V= .ok v):=I (b1.o.trans hr);clear hk e1 hr O;go_wp2_with ((with_reducible refine z0W 39 _ _ rfl rfl ?_ (w.heap.size+1) zV6 a7 G.o.wv ?_ ?_ ?_ ?_ ?_ ?_);(exact wA rfl);rw[b3.o];rfl;rfl;rfl;rw[b3.o];kernel_rfl;exact b4.o;intro Z hz O;have f6:=I hz;have a3:=I O;have c8:Whole 51 Z (w.heap.size+1+1) [.int .i64 0]:=G.o.we.keep (O.block _ G.o.we.lt (by omega) (by omega));have c0:Z.cell? ⟨w.heap.size+1+1,0,none⟩= some (.int .i64 0):=c8.cells 0 rfl;have f0:Z.frozen? ⟨w.heap.size+1+1,0,none⟩= false:=c8.thaw' 0;clear hz O c8);have f8:(Z.setCell ⟨w.heap.size+1+1,0,none⟩ (.int .i64 0)).cell? ⟨w.heap.size+1+1,0,none⟩= some (.int .i64 0):=World.cell?_setCell_same _ _ _ (by rw[c0]);have c4:∀ b,b≠w.heap.size+1+1->(Z.setCell ⟨w.heap.size+1+1,0,none⟩ (.int .i64 0)).heap[b]?= Z.heap[b]?:=fun b h=>Below.heap_setCell Z ⟨w.heap.size+1+1,0,none⟩ _ b h;have h7:(Z.setCell ⟨w.heap.size+1+1,0,none⟩ (.int .i64 0)).heap.size= Z.heap.size:=by simp[World.setCell]
     have c6:(Z.setCell ⟨w.heap.size+1+1,0,none⟩ (.int .i64 0)).os= Z.os/\(Z.setCell ⟨w.heap.size+1+1,0,none⟩ (.int .i64 0)).tape= Z.tape/\(Z.setCell ⟨w.heap.size+1+1,0,none⟩ (.int .i64 0)).output= Z.output:=⟨rfl,rfl,rfl⟩;generalize Z.setCell ⟨w.heap.size+1+1,0,none⟩ (.int .i64 0)= Z3 at*;refine leaves_cons (f:=33) (args:= #[.pointer (some ⟨w.heap.size+1,0,none⟩),.pointer (some ⟨w.heap.size+1+1,0,none⟩)]) (by simp) (by simp[go_sem]) ?_;refine(zaE (w.heap.size+1) (w.heap.size+1+1) _).mono ?_;rintro e u' a9 ⟨rfl,rfl,rfl⟩;have hZ:=a3.o.size;have h4:=G.o.bel.size;have hW:Whole 39 a9 (w.heap.size+1) a7:=f6.o.keep (c4 _ (by omega));refine⟨_,z2I rfl _ _ (w.heap.size+1) (w.heap.size+1+1) a7 0 b3.o rfl rfl hW f8,.inl ⟨v,a7,K.o,rfl,HK.o.to (fun b hp a8=> ?_) (by omega),e8.o,?_⟩⟩
     ·have h5:=e9.o
      have h6:w.heap.size+2 < b:=Nat.lt_of_lt_of_le h5 hp;exact⟨by omega,(c4 b (by omega)).trans (a3.o.block b a8 (by omega) (by omega))⟩
     ·exact⟨c6.1.trans (a3.o.os.trans G.o.bel.os),c6.2.1.trans (a3.o.tape.trans G.o.bel.tape),c6.2.2.trans (a3.o.output.trans G.o.bel.output),by omega,fun b a8=>(c4 b (by omega)).trans ((a3.o.block b (by omega) (by omega) (by omega)).trans (G.o.bel.block b a8))⟩
    ·have C:=I (A.o.next O)
     have K:Hid (evalT t E V= .error n):=I (b1.o.trans hr);clear hr O;go_wp2;refine leaves_cons (f:=33) (args:= #[.pointer (some ⟨w.heap.size+1,0,none⟩),.pointer (some ⟨w.heap.size+1+1,0,none⟩)]) (by simp) (by simp[go_sem]) ?_;refine(z4g (w.heap.size+1) (w.heap.size+1+1) n 0 51 [] _ C.o.wv C.o.we (by omega)).mono ?_;rintro e u' a9 ⟨rfl,rfl,hq,hr,O⟩;exact⟨_,z2I rfl _ _ (w.heap.size+1) (w.heap.size+1+1) zV6 n rfl rfl rfl hq hr,.inr ⟨n,K.o,rfl,C.o.bel.trans (O.below (B:=w.heap.size) C.o.bel.size (by omega) (by omega))⟩⟩
  |succ g=>
   have a8:(j:Int) <(V.length:Int):=by omega
   obtain⟨y,hy⟩:∃ y,V[j]?= some y:=⟨_,List.getElem?_eq_getElem (by omega)⟩;obtain⟨b,ob,rfl,f7,hc⟩:=f3.o (by omega);obtain⟨ks,d8,d9,c5⟩:=hc j y hy;have X:=I d8;have d2:Hid (wr.rangeAt b (ob+j*6) ks):=I (zb d9 N.o.bel f7);have d3:=I ((c5.under N.o.bel).more N.o.bel.size);have b4:=I (zm c5).2;have HY:=I hy;clear hc d8 d9 c5 hy;go_upto_region 5 with (first|((with_reducible refine za tyK39 _ rfl ?_ d2.o rfl X.o ?_);exact wA rfl)|((with_reducible refine z1f 39 _ _ rfl ?hw wr ?zn ks ?hwld ?hz ?hx ?hy ?hi ?h1 ?_);(case hwld=>rfl);(case hx=>rfl);(case hy=>rfl);(case hw=>exact wA rfl);(case hz=>exact X.o);(case hi=>rw[X.o];kernel_rfl);(case h1=>exact b4.o);intro Z d7;have b7:=I d7;clear d7));have d6:=I b7.o.range;have a6:=I b7.o.below;have b6:=I (z1T y ks Z ((d3.o.under a6.o).more a6.o.size));obtain⟨bq,a1⟩:∃ bq,(decide (cntV y 0<=200) && zr y 1)= bq:=⟨_,rfl⟩;have a2:Hid (zB y= bq):=I a1;rw[a1] at b6;clear a1 b7 d2 d3;cases bq with
   |true=>
    go_wp2_with (first|((with_reducible refine za tyK39 _ rfl ?_ d6.o rfl X.o ?_);exact wA rfl)|(go_at_call 35;refine zg b6.o ?_;intro z a0)|(go_at_call 34;refine ze (zt 2 _) ?_));go_roundg g;case measure=>omega
    case rel=>
     refine⟨j+1,by omega,by have hv:=f4.o;have hq:wrap64 ((j:Int)+1)=((j+1:Nat):Int):=by { unfold wrap64;omega };first|rw[hq]|rfl,c9.o.trans ((beT a6.o a0.o).mono c9.o.size),fun i x hi hx=> ?_⟩;by_cases hij:i= j
     ·subst hij
      have h1:=HY.o;rw[hx] at h1;injection h1 with h1;rw[h1];exact a2.o
     ·exact d5.o i x (by omega) hx
   |false=>
    have K:Hid (evalT t E V= .error 2):=I (by
     unfold evalT;rw[if_neg];intro h;rw[Bool.and_eq_true,List.all_eq_true] at h;have:=h.1 y (List.mem_of_getElem? HY.o);rw[a2.o] at this;cases this)
    go_wp2_with (first|((with_reducible refine za tyK39 _ rfl ?_ d6.o rfl X.o ?_);exact wA rfl)|(go_at_call 35;refine zg b6.o ?_;intro z a0)|(go_at_call 34;refine ze (zJ 2 _) ?_));have C:=I ((N.o.next a6.o).next a0.o);refine leaves_cons (f:=33) (args:= #[.pointer (some ⟨w.heap.size+1,0,none⟩),.pointer (some ⟨w.heap.size+1+1,0,none⟩)]) (by simp) (by simp[go_sem]) ?_;refine(z4g (w.heap.size+1) (w.heap.size+1+1) 2 0 51 [] _ C.o.wv C.o.we (by omega)).mono ?_;rintro e u' a9 ⟨rfl,rfl,hq,hr,O⟩;exact⟨_,z2I rfl _ _ (w.heap.size+1) (w.heap.size+1+1) zV6 2 rfl rfl rfl hq hr,.inr ⟨2,K.o,rfl,C.o.bel.trans (O.below (B:=w.heap.size) C.o.bel.size (by omega) (by omega))⟩⟩
end
section
open Go Go.RowKit
def EvC (r:Res) (w:World) (e:Ending) (w':World):Prop:=
 ∃ cs,e= .returned (.tuple #[.agg ⟨cs⟩,.int .i64 (resV r).2])/\Kept (fun b=>w.heap.size<=b) w' cs (resV r).1/\(∀ v,r= .ok v->zB v= true)/\Below w.heap.size w w'
theorem ev_c {r:Res} {w:World} {e:Ending} {w':World} (h:EvTop r w e w'):EvC r w e w':=by
 rcases h with ⟨v,cs,rfl,rfl,h1,h2,h3⟩|⟨n,rfl,rfl,h3⟩
 ·exact⟨cs,rfl,h1,fun u hu=>by injection hu with hu;subst hu;exact h2,h3⟩
 ·exact⟨zV6,rfl,ValAt.of (zH 0 (by decide +kernel)) (zH 0 (by decide +kernel)) (by decide +kernel) (Nat.zero_le _) (SlAt.nil _ _ _ _) (Nat.zero_le _) (SlAt.nil _ _ _ _),(fun u hu=>by cases hu),h3⟩
theorem zcb (t:ET) (E:List VarT) (V:List VT) (cs:List Value) (va vb:Value) (w:World) (hx:ExpAt w w.heap.size cs t) (hE:SlAt w w.heap.size 11 (VarAt w w.heap.size) va E) (hV:SlAt w w.heap.size 6 (ValAt w w.heap.size) vb V) (hEl:E.length<=10000) (hVl:V.length<=10000) (htb:TabP w):
  Calls Tryz.prog 12 #[.agg ⟨cs⟩,va,vb] w (EvC (evalT t E V) w):=(zeF t E V cs va vb w hx hE hV hEl hVl htb).mono fun _ _ h=>ev_c h
theorem zhe (w:World) (B:Nat):ValAt w B zV6 v0:=ValAt.of (zH 0 (by decide +kernel)) (zH 0 (by decide +kernel)) (by decide +kernel) (Nat.zero_le _) (SlAt.nil _ _ _ _) (Nat.zero_le _) (SlAt.nil _ _ _ _)
theorem z6f {fn:Func} {p u:Tmp} (h:fn.results= #[.cell p 39,.tmp u]) (tmps:Array Value) (w:World) (g:Nat) (cs:List Value) (hl:cs.length= 6) (x:Value)
  (hp:tmps.getD p undef= .pointer (some ⟨g,0,none⟩)) (hm:Whole 39 w g cs) (hu:tmps.getD u undef= x):(results fn tmps).run Tryz.prog w= .ok (.tuple #[.agg ⟨cs⟩,x]) w:=by
 have A:tmps[p]?.getD undef= .pointer (some ⟨g,0,none⟩):=by simpa using hp
 have C:tmps[u]?.getD undef= x:=by simpa using hu
 have hl:=run_loadVar_mid (P:=Tryz.prog) w g 0 39 cs _ hm.range Tryz.underlying39 rfl (by rw[hl];kernel_rfl);simp[results,h,A,C,asAddr,hl]
end
section
open Go Go.RowKit
def z02 (x:ET):VT × Bool:=if anyE x= true then(v0,false) else((resV (evalT x [] [])).1,(resV (evalT x [] [])).2 ==0)
theorem zaM {x:ET} {E:List VarT} (h:anyE x= false):evalT x E []= evalT x [] []:=by
 unfold evalT;split
 ·exact z7h x h
 ·rfl
theorem z9F {x:ET} (h:zZ x= false) (E:List VarT):evalT x E []= .error 2:=by
 unfold evalT;rw[h];rfl
theorem zfg {r:Res} (h: ¬ (resV r).2= 0):(resV r).1= v0:=by
 cases r with
 |error e=>rfl
 |ok v=>exact absurd rfl h
theorem zc4 (x:ET) (E:List VarT):(zZ x= false/\(z02 x).2= false/\(z02 x).1= v0)\/(zZ x= true/\anyE x= true/\(z02 x).2= false/\(z02 x).1= v0)
  \/(zZ x= true/\anyE x= false/\(resV (evalT x E [])).2= 0/\(z02 x).2= true/\(z02 x).1=(resV (evalT x E [])).1)
  \/(zZ x= true/\anyE x= false/\¬ (resV (evalT x E [])).2= 0/\(z02 x).2= false/\(z02 x).1= v0):=by
 unfold z02;cases ha:anyE x with
 |true=>
  rw[if_pos rfl];cases hr:zZ x with
  |true=>exact .inr (.inl ⟨rfl,rfl,rfl,rfl⟩)
  |false=>exact .inl ⟨rfl,rfl,rfl⟩
 |false=>
  rw[if_neg (by decide),zaM (E:=E) ha];cases hr:zZ x with
  |false=>
   rw[z9F hr []];exact .inl ⟨rfl,rfl,rfl⟩
  |true=>
   by_cases h0:(resV (evalT x [] [])).2= 0
   ·exact .inr (.inr (.inl ⟨rfl,rfl,h0,by rw[h0];rfl,rfl⟩))
   ·exact .inr (.inr (.inr ⟨rfl,rfl,h0,by simpa using h0,zfg h0⟩))
def zbP (x:ET) (w:World) (e:Ending) (w':World):Prop:=∃ cs,e= .returned (.tuple #[.agg ⟨cs⟩,.bool (z02 x).2])/\ValAt w' w'.heap.size cs (z02 x).1/\Below w.heap.size w w'
theorem z9E (x:ET) (cx:List Value) (w:World) (htb:TabP w) (hx:ExpAt w w.heap.size cx x):Calls Tryz.prog 101 #[.agg ⟨cx⟩] w (zbP x w):=by
 have c7:=I htb;have HX:=I hx;have b9:=I (eslen hx);clear htb hx;go_enter Tryz.func101,Tryz.ntmps101;go_upto_region 1 with (fail);rw[z0A];have h1:=(Whole.new w cx 47).keep ((zc (w.alloc (.cells ⟨cx⟩ 47)) (.cells zV6.toArray 39)).block _ (by simp));have h2:=Whole.new (w.alloc (.cells ⟨cx⟩ 47)) zV6 39;rw[show(w.alloc (.cells ⟨cx⟩ 47)).heap.size= w.heap.size+1 by simp] at h2;have g:Hid (Below w.heap.size w ((w.alloc (.cells ⟨cx⟩ 47)).alloc (.cells zV6.toArray 39))):=I (((Below.refl w.heap.size w).alloc (by simp) (.cells ⟨cx⟩ 47)).alloc (by simp) (.cells zV6.toArray 39));generalize (w.alloc (.cells ⟨cx⟩ 47)).alloc (.cells zV6.toArray 39)= W at*;have a0:=I h1;have a1:=I h2;clear h1 h2;have c8:=I ((HX.o.under g.o).more g.o.size);have HS:=I (z9i x cx w.heap.size 0 W a0.o.range a0.o.lt c8.o);obtain⟨b,C⟩:∃ b,anyE x= b:=⟨_,rfl⟩;rw[C] at HS;have a8:=I C;clear C;cases b with
 |true=>
  have N:Hid (z02 x=(v0,false)):=I (by unfold z02;rw[a8.o,if_pos rfl]);go_wp2_with (first|(go_at_call 141;refine HS.o.mono ?_;rintro e u ⟨rfl,C⟩;have X:=I C;have O:=I (a1.o.keep (C.block _ a1.o.lt));clear C)|((with_reducible refine zi 39 _ _ rfl rfl ?_ O.o (zV6) ?_ ?_ ?_ ?_ ?_ ?_);exact wA rfl;rfl;rfl;rfl;kernel_rfl;exact z06 _ _ _ _;intro Z a5 G))
  (try simp only[Exit.inBlock,Exit.then])
  refine bodyPost_ret (z6f rfl _ _ (w.heap.size+1) zV6 rfl (.bool false) rfl a5.o rfl) rfl ?_;exact⟨_,by rw[N.o],by rw[N.o];exact zhe _ _,(beT g.o X.o).trans (G.o.below (Nat.le_trans g.o.size X.o.size) (by omega) (by omega))⟩
 |false=>
  have N:Hid (z02 x=((resV (evalT x [] [])).1,(resV (evalT x [] [])).2 ==0)):=I (by unfold z02;rw[a8.o,if_neg (by decide)]);go_upto_region 3 with (first|(go_at_call 141;refine HS.o.mono ?_;rintro e u ⟨rfl,C⟩;have X:=I C;have O:=I (a1.o.keep (C.block _ a1.o.lt));have b7:=I (a0.o.keep (C.block _ a0.o.lt));clear C));have Y:Hid (Below w.heap.size w u):=I (beT g.o X.o);have c9:=I ((HX.o.under Y.o).more Y.o.size);have a2:=I (zcb x [] [] cx (.slice none 0 0) (.slice none 0 0) u c9.o (SlAt.nil _ _ _ _) (SlAt.nil _ _ _ _) (by decide) (by decide) (c7.o.next Y.o));obtain⟨n1,b6⟩:∃ n,(resV (evalT x [] [])).2= n:=⟨_,rfl⟩;have b3:=I b6;obtain⟨r1,a7⟩:∃ r,evalT x [] []= r:=⟨_,rfl⟩;rw[a7] at a2;have a4:=I a7;clear a7 b6;go_upto_region 4 with (first|((with_reducible refine za tyK47 _ rfl ?_ b7.o.range rfl b9.o ?_);exact wA rfl)|(go_at_call 12;refine a2.o.mono ?_;rintro e y1 ⟨a6,rfl,hk,hr,C⟩;have K:=I (zm hk.val).1;have a3:=I (zm hk.val).2;have b4:=I hk.val;have b2:=I hk;have b0:=I C;clear hk hr C)|((with_reducible refine zN tyK39 _ _ rfl ?_ y1 K.o a3.o rfl ?_ ?_ ?_ ?_);exact wA rfl;rfl;rfl;rfl;intro Z1 A));have a9:Hid (Below u.heap.size u Z1):=I (beT b0.o A.o.below);have b1:Hid (Below w.heap.size w Z1):=I (beT Y.o a9.o);have c4:=I (O.o.keep (a9.o.block _ O.o.lt));have d2:Hid (ValAt y1 y1.heap.size a6 (resV r1).1):=b4;have c5:=I A.o.range;have b8:=I O.o.lt;have hN:(resV r1).2= n1:=by rw[← a4.o];exact b3.o
  rw[hN];clear hN;go_wp2_with (first|((with_reducible refine za tyK39 _ rfl ?_ c5.o rfl K.o ?_);exact wA rfl)|((with_reducible refine zi 39 _ _ rfl rfl ?_ c4.o (a6) ?_ ?_ ?_ ?_ ?_ ?_);exact wA rfl;rw[K.o];rfl;rfl;rfl;rw[K.o];kernel_rfl;exact a3.o;intro Z a5 G))
  (try simp only[Exit.inBlock,Exit.then])
  refine bodyPost_ret (z6f rfl _ _ (w.heap.size+1) a6 K.o (.bool (n1 ==0)) rfl a5.o rfl) rfl ?_;have d3:=b8.o;refine⟨_,by rw[N.o,b3.o],?_,b1.o.trans (G.o.below b1.o.size (by omega) (by omega))⟩;rw[N.o,a4.o];exact(b2.o.to (q:=fun _=>True) (fun b hp hl=>⟨trivial,(G.o.block b (Nat.lt_of_lt_of_le hl A.o.below.size) (by omega) (by omega)).trans (A.o.below.block b hl)⟩) (Nat.le_trans A.o.below.size G.o.size)).val
end
end Go.Proofs.YtpmjcbjdcjjplaaGreatDoor
