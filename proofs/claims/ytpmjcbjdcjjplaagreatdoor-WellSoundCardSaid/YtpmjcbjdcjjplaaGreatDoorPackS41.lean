/- Parts of a proof: WellT, Aw14P, TTop, WSndP, WSndI. -/
import Derived.Test.YtpmjcbjdcjjplaaGreatDoorPackS36
import Derived.Test.YtpmjcbjdcjjplaaGreatDoorPackS37
import Derived.Test.YtpmjcbjdcjjplaaGreatDoorPackS40
set_option maxHeartbeats 8000000
set_option maxRecDepth 100000
set_option linter.unusedVariables false
set_option linter.unusedSimpArgs false
namespace Go.Proofs.YtpmjcbjdcjjplaaGreatDoor
section
open Go Go.RowKit P
def isT (a b:TT):Bool:=(typeT a && typeT b) && match joinT a b with
 |some t=>sameT t b
 |none=>false
def mayE (E:List VarT) (x:ET):Bool:=E.all (fun v=>typeT v.type) && zZ x
def chkE (E:List VarT) (x:ET):Option TT:=if mayE E x= true then(match z0a E x with| .ok t=>some t| .error _=>none) else none
def isE (E:List VarT) (x:ET) (t:TT):Bool:=match chkE E x with
 |some u=>isT u t
 |none=>false
section
variable (m:ModelT) (x:NodeT)
def ownW (x:NodeT):TT:=if 0<=x.var then(match m.vars[x.var.toNat]? with|some v=>v.type|none=>pT 0) else pT 0
def keyW (x:NodeT):TT:=if 0<=x.msg then(match m.msgs[x.msg.toNat]? with|some v=>v.key|none=>pT 0) else pT 0
def bodyW (x:NodeT):TT:=if 0<=x.msg then(match m.msgs[x.msg.toNat]? with|some v=>v.body|none=>pT 0) else pT 0
def kindB (x:NodeT):Bool:=
 if x.kind= 3 then isE m.vars x.expr (ownW m x)
 else if x.kind= 9\/x.kind= 11 then isE m.vars x.expr (keyW m x) && isT (bodyW m x) (ownW m x)
 else if x.kind= 10 then isE m.vars x.expr (keyW m x) && isE m.vars x.body (bodyW m x)
 else if x.kind= 12 then isE m.vars x.expr (ownW m x) && ((z02 x.body).2 && fitT (z02 x.body).1 (ownW m x))
 else true
def zP (x:NodeT):Bool:=x.conds.all (fun c=>isE m.vars c (pT 1)) && kindB m x
end
theorem zdb {n:Nat} {R:Rel} {m:ModelT} {x:NodeT} (h:z0K n R m x= true):(0<=x.var->x.var < m.vars.length)/\(0<=x.msg->x.msg < m.msgs.length):=by
 unfold z0K at h;split at h
 ·cases h
 ·simp only[Bool.and_eq_true] at h
  have h1:=h.2.2.2.2.2.2.1;have h2:=h.2.2.2.2.2.2.2;unfold numB at h1 h2;constructor
  ·intro h0
   split at h1
   ·simp only[Bool.and_eq_true,decide_eq_true_eq] at h1;exact h1.2
   ·simp only[beq_iff_eq] at h1;omega
  ·intro h0
   split at h2
   ·simp only[Bool.and_eq_true,decide_eq_true_eq] at h2;exact h2.2
   ·simp only[beq_iff_eq] at h2;omega
end
section
open Go Go.RowKit P
def nd14 (k:Int) (nx:List Int):NodeT:=⟨k,0,nx,[],ez,ez, -1, -1, -1,0,0⟩
def m14 (l:List NodeT):ModelT:=⟨1,[],[],[],[],l⟩
theorem zgE:wellM (m14 [nd14 1 [1],nd14 2 []]) (zP (m14 [nd14 1 [1],nd14 2 []]))=[]:=by decide +kernel
theorem zgF:wellM (m14 [nd14 1 [0],nd14 2 []]) (zP (m14 [nd14 1 [0],nd14 2 []]))=[(5,0)]:=by decide +kernel
theorem zgG:wellM (m14 [nd14 2 []]) (zP (m14 [nd14 2 []]))=[(7, -1)]:=by decide +kernel
theorem zck:z0p (pT 2)= true:=by decide +kernel
theorem zcl:z0p (pT 7)= false:=by decide +kernel
end
section
open Go Go.RowKit
theorem z1s (q r:Nat) (n m:Int) (T:TypeId) (older:List PanicEntry) (w:World) (hq:Whole 36 w q zT3) (hr:Whole T w r [.int .i64 m]) (hqr:q≠r):
  CallsD Tryz.prog 175 #[.pointer (some ⟨q,0,none⟩),.pointer (some ⟨r,0,none⟩)] (.panicking ({ v:= .iface 51 (.int .i64 n),recovered:=false }::older)) w fun e u' w'=>
   e= .returned (.tuple #[])/\u'= .panicking ({ v:= .iface 51 (.int .i64 n),recovered:=true }::older)/\Whole 36 w' q zT3/\w'.cell? ⟨r,0,none⟩= some (.int .i64 n)/\But w w' q r:=by
 have X:=I hq;have N:=I hr;have K:w.frozen? ⟨r,0,none⟩= false:=by have:=Whole.thaw' hr 0;exact this
 have G:∀ (S:TypeId) (W:World),(Instr.typeAssert (.iface 51 (.int .i64 n)) S 51 true).run Tryz.prog W= .ok (.tuple #[.int .i64 n,.bool true]) W:=fun S W=>by kernel_rfl
 refine callsD_of_wpS Tryz.func175 rfl fun c₀ cs hu=> ?_;apply wpS_seq;apply wpS_region;simp[wpOpsS,go_sem,recoverD,hu,G,Tryz.ntmps175,Exit.thenS,Array.replicate];refine wpS_of_wp ?_;clear G K hq hr hu;go_wp2_with ((with_reducible refine z0W 36 _ _ rfl rfl ?_ q zT3 zT3 X.o ?_ ?_ ?_ ?_ ?_ ?_);(exact wA rfl);rfl;rfl;rfl;kernel_rfl;exact zM _ _ _ _ _ _ _;intro Z O C;have Y:=I O;have g:=I C;have A:Whole T Z r [.int .i64 m]:=N.o.keep (C.block r N.o.lt (Ne.symm hqr) (Ne.symm hqr));have c0:Z.cell? ⟨r,0,none⟩= some (.int .i64 m):=A.cells 0 rfl;have f0:Z.frozen? ⟨r,0,none⟩= false:=A.thaw' 0;clear O C A);refine⟨rfl,_,rfl,_,results_none rfl _ _ _,rfl,rfl,?_,World.cell?_setCell_same _ _ _ (by rw[c0]),?_⟩
 ·exact Y.o.keep (Below.heap_setCell Z ⟨r,0,none⟩ _ q hqr)
 ·exact⟨g.o.os,g.o.tape,g.o.output,by have:=g.o.size;simpa [World.setCell] using this,fun b C h1 h2=>(Below.heap_setCell Z ⟨r,0,none⟩ _ b h2).trans (g.o.block b C h1 h1)⟩
theorem z5m (q r:Nat) (w:World):
  CallsD Tryz.prog 175 #[.pointer (some ⟨q,0,none⟩),.pointer (some ⟨r,0,none⟩)] .returning w fun e u' w'=>e= .returned (.tuple #[])/\u'= .returning/\w'= w:=by
 have g:∀ (S:TypeId) (W:World),(Instr.typeAssert .nilIface S 51 true).run Tryz.prog W= .ok (.tuple #[.int .i64 0,.bool false]) W:=fun S W=>by kernel_rfl
 refine callsD_of_wpS Tryz.func175 rfl fun c₀ cs hu=> ?_;apply wpS_seq;apply wpS_region;simp[wpOpsS,go_sem,recoverD,hu,g,Tryz.ntmps175,Exit.thenS,Array.replicate];refine wpS_of_wp ?_;clear g;go_wp2;refine⟨rfl,_,?_,_,results_none rfl _ _ _,rfl,rfl,rfl⟩;cases c₀
 simp only at hu;subst hu;rfl
theorem z0T {fn:Func} {p q:Tmp} (h:fn.results= #[.cell p 36,.cell q 51]) (tmps:Array Value) (w:World) (g g2:Nat) (cs:List Value) (n:Int) (hl:cs.length= 3)
  (hp:tmps.getD p undef= .pointer (some ⟨g,0,none⟩)) (hq:tmps.getD q undef= .pointer (some ⟨g2,0,none⟩)) (hg:Whole 36 w g cs) (hc:w.cell? ⟨g2,0,none⟩= some (.int .i64 n)):(results fn tmps).run Tryz.prog w= .ok (.tuple #[.agg ⟨cs⟩,.int .i64 n]) w:=by
 have G:tmps[p]?.getD undef= .pointer (some ⟨g,0,none⟩):=by simpa using hp
 have K:tmps[q]?.getD undef= .pointer (some ⟨g2,0,none⟩):=by simpa using hq
 have A:=run_loadVar_mid (P:=Tryz.prog) w g 0 36 cs _ hg.range Tryz.underlying36 rfl (by rw[hl];kernel_rfl);have C:(loadVar 51 ⟨g2,0,none⟩).run Tryz.prog w= .ok (.int .i64 n) w:=by simp[go_sem,loadVar,hc,Tryz.isAgg51]
 simp[results,h,G,K,asAddr,A,C]
def TopT (r:Option TT) (w:World) (e:Ending) (w':World):Prop:=
 (∃ t cs,r= some t/\e= .returned (.tuple #[.agg ⟨cs⟩,.int .i64 0])/\TypAt w' w'.heap.size cs t/\Below w.heap.size w w')\/(∃ n,r= none/\n≠0/\e= .returned (.tuple #[.agg ⟨zT3⟩,.int .i64 n])/\Below w.heap.size w w')
structure TS (w W:World) (q r:Nat):Prop where
 wt:Whole 36 W q zT3
 we:Whole 51 W r [.int .i64 0]
 bel:Below w.heap.size w W
 qlo:w.heap.size<=q
 rlo:w.heap.size<=r
 ne:q≠r
theorem TS.next {w W W':World} {q r:Nat} (h:TS w W q r) (hb:Below W.heap.size W W'):TS w W' q r:=
 ⟨h.wt.keep (hb.block _ h.wt.lt),h.we.keep (hb.block _ h.we.lt),(beT h.bel hb),h.qlo,h.rlo,h.ne⟩
theorem KeptT.low {w y:World} {cs:List Value} {t:TT} (h:TypAt w w.heap.size cs t) (hb:Below w.heap.size w y):KeptT (fun b=>b < w.heap.size) y cs t:=TypAt.cells (h.more hb.size) fun a v hv=>by
 have hlt:a.block < w.heap.size:=by
  rcases Nat.lt_or_ge a.block w.heap.size with h|h
  ·exact h
  ·unfold World.cell? at hv;rw[Array.getElem?_eq_none h] at hv;cases hv
 exact zx.2 ⟨hlt,(World.cell?_of_block (hb.block _ hlt)).trans hv⟩
def joinW (a b:TT):Option TT:=if(typeT a && typeT b)= true then joinT a b else none
theorem zeU (a b:TT):isT a b= match joinW a b with|some t=>sameT t b|none=>false:=by
 unfold isT joinW;cases typeT a && typeT b
 ·rfl
 ·rw[if_pos rfl,Bool.true_and]
  all_goals cases joinT a b<;>rfl
theorem zdK (a b:TT) (ca cb:List Value) (w:World) (ha:TypAt w w.heap.size ca a) (hb:TypAt w w.heap.size cb b):Calls Tryz.prog 139 #[.agg ⟨ca⟩,.agg ⟨cb⟩] w (TopT (joinW a b) w):=by
 have b3:=I ha;have b4:=I hb;have a5:=I (zl ha).1;have b7:=I (zl hb).1;have e4:∀ (fn:Fn) (first cap:Array Value) (w:World),(Instr.makeFunc fn first cap).run Tryz.prog w= .ok (.func fn first cap) w:=fun _ _ _ _=>rfl;clear ha hb
 go_enter_defers Tryz.func139,Tryz.ntmps139
 go_upto_region 1 with (fail);have d1:(#[Value.int IntKind.i64 0,Value.slice none 0 0,Value.slice none 0 0]:Array Value)= zT3.toArray:=rfl;rw[d1];clear d1;have g1:=zc w (.cells ⟨ca⟩ 36);have h1:=Whole.new w ca 36;have s1:(w.alloc (.cells ⟨ca⟩ 36)).heap.size= w.heap.size+1:=by simp
 generalize w.alloc (.cells ⟨ca⟩ 36)= W1 at*;have g2:=zc W1 (.cells ⟨cb⟩ 36);have h2:=Whole.new W1 cb 36;have s2:(W1.alloc (.cells ⟨cb⟩ 36)).heap.size= w.heap.size+1+1:=by simp[s1]
 generalize W1.alloc (.cells ⟨cb⟩ 36)= W2 at*;have g3:=zc W2 (.cells zT3.toArray 36);have h3:=Whole.new W2 zT3 36;have s3:(W2.alloc (.cells zT3.toArray 36)).heap.size= w.heap.size+1+1+1:=by simp[s2]
 generalize W2.alloc (.cells zT3.toArray 36)= W3 at*;have g4:=zc W3 (.cells #[.int .i64 0] 51);have h4:=Whole.new W3 [.int .i64 0] 51;generalize W3.alloc (.cells #[.int .i64 0] 51)= W at*;rw[s1] at h2;rw[s2] at h3;rw[s3] at h4;have g12:=(beT g1 g2);have g13:=(beT g12 g3);have a1:=I (((h1.keep (g2.block _ (by omega))).keep (g3.block _ (by omega))).keep (g4.block _ (by omega)));have K:=I ((h2.keep (g3.block _ (by omega))).keep (g4.block _ (by omega)));have O:Hid (TS w W (w.heap.size+1+1) (w.heap.size+1+1+1)):=I ⟨h3.keep (g4.block _ (by omega)),h4,(beT g13 g4),by omega,by omega,by omega⟩
 (try simp only[s1,s2,s3])
 clear g1 g2 g3 g4 g12 g13 h1 h2 h3 h4 s1 s2 s3;have a9:=I (z0R a ca W ((b3.o.under O.o.bel).more O.o.bel.size));have b1:=I (fun z (hz:Below W.heap.size W z)=>z0R b cb z ((b4.o.under (beT O.o.bel hz)).more (beT O.o.bel hz).size));obtain⟨ta,a6⟩:∃ x,typeT a= x:=⟨_,rfl⟩;obtain⟨tb,a7⟩:∃ x,typeT b= x:=⟨_,rfl⟩;have b8:Hid (Calls Tryz.prog 51 #[.agg ⟨ca⟩] W fun e w'=>e= .returned (.bool ta)/\Below W.heap.size W w'):=I (by rw[← a6];exact a9.o);have b9:Hid (∀ z,Below W.heap.size W z->Calls Tryz.prog 51 #[.agg ⟨cb⟩] z fun e w'=>e= .returned (.bool tb)/\Below z.heap.size z w'):=I (by rw[← a7];exact b1.o);have a4:Hid (joinW a b= if(ta && tb)= true then joinT a b else none):=I (by rw[← a6,← a7];rfl);have b0:=I a6;have b2:=I a7;clear a6 a7 a9 b1;cases ta with
 |false=>
  go_wp2_with (first|((with_reducible refine za tyK36 _ rfl ?_ a1.o.range rfl a5.o ?_);exact wA rfl)|(go_at_call 51;first|(with_reducible refine b8.o.mono ?_;rintro e z ⟨rfl,hb⟩;have G:=I hb;have X:=I (K.o.keep (hb.block _ K.o.lt));clear hb)|(with_reducible refine zg (b9.o _ G.o) ?_;intro y a3))|(go_at_call 176;refine ze (z08 2 _) ?_));have g:=I (O.o.next G.o);have N:Hid (w.heap.size+1+1≠w.heap.size+1+1+1):=I g.o.ne;refine leaves_cons (f:=175) (args:= #[.pointer (some ⟨w.heap.size+1+1,0,none⟩),.pointer (some ⟨w.heap.size+1+1+1,0,none⟩)]) (by simp) (by simp[go_sem]) ?_;refine(z1s (w.heap.size+1+1) (w.heap.size+1+1+1) 2 0 51 [] _ g.o.wt g.o.we N.o).mono ?_;rintro e u' a8 ⟨rfl,rfl,hq,hr,hb⟩;exact⟨_,z0T rfl _ _ (w.heap.size+1+1) (w.heap.size+1+1+1) zT3 2 rfl rfl rfl hq hr,.inr ⟨2,a4.o,by decide,rfl,g.o.bel.trans (hb.below (B:=w.heap.size) g.o.bel.size g.o.qlo g.o.rlo)⟩⟩
 |true=>
 cases tb with
 |false=>
  go_wp2_with (first|((with_reducible refine za tyK36 _ rfl ?_ a1.o.range rfl a5.o ?_);exact wA rfl)|(go_at_call 51;first|(with_reducible refine b8.o.mono ?_;rintro e z ⟨rfl,hb⟩;have G:=I hb;have X:=I (K.o.keep (hb.block _ K.o.lt));clear hb)|(with_reducible refine zg (b9.o _ G.o) ?_;intro y a3))|((with_reducible refine za tyK36 _ rfl ?_ X.o.range rfl b7.o ?_);exact wA rfl)|(go_at_call 176;refine ze (z08 2 _) ?_));have g:=I ((O.o.next G.o).next a3.o);have N:Hid (w.heap.size+1+1≠w.heap.size+1+1+1):=I g.o.ne;refine leaves_cons (f:=175) (args:= #[.pointer (some ⟨w.heap.size+1+1,0,none⟩),.pointer (some ⟨w.heap.size+1+1+1,0,none⟩)]) (by simp) (by simp[go_sem]) ?_;refine(z1s (w.heap.size+1+1) (w.heap.size+1+1+1) 2 0 51 [] _ g.o.wt g.o.we N.o).mono ?_;rintro e u' a8 ⟨rfl,rfl,hq,hr,hb⟩;exact⟨_,z0T rfl _ _ (w.heap.size+1+1) (w.heap.size+1+1+1) zT3 2 rfl rfl rfl hq hr,.inr ⟨2,a4.o,by decide,rfl,g.o.bel.trans (hb.below (B:=w.heap.size) g.o.bel.size g.o.qlo g.o.rlo)⟩⟩
 |true=>
  go_upto_region 3 with (first|((with_reducible refine za tyK36 _ rfl ?_ a1.o.range rfl a5.o ?_);exact wA rfl)|(go_at_call 51;first|(with_reducible refine b8.o.mono ?_;rintro e z ⟨rfl,hb⟩;have G:=I hb;have X:=I (K.o.keep (hb.block _ K.o.lt));clear hb)|(with_reducible refine zg (b9.o _ G.o) ?_;intro y a3))|((with_reducible refine za tyK36 _ rfl ?_ X.o.range rfl b7.o ?_);exact wA rfl)|(go_at_call 176;refine ze (z0u 2 _) ?_));have b5:Hid (Below W.heap.size W y):=I (beT G.o a3.o);have C:=I (O.o.next b5.o);have c7:=I (a1.o.keep (b5.o.block _ a1.o.lt));have c8:=I (K.o.keep (b5.o.block _ K.o.lt));have d3:=I (KeptT.low b3.o C.o.bel);have d4:=I (KeptT.low b4.o C.o.bel);have HJ:=I (z3h a b (z44 b0.o) (z44 b2.o) (z6X b0.o) (z6X b2.o) _ ca cb y (fun b hb=>Nat.lt_of_lt_of_le hb C.o.bel.size) d3.o d4.o);have d7:Hid (w.heap.size+1+1+1 < y.heap.size):=I C.o.we.lt;go_wp2_with (first|((with_reducible refine za tyK36 _ rfl ?_ c7.o.range rfl a5.o ?_);exact wA rfl)|((with_reducible refine za tyK36 _ rfl ?_ c8.o.range rfl b7.o ?_);exact wA rfl)|(go_at_call 179;fail));refine HJ.o.mono ?_;rintro e z2 (⟨t,cs,hr,rfl,hk,hb⟩|⟨hr,rfl,hb⟩)
  ·have A:=I (C.o.next hb)
   have b6:=I (zl hk.typ).1;have d5:=I (zl hk.typ).2;have HK:=I hk;have a0:Hid (joinW a b= some t):=I (a4.o.trans hr);have d6:Hid (∀ b,(b < w.heap.size\/y.heap.size<=b)->b≠w.heap.size+1+1/\b≠w.heap.size+1+1+1):=I fun b hb=>by
    have h1:=d7.o;rcases hb with h|h
    ·exact⟨by omega,by omega⟩
    ·exact⟨by omega,by omega⟩
   clear hk hr hb;go_wp2_with (((with_reducible refine z0W 36 _ _ rfl rfl ?_ (w.heap.size+1+1) zT3 cs A.o.wt ?_ ?_ ?_ ?_ ?_ ?_);(exact wA rfl);rw[b6.o];rfl;rfl;rfl;rw[b6.o];kernel_rfl;exact d5.o;intro Z hz hb;have d8:=I hz;have Y:=I hb;have c6:Whole 51 Z (w.heap.size+1+1+1) [.int .i64 0]:=A.o.we.keep (hb.block _ A.o.we.lt (Ne.symm A.o.ne) (Ne.symm A.o.ne));have c0:Z.cell? ⟨w.heap.size+1+1+1,0,none⟩= some (.int .i64 0):=c6.cells 0 rfl;have f0:Z.frozen? ⟨w.heap.size+1+1+1,0,none⟩= false:=c6.thaw' 0;clear hz hb c6));have d9:(Z.setCell ⟨w.heap.size+1+1+1,0,none⟩ (.int .i64 0)).cell? ⟨w.heap.size+1+1+1,0,none⟩= some (.int .i64 0):=World.cell?_setCell_same _ _ _ (by rw[c0]);have c4:∀ b,b≠w.heap.size+1+1+1->(Z.setCell ⟨w.heap.size+1+1+1,0,none⟩ (.int .i64 0)).heap[b]?= Z.heap[b]?:=fun b h=>Below.heap_setCell Z ⟨w.heap.size+1+1+1,0,none⟩ _ b h;have e7:(Z.setCell ⟨w.heap.size+1+1+1,0,none⟩ (.int .i64 0)).heap.size= Z.heap.size:=by simp[World.setCell]
   have c5:(Z.setCell ⟨w.heap.size+1+1+1,0,none⟩ (.int .i64 0)).os= Z.os/\(Z.setCell ⟨w.heap.size+1+1+1,0,none⟩ (.int .i64 0)).tape= Z.tape/\(Z.setCell ⟨w.heap.size+1+1+1,0,none⟩ (.int .i64 0)).output= Z.output:=⟨rfl,rfl,rfl⟩;have N:Hid (w.heap.size+1+1≠w.heap.size+1+1+1):=I A.o.ne;generalize Z.setCell ⟨w.heap.size+1+1+1,0,none⟩ (.int .i64 0)= Z3 at*;refine leaves_cons (f:=175) (args:= #[.pointer (some ⟨w.heap.size+1+1,0,none⟩),.pointer (some ⟨w.heap.size+1+1+1,0,none⟩)]) (by simp) (by simp[go_sem]) ?_;refine(z5m (w.heap.size+1+1) (w.heap.size+1+1+1) _).mono ?_;rintro e u' a8 ⟨rfl,rfl,rfl⟩;have hZ:=Y.o.size;have h4:=A.o.bel.size;have e5:=A.o.qlo;have e6:=A.o.rlo;have hW:Whole 36 a8 (w.heap.size+1+1) cs:=d8.o.keep (c4 _ N.o);refine⟨_,z0T rfl _ _ (w.heap.size+1+1) (w.heap.size+1+1+1) cs 0 b6.o rfl rfl hW d9,.inl ⟨t,cs,a0.o,rfl,(HK.o.to (q:=fun _=>True) (fun b hp hlt=>⟨trivial,?_⟩) (by omega)).typ,?_⟩⟩
   ·have h6:=(d6.o b hp)
    exact(c4 b h6.2).trans (Y.o.block b hlt h6.1 h6.1)
   ·exact⟨c5.1.trans (Y.o.os.trans A.o.bel.os),c5.2.1.trans (Y.o.tape.trans A.o.bel.tape),c5.2.2.trans (Y.o.output.trans A.o.bel.output),by omega,fun b hlt=>(c4 b (by omega)).trans ((Y.o.block b (by omega) (by omega) (by omega)).trans (A.o.bel.block b hlt))⟩
  ·have a0:Hid (joinW a b= none):=I (a4.o.trans hr)
   go_wp2;have g:=I (C.o.next hb);have N:Hid (w.heap.size+1+1≠w.heap.size+1+1+1):=I g.o.ne;refine leaves_cons (f:=175) (args:= #[.pointer (some ⟨w.heap.size+1+1,0,none⟩),.pointer (some ⟨w.heap.size+1+1+1,0,none⟩)]) (by simp) (by simp[go_sem]) ?_;refine(z1s (w.heap.size+1+1) (w.heap.size+1+1+1) 6 0 51 [] _ g.o.wt g.o.we N.o).mono ?_;rintro e u' a8 ⟨rfl,rfl,hq,hr,hb⟩;exact⟨_,z0T rfl _ _ (w.heap.size+1+1) (w.heap.size+1+1+1) zT3 6 rfl rfl rfl hq hr,.inr ⟨6,a0.o,by decide,rfl,g.o.bel.trans (hb.below (B:=w.heap.size) g.o.bel.size g.o.qlo g.o.rlo)⟩⟩
theorem TopT.yes {r:Option TT} {t:TT} (hr:r= some t) {w:World} {e:Ending} {w':World} (h:TopT r w e w'):∃ cs,e= .returned (.tuple #[.agg ⟨cs⟩,.int .i64 0])/\TypAt w' w'.heap.size cs t/\Below w.heap.size w w':=by
 rcases h with ⟨t',cs,h1,h2,h3,h4⟩|⟨n,h1,_⟩
 ·rw[hr] at h1;injection h1 with h1;subst h1;exact⟨cs,h2,h3,h4⟩
 ·rw[hr] at h1;cases h1
theorem TopT.no {r:Option TT} (hr:r= none) {w:World} {e:Ending} {w':World} (h:TopT r w e w'):∃ n,(n ==0)= false/\e= .returned (.tuple #[.agg ⟨zT3⟩,.int .i64 n])/\Below w.heap.size w w':=by
 rcases h with ⟨t',cs,h1,h2,h3,h4⟩|⟨n,h1,h2,h3,h4⟩
 ·rw[hr] at h1;cases h1
 ·exact⟨n,by simpa using h2,h3,h4⟩
theorem zax (a b:TT) (ca cb:List Value) (w:World) (ha:TypAt w w.heap.size ca a) (hb:TypAt w w.heap.size cb b):Calls Tryz.prog 100 #[.agg ⟨ca⟩,.agg ⟨cb⟩] w fun e w'=>e= .returned (.bool (isT a b))/\Below w.heap.size w w':=by
 have a2:=I ha;have G:=I hb;have a1:=I (zl ha).1;have N:=I (zl hb).1;have a0:=I (zeU a b);clear ha hb;go_enter Tryz.func100,Tryz.ntmps100;go_upto_region 1 with (fail);have g1:=zc w (.cells ⟨ca⟩ 36);have h1:=Whole.new w ca 36;have s1:(w.alloc (.cells ⟨ca⟩ 36)).heap.size= w.heap.size+1:=by simp
 generalize w.alloc (.cells ⟨ca⟩ 36)= W1 at*;have g2:=zc W1 (.cells ⟨cb⟩ 36);have h2:=Whole.new W1 cb 36;generalize W1.alloc (.cells ⟨cb⟩ 36)= W at*;rw[s1] at h2;have a3:=I (h1.keep (g2.block _ (by omega)));have C:=I h2;have g:=I (beT g1 g2)
 (try simp only[s1])
 clear g1 g2 h1 h2 s1;have HJ:=I (zdK a b ca cb W ((a2.o.under g.o).more g.o.size) ((G.o.under g.o).more g.o.size));cases hj:joinW a b with
 |none=>
  have HV:Hid (isT a b= false):=I (by rw[a0.o,hj]);go_wp2_with (first|((with_reducible refine za tyK36 _ rfl ?_ a3.o.range rfl a1.o ?_);exact wA rfl)|((with_reducible refine za tyK36 _ rfl ?_ C.o.range rfl N.o ?_);exact wA rfl)|(go_at_call 139;refine HJ.o.mono ?_;rintro e z he;obtain⟨n,b5,rfl,hb⟩:=he.no hj;have K:=I hb;clear hb he)|((with_reducible refine z1f 36 _ _ rfl ?hwx7 z ?zz7 (zT3) ?hwld7 ?hz7 ?hx7 ?hy7 ?hi7 ?h17 ?_);(case hwld7=>rfl);(case hx7=>rfl);(case hy7=>rfl);(case hwx7=>(exact wA rfl));(case hz7=>rfl);(case hi7=>kernel_rfl);(case h17=>exact(zM _ _ _ _ _ _ _));intro Z hZ;have O:=I hZ;clear hZ));go_ret;exact⟨z8 HV.o.symm,g.o.trans ((beT K.o O.o.below).mono g.o.size)⟩
 |some t=>
  have HV:Hid (isT a b= sameT t b):=I (by rw[a0.o,hj]);go_upto_region 2 with (first|((with_reducible refine za tyK36 _ rfl ?_ a3.o.range rfl a1.o ?_);exact wA rfl)|((with_reducible refine za tyK36 _ rfl ?_ C.o.range rfl N.o ?_);exact wA rfl)|(go_at_call 139;refine HJ.o.mono ?_;rintro e z he;obtain⟨cs,rfl,ht,hb⟩:=he.yes hj;have K:=I hb;have b1:=I ht;have Y:=I (zl ht).1;have a8:=I (zl ht).2;clear hb ht he)|((with_reducible refine zN tyK36 _ _ rfl ?_ z Y.o a8.o rfl ?_ ?_ ?_ ?_);exact wA rfl;rfl;rfl;rfl;intro Z O));have X:Hid (Below W.heap.size W Z):=I (beT K.o O.o.below);have A:Hid (Below w.heap.size w Z):=I (beT g.o X.o);have a4:=I (C.o.keep (X.o.block _ C.o.lt));have b0:=I (zdT t b cs cb Z ((b1.o.under O.o.below).more O.o.below.size) ((G.o.under A.o).more A.o.size));have a9:=I O.o.range;clear hj;go_wp2_with (first|((with_reducible refine za tyK36 _ rfl ?_ a9.o rfl Y.o ?_);exact wA rfl)|((with_reducible refine za tyK36 _ rfl ?_ a4.o.range rfl N.o ?_);exact wA rfl)|(go_at_call 140;refine zg (b0.o) ?_;intro y a7));go_ret;exact⟨z8 HV.o.symm,(beT A.o a7.o)⟩
end
section
open Go Go.RowKit P
def okR (r:Res):Prop:=∀ e,r= .error e->e= 0\/errOk e
section
variable {E:List VarT} {V:List VT} {x:ET}
theorem zeV {t:TT} (h:isE E x t= true) (hall:V.all zB= true) (hV:∀ (i:Nat) y,E[i]?= some y->∃ v,V[i]?= some v/\fitX v y.type= true):okR (evalT x E V):=by
 unfold isE chkE at h;split at h
 ·rename_i u hu
  split at hu
  ·rename_i hm
   unfold mayE at hm;rw[Bool.and_eq_true] at hm;split at hu
   ·rename_i t' hc
    have C:=z5t (E:=E) hall hm.2 (r:=evalE E V x) rfl;have g:=sound hV x 1 t' (z3l.1 hm.2).2 hc;intro e A;rw[C] at A;rw[A] at g;exact .inr g
   ·cases hu
  ·cases hu
 ·cases h
theorem z9B (h:(z02 x).2= true) (hall:V.all zB= true):okR (evalT x E V):=by
 rcases zc4 x E with ⟨_,h2,_⟩|⟨_,_,h2,_⟩|⟨A,C,h0,_⟩|⟨_,_,_,h2,_⟩
 ·rw[h2] at h;cases h
 ·rw[h2] at h;cases h
 ·intro e g
  have h1:=z5t (E:=E) hall A (r:=evalE E V x) rfl;have h2:=z5t (E:=E) (V:=[]) rfl A (r:=evalE E [] x) rfl;rw[h1,z7h (E':=E) (V':=[]) x C] at g;rw[h2,g] at h0;exact .inl h0
 ·rw[h2] at h;cases h
end
theorem zg2 {x:ET} (h:sameE x ez= true):kE x= 0:=by
 cases x with
 |mk k s v ns its=>
  unfold ez at h;rw[sameE] at h;simp only[Bool.and_eq_true,beq_iff_eq] at h;exact h.1
theorem zcf {v:VT} {t:TT} (h:fitT v t= true):fitX v t= true:=by
 unfold fitT at h;simp only[Bool.and_eq_true] at h;obtain⟨h1,h2,h3⟩:=h;unfold z1d at h1;unfold typeT at h2;rw[Bool.and_eq_true] at h1 h2;exact zg0 _ _ _ _ h1.2 h2.2 h3
theorem z0f {x:ET} {P:Prop} (h:z0L x false= true) (hk:kE x≠0):P:=by
 unfold z0L at h;rw[if_neg (by decide),Bool.and_eq_true] at h;exact absurd (zg2 h.1) hk
theorem zfE {m:ModelT} (h:WellOk m (zP m)) {V:List VT} (hV:∀ (i:Nat) y,m.vars[i]?= some y->∃ v,V[i]?= some v/\fitT v y.type= true) (hall:V.all zB= true) {nd:NodeT} (hn:nd∈m.nodes) {x:ET} (hx:x∈nd.conds ++ [nd.expr,nd.body]) (hk:kE x≠0):okR (evalT x m.vars V):=by
 have X:∀ (i:Nat) y,m.vars[i]?= some y->∃ v,V[i]?= some v/\fitX v y.type= true:=fun i y hy=>by
  obtain⟨v,h1,h2⟩:=hV i y hy;exact⟨v,h1,zcf h2⟩
 obtain⟨i,O⟩:=List.mem_iff_getElem?.1 hn;have N:=h.typed i nd O;have G:=h.shape i nd O;have C:∀ {x t},isE m.vars x t= true->okR (evalT x m.vars V):=fun h=>zeV h hall X;unfold zP at N;rw[Bool.and_eq_true] at N;unfold z0K at G;split at G
 ·cases G
 rename_i d hd
 simp only[Bool.and_eq_true] at G;have K:=G.2.2.2.2.1;have A:=G.2.2.2.2.2.1;have g:=N.2;unfold kindB at g;rcases List.mem_append.1 hx with hx|hx
 ·exact C (List.all_eq_true.1 N.1 x hx)
 clear G;have hx:x= nd.expr\/x= nd.body:=by simpa using hx
 unfold z11 at hd;split at hd
 ·injection hd with hd;subst hd
  rcases hx with rfl|rfl
  ·exact z0f K hk
  ·exact z0f A hk
 split at hd
 ·rename_i h1
  injection hd with hd;subst hd;rw[if_neg (by omega),if_pos (by omega),Bool.and_eq_true] at g;rcases hx with rfl|rfl
  ·exact C g.1
  ·exact z0f A hk
 split at hd
 ·rename_i h1
  injection hd with hd;subst hd;rw[if_neg (by omega),if_pos (by omega),Bool.and_eq_true] at g;rcases hx with rfl|rfl
  ·exact C g.1
  ·exact z0f A hk
 split at hd
 ·rename_i h1
  injection hd with hd;subst hd;rw[if_pos (by omega)] at g;rcases hx with rfl|rfl
  ·exact C g
  ·exact z0f A hk
 split at hd
 ·injection hd with hd;subst hd
  rcases hx with rfl|rfl
  ·exact z0f K hk
  ·exact z0f A hk
 split at hd
 ·injection hd with hd;subst hd
  rcases hx with rfl|rfl
  ·exact z0f K hk
  ·exact z0f A hk
 split at hd
 ·injection hd with hd;subst hd
  rcases hx with rfl|rfl
  ·exact z0f K hk
  ·exact z0f A hk
 split at hd
 ·injection hd with hd;subst hd
  rcases hx with rfl|rfl
  ·exact z0f K hk
  ·exact z0f A hk
 split at hd
 ·rename_i h1
  rw[if_neg (by omega),if_neg (by omega),if_pos (by omega),Bool.and_eq_true] at g;rcases hx with rfl|rfl
  ·exact C g.1
  ·exact C g.2
 split at hd
 ·rename_i h1
  rw[if_neg (by omega),if_neg (by omega),if_neg (by omega),if_pos (by omega),Bool.and_eq_true,Bool.and_eq_true] at g;rcases hx with rfl|rfl
  ·exact C g.1
  ·exact z9B g.2.1 hall
 split at hd
 ·injection hd with hd;subst hd
  rcases hx with rfl|rfl
  ·exact z0f K hk
  ·exact z0f A hk
 ·cases hd
end
section
open Go Go.RowKit P
structure GInv (P:VT->VarT->Prop) (TV:TypeId) (W u:World) (v:Value) (E:List VarT) (F:List VT) (j:Nat) (KL:List zT):Prop where
 own:OwnSl TV 6 enc6 u W.heap.size v KL
 len:KL.length= j
 flen:F.length= j
 bel:Below W.heap.size W u
 els:∀ (i:Nat) k x,KL[i]?= some k->F[i]?= some x->ValAt W W.heap.size k.1 x
 rel:∀ (i:Nat) x y,F[i]?= some x->E[i]?= some y->P x y
section
variable {P:VT->VarT->Prop} {TV:TypeId} {W u u7 u8 z:World} {v v':Value} {E:List VarT} {F:List VT} {j:Nat} {KL:List zT}
theorem GInv.start:GInv P TV W W (.slice none 0 0) E [] 0 []:=⟨OwnSl.nil _ _,rfl,rfl,Below.refl _ _,fun i k x hk _=>(by cases hk),fun i x y h _=>(by cases h)⟩
theorem GInv.snoc (h:GInv P TV W u v E F j KL) (hb:Below u.heap.size u u7) {k:zT} {x:VT} {y:VarT} (hy:E[j]?= some y)
  (hk:ValAt W W.heap.size k.1 x) (hr:P x y) (hown:OwnSl TV 6 enc6 u8 W.heap.size v' (KL ++ [k])) (hg:u7.grownBy u8 v.ownBlock):GInv P TV W u8 v' E (F ++ [x]) (j+1) (KL ++ [k]):=by
 have C:∀ {α:Type} {l:List α} {a b:α} {i:Nat},l.length= j->(l ++ [a])[i]?= some b->(i < j/\l[i]?= some b)\/(i= j/\b= a):=by
  intro α l a b i K g;rcases Nat.lt_or_ge i j with G|G
  ·rw[List.getElem?_append_left (by omega)] at g
   exact .inl ⟨G,g⟩
  ·have A:=(List.getElem?_eq_some_iff.1 g).1
   rw[List.length_append,K,List.length_singleton] at A;obtain rfl:i= j:=by omega
   rw[List.getElem?_append_right (by omega),K,Nat.sub_self] at g;injection g with g;exact .inr ⟨rfl,g.symm⟩
 refine⟨hown,by rw[List.length_append,h.len];rfl,by rw[List.length_append,h.flen];rfl,(beT h.bel hb).grown hg (Nat.le_trans h.bel.size hb.size) fun b hb=>h.own.block hb,fun i k' t hk' ht=> ?_,fun i t s ht hs=> ?_⟩
 ·rcases C h.len hk' with ⟨G,h1⟩|⟨G,h1⟩<;>rcases C h.flen ht with ⟨A,h2⟩|⟨A,h2⟩
  ·exact h.els i k' t h1 h2
  ·omega
  ·omega
  ·rw[h1,h2];exact hk
 ·rcases C h.flen ht with ⟨A,h2⟩|⟨A,h2⟩
  ·exact h.rel i t s h2 hs
  ·subst A h2
   rw[hy] at hs;injection hs with hs;subst hs;exact hr
theorem GInv.row (h:GInv P TV W u v E F j KL) (hl:j<=9223372036854775807) (hz:Below u.heap.size u z):SlAt z z.heap.size 6 (ValAt z z.heap.size) v F:=by
 have C:=(beT h.bel hz);refine⟨by rw[h.flen];exact hl,?_⟩;rcases h.own.2 with ⟨rfl,h0⟩|⟨g,N,Y,X,hg,_,_⟩
 ·rw[h.len] at h0
  exact⟨none,0,by rw[h.flen,← h0],fun h1=>by rw[h.flen] at h1;omega⟩
 ·refine⟨some ⟨g,0,none⟩,N,by rw[X,h.len,h.flen],fun _=> ?_⟩
  have A:v.ownBlock= some g:=by rw[X];rfl
  have K:=z0y h.own A;refine⟨g,0,rfl,Nat.lt_of_lt_of_le K hz.size,fun i x hx=> ?_⟩;have O:=(List.getElem?_eq_some_iff.1 hx).1;have G:KL[i]?= some (KL[i]'(by rw[h.len,← h.flen];exact O)):=List.getElem?_eq_getElem _;refine⟨_,(KL[i]'(by rw[h.len,← h.flen];exact O)).2,fun j c hc=> ?_,((h.els i _ x G hx).under C).more C.size⟩;refine(hz.cell (p:=⟨g,_,none⟩) K).trans ?_;have:=World.ownsRow.cells h.own A (i*6+j) c (z0Z z0D KL i _ G j c hc);rw[Addr.add_mid] at this;rw[show 0+i*6+j= 0+ (i*6+j) by omega];exact this
end
def sndP (x:VT) (y:VarT):Prop:=x= y.init\/fitT x y.type= true
theorem zgn {m:ModelT} {tb:NodeT->Bool} (h:WellOk m tb) {V:List VT} (hl:V.length= m.vars.length) (hr:∀ (i:Nat) x y,V[i]?= some x->m.vars[i]?= some y->sndP x y):
  (∀ (i:Nat) y,m.vars[i]?= some y->∃ v,V[i]?= some v/\fitT v y.type= true)/\V.all zB= true:=by
 have A:∀ (i:Nat) x y,V[i]?= some x->m.vars[i]?= some y->fitT x y.type= true:=fun i x y C hy=>by
  rcases hr i x y C hy with rfl|K
  ·have g:=h.vars i y hy
   unfold varB at g;simp only[Bool.and_eq_true] at g;exact g.2.2.2.2
  ·exact K
 refine⟨fun i y hy=> ?_,?_⟩
 ·have G:=(List.getElem?_eq_some_iff.1 hy).1
  have C:V[i]?= some (V[i]'(by omega)):=List.getElem?_eq_getElem _;exact⟨_,C,A i _ y C hy⟩
 ·rw[List.all_eq_true]
  intro v g;obtain⟨i,G⟩:=List.mem_iff_getElem?.1 g;have N:=(List.getElem?_eq_some_iff.1 G).1;have:=A i v (m.vars[i]'(by omega)) G (List.getElem?_eq_getElem _);unfold fitT at this;rw[Bool.and_eq_true] at this;exact this.1
theorem zgj {α:Type} {R:List Value->α->Prop} {w:World} {B:Nat} {v:Value} {l:List α} (h:SlAt w B 10 R v l):∃ Q:List C10,Q.length= l.length/\SlAt w B 10 Raw10 v Q/\∀ q∈Q,∃ x∈l,R q.cs x:=by
 obtain⟨h0,A,c,rfl,h1⟩:=h;by_cases hp:0 < l.length
 ·obtain⟨b,o,rfl,N,h2⟩:=h1 hp
  obtain⟨Q,C,K⟩:=z3j (P:=fun i (q:C10)=>w.rangeAt b (o+i*10) q.cs/\∃ x∈l,R q.cs x) l.length fun i g=>by
   obtain⟨cs,h3,h4,h5⟩:=h2 i l[i] (List.getElem?_eq_getElem g);exact⟨⟨cs,h3⟩,h4,_,List.getElem_mem _,h5⟩
  refine⟨Q,C,⟨by omega,_,c,by rw[C],fun _=>⟨b,o,rfl,N,fun i x hx=>⟨x.cs,x.len,(K i x hx).1,rfl⟩⟩⟩,fun q hm=> ?_⟩;obtain⟨i,g,rfl⟩:=List.getElem_of_mem hm;exact(K i _ (List.getElem?_eq_getElem g)).2
 ·have G:l.length= 0:=by omega
  exact⟨[],by simp[G],⟨by simp,A,c,by rw[G];rfl,fun h=>by simp at h⟩,fun q hm=>by cases hm⟩
theorem zaj {w:World} {B:Nat} {q:C10} {y:ET} (h:ExpAt w B q.cs y):OkC q/\kindC q= kE y:=by
 have h1:=h.one;cases y with
 |mk k s t ns its=>
  obtain⟨c0,c1,c2,c3,c4,c5,vn,vi,hcs,_⟩:=h.inv;have hk:kindC q= k:=by unfold kindC;rw[hcs]
  exact⟨⟨by rw[hk,hcs];rfl,h1⟩,hk⟩
theorem zf6 {w:World} {ks:List Value} {x:NodeT} (h:NodeAt w w.heap.size ks x):∃ v0 v1 v2 vc Q ce cb t,ks= nodeC v0 v1 v2 vc ce cb t/\Q.length= x.conds.length/\SlAt w w.heap.size 10 Raw10 vc Q/\(∀ q∈Q ++ [ce,cb],OkC q)/\
  ∀ q∈(Q ++ [ce,cb]).filter nzC,∃ y∈x.conds ++ [x.expr,x.body],kE y≠0/\ExpAt w w.heap.size q.cs y:=by
 obtain⟨⟨O,vc,ce,cb,h1,h2,h3,h4,h5,h6,h7,h8⟩,h9⟩:=h;obtain⟨Q,G,N,K⟩:=zgj h5;have A:∀ q∈Q ++ [(⟨ce,h2⟩:C10),⟨cb,h3⟩],∃ y∈x.conds ++ [x.expr,x.body],ExpAt w w.heap.size q.cs y:=fun q hqm=>by
  rcases List.mem_append.1 hqm with h|h
  ·obtain⟨y,C,g⟩:=K q h
   exact⟨y,List.mem_append_left _ C,g⟩
  ·simp only[List.mem_cons,List.not_mem_nil,or_false] at h
   rcases h with rfl|rfl
   ·exact⟨_,by simp,h7⟩
   ·exact⟨_,by simp,h8⟩
 refine⟨.int .i64 x.kind,.int .i64 x.label,O,vc,Q,⟨ce,h2⟩,⟨cb,h3⟩,[.int .i64 x.var,.int .i64 x.msg,.int .i64 x.catch_,.int .i64 x.wait,.int .i64 x.from_],?_,G,N,fun q hqm=> ?_,fun q hqm=> ?_⟩
 ·rw[h1];unfold nodeC;simp
 ·obtain⟨y,_,g⟩:=A q hqm
  exact(zaj g).1
 ·obtain⟨h1,h2⟩:=List.mem_filter.1 hqm
  obtain⟨y,C,g⟩:=A q h1;refine⟨y,C,?_,g⟩;rw[← (zaj g).2];unfold nzC at h2
  simpa using h2
theorem zgo {r:Res} (h:okR r):(resV r).2= 0\/(resV r).2= 3\/(resV r).2= 7\/(resV r).2= 8\/(resV r).2= 9:=by
 cases r with
 |ok v=>exact .inl rfl
 |error e=>exact h e rfl
end
end Go.Proofs.YtpmjcbjdcjjplaaGreatDoor
