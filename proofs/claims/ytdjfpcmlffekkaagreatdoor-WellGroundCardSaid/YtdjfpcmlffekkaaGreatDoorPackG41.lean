/- Parts of a proof: WellT, Aw14P, TTop. -/
import Derived.Test.YtdjfpcmlffekkaaGreatDoorPackG4
import Derived.Test.YtdjfpcmlffekkaaGreatDoorPackG12
import Derived.Test.YtdjfpcmlffekkaaGreatDoorPackG27
import Derived.Test.YtdjfpcmlffekkaaGreatDoorPackG36
import Derived.Test.YtdjfpcmlffekkaaGreatDoorPackG37
import Derived.Test.YtdjfpcmlffekkaaGreatDoorPackG40
set_option maxHeartbeats 8000000
set_option maxRecDepth 100000
set_option linter.unusedVariables false
set_option linter.unusedSimpArgs false
namespace Go.Proofs.YtdjfpcmlffekkaaGreatDoor
section
open Go Go.RowKit P
def isT (a b:TT):Bool:=(typeT a && typeT b) && match joinT a b with
 |some t=>sameT t b
 |none=>false
def mayE (E:List VarT) (x:ET):Bool:=E.all (fun v=>typeT v.type) && z0n x
def chkE (E:List VarT) (x:ET):Option TT:=if mayE E x= true then(match z0e E x with| .ok t=>some t| .error _=>none) else none
def isE (E:List VarT) (x:ET) (t:TT):Bool:=match chkE E x with
 |some u=>isT u t
 |none=>false
section
variable (m:ModelT) (x:NodeT)
def ownW (x:NodeT):TT:=if 0<=x.var then(match m.vars[x.var.toNat]? with|some v=>v.type|none=>pT 0) else pT 0
def keyW (x:NodeT):TT:=if 0<=x.msg then(match m.msgs[x.msg.toNat]? with|some v=>v.key|none=>pT 0) else pT 0
def bodyW (x:NodeT):TT:=if 0<=x.msg then(match m.msgs[x.msg.toNat]? with|some v=>v.body|none=>pT 0) else pT 0
def kindB (x:NodeT):Bool:=
 if x.kind= 3 then isE m.vars x.expr (ownW m x)
 else if x.kind= 9\/x.kind= 11 then isE m.vars x.expr (keyW m x) && isT (bodyW m x) (ownW m x)
 else if x.kind= 10 then isE m.vars x.expr (keyW m x) && isE m.vars x.body (bodyW m x)
 else if x.kind= 12 then isE m.vars x.expr (ownW m x) && ((z0t x.body).2 && fitT (z0t x.body).1 (ownW m x))
 else true
def zQ (x:NodeT):Bool:=x.conds.all (fun c=>isE m.vars c (pT 1)) && kindB m x
end
theorem zbp {n:Nat} {R:Rel} {m:ModelT} {x:NodeT} (h:z0O n R m x= true):(0<=x.var->x.var < m.vars.length)/\(0<=x.msg->x.msg < m.msgs.length):=by
 unfold z0O at h;split at h
 ·cases h
 ·simp only[Bool.and_eq_true] at h
  have h1:=h.2.2.2.2.2.2.1;have h2:=h.2.2.2.2.2.2.2;unfold numB at h1 h2;constructor
  ·intro h0
   split at h1
   ·simp only[Bool.and_eq_true,decide_eq_true_eq] at h1;exact h1.2
   ·simp only[beq_iff_eq] at h1;omega
  ·intro h0
   split at h2
   ·simp only[Bool.and_eq_true,decide_eq_true_eq] at h2;exact h2.2
   ·simp only[beq_iff_eq] at h2;omega
end
section
open Go Go.RowKit P
def nd14 (k:Int) (nx:List Int):NodeT:=⟨k,0,nx,[],ez,ez, -1, -1, -1,0,0⟩
def m14 (l:List NodeT):ModelT:=⟨1,[],[],[],[],l⟩
theorem zey:wellM (m14 [nd14 1 [1],nd14 2 []]) (zQ (m14 [nd14 1 [1],nd14 2 []]))=[]:=by decide +kernel
theorem zez:wellM (m14 [nd14 1 [0],nd14 2 []]) (zQ (m14 [nd14 1 [0],nd14 2 []]))=[(5,0)]:=by decide +kernel
theorem zeA:wellM (m14 [nd14 2 []]) (zQ (m14 [nd14 2 []]))=[(7, -1)]:=by decide +kernel
theorem zaF:z08 (pT 2)= true:=by decide +kernel
theorem zaG:z08 (pT 7)= false:=by decide +kernel
end
section
open Go Go.RowKit
theorem z17 (q r:Nat) (n m:Int) (T:TypeId) (older:List PanicEntry) (w:World) (hq:Whole 41 w q zT3) (hr:Whole T w r [.int .i64 m]) (hqr:q≠r):
  CallsD Tryz.prog 108 #[.pointer (some ⟨q,0,none⟩),.pointer (some ⟨r,0,none⟩)] (.panicking ({ v:= .iface 33 (.int .i64 n),recovered:=false }::older)) w fun e u' w'=>
   e= .returned (.tuple #[])/\u'= .panicking ({ v:= .iface 33 (.int .i64 n),recovered:=true }::older)/\Whole 41 w' q zT3/\w'.cell? ⟨r,0,none⟩= some (.int .i64 n)/\But w w' q r:=by
 have O:=I hq;have K:=I hr;have G:w.frozen? ⟨r,0,none⟩= false:=by have:=Whole.thaw' hr 0;exact this
 have F:∀ (S:TypeId) (W:World),(Instr.typeAssert (.iface 33 (.int .i64 n)) S 33 true).run Tryz.prog W= .ok (.tuple #[.int .i64 n,.bool true]) W:=fun S W=>by kernel_rfl
 refine callsD_of_wpS Tryz.func108 rfl fun c₀ cs hu=> ?_;apply wpS_seq;apply wpS_region;simp[wpOpsS,go_sem,recoverD,hu,F,Tryz.ntmps108,Exit.thenS,Array.replicate];refine wpS_of_wp ?_;clear F G hq hr hu;go_wp2_with ((with_reducible refine z0T 41 _ _ rfl rfl ?_ q zT3 zT3 O.o ?_ ?_ ?_ ?_ ?_ ?_);(exact wA rfl);rfl;rfl;rfl;kernel_rfl;exact zJ _ _ _ _ _ _ _;intro Z N C;have X:=I N;have g:=I C;have A:Whole T Z r [.int .i64 m]:=K.o.keep (C.block r K.o.lt (Ne.symm hqr) (Ne.symm hqr));have c0:Z.cell? ⟨r,0,none⟩= some (.int .i64 m):=A.cells 0 rfl;have f0:Z.frozen? ⟨r,0,none⟩= false:=A.thaw' 0;clear N C A);refine⟨rfl,_,rfl,_,results_none rfl _ _ _,rfl,rfl,?_,World.cell?_setCell_same _ _ _ (by rw[c0]),?_⟩
 ·exact X.o.keep (Below.heap_setCell Z ⟨r,0,none⟩ _ q hqr)
 ·exact⟨g.o.os,g.o.tape,g.o.output,by have:=g.o.size;simpa [World.setCell] using this,fun b C h1 h2=>(Below.heap_setCell Z ⟨r,0,none⟩ _ b h2).trans (g.o.block b C h1 h1)⟩
theorem z4w (q r:Nat) (w:World):
  CallsD Tryz.prog 108 #[.pointer (some ⟨q,0,none⟩),.pointer (some ⟨r,0,none⟩)] .returning w fun e u' w'=>e= .returned (.tuple #[])/\u'= .returning/\w'= w:=by
 have g:∀ (S:TypeId) (W:World),(Instr.typeAssert .nilIface S 33 true).run Tryz.prog W= .ok (.tuple #[.int .i64 0,.bool false]) W:=fun S W=>by kernel_rfl
 refine callsD_of_wpS Tryz.func108 rfl fun c₀ cs hu=> ?_;apply wpS_seq;apply wpS_region;simp[wpOpsS,go_sem,recoverD,hu,g,Tryz.ntmps108,Exit.thenS,Array.replicate];refine wpS_of_wp ?_;clear g;go_wp2;refine⟨rfl,_,?_,_,results_none rfl _ _ _,rfl,rfl,rfl⟩;cases c₀
 simp only at hu;subst hu;rfl
theorem z0F {fn:Func} {p q:Tmp} (h:fn.results= #[.cell p 41,.cell q 33]) (tmps:Array Value) (w:World) (g g2:Nat) (cs:List Value) (n:Int) (hl:cs.length= 3)
  (hp:tmps.getD p undef= .pointer (some ⟨g,0,none⟩)) (hq:tmps.getD q undef= .pointer (some ⟨g2,0,none⟩)) (hg:Whole 41 w g cs) (hc:w.cell? ⟨g2,0,none⟩= some (.int .i64 n)):(results fn tmps).run Tryz.prog w= .ok (.tuple #[.agg ⟨cs⟩,.int .i64 n]) w:=by
 have F:tmps[p]?.getD undef= .pointer (some ⟨g,0,none⟩):=by simpa using hp
 have G:tmps[q]?.getD undef= .pointer (some ⟨g2,0,none⟩):=by simpa using hq
 have A:=run_loadVar_mid (P:=Tryz.prog) w g 0 41 cs _ hg.range Tryz.underlying41 rfl (by rw[hl];kernel_rfl);have C:(loadVar 33 ⟨g2,0,none⟩).run Tryz.prog w= .ok (.int .i64 n) w:=by simp[go_sem,loadVar,hc,Tryz.isAgg33]
 simp[results,h,F,G,asAddr,A,C]
def TopT (r:Option TT) (w:World) (e:Ending) (w':World):Prop:=
 (∃ t cs,r= some t/\e= .returned (.tuple #[.agg ⟨cs⟩,.int .i64 0])/\TypAt w' w'.heap.size cs t/\Below w.heap.size w w')\/(∃ n,r= none/\n≠0/\e= .returned (.tuple #[.agg ⟨zT3⟩,.int .i64 n])/\Below w.heap.size w w')
structure TS (w W:World) (q r:Nat):Prop where
 wt:Whole 41 W q zT3
 we:Whole 33 W r [.int .i64 0]
 bel:Below w.heap.size w W
 qlo:w.heap.size<=q
 rlo:w.heap.size<=r
 ne:q≠r
theorem TS.next {w W W':World} {q r:Nat} (h:TS w W q r) (hb:Below W.heap.size W W'):TS w W' q r:=
 ⟨h.wt.keep (hb.block _ h.wt.lt),h.we.keep (hb.block _ h.we.lt),(beT h.bel hb),h.qlo,h.rlo,h.ne⟩
theorem KeptT.low {w y:World} {cs:List Value} {t:TT} (h:TypAt w w.heap.size cs t) (hb:Below w.heap.size w y):KeptT (fun b=>b < w.heap.size) y cs t:=TypAt.cells (h.more hb.size) fun a v hv=>by
 have hlt:a.block < w.heap.size:=by
  rcases Nat.lt_or_ge a.block w.heap.size with h|h
  ·exact h
  ·unfold World.cell? at hv;rw[Array.getElem?_eq_none h] at hv;cases hv
 exact zu.2 ⟨hlt,(World.cell?_of_block (hb.block _ hlt)).trans hv⟩
def joinW (a b:TT):Option TT:=if(typeT a && typeT b)= true then joinT a b else none
theorem zcZ (a b:TT):isT a b= match joinW a b with|some t=>sameT t b|none=>false:=by
 unfold isT joinW;cases typeT a && typeT b
 ·rfl
 ·rw[if_pos rfl,Bool.true_and]
  all_goals cases joinT a b<;>rfl
theorem zbO (a b:TT) (ca cb:List Value) (w:World) (ha:TypAt w w.heap.size ca a) (hb:TypAt w w.heap.size cb b):Calls Tryz.prog 86 #[.agg ⟨ca⟩,.agg ⟨cb⟩] w (TopT (joinW a b) w):=by
 have b2:=I ha;have b3:=I hb;have a4:=I (zl ha).1;have b6:=I (zl hb).1;have e3:∀ (fn:Fn) (first cap:Array Value) (w:World),(Instr.makeFunc fn first cap).run Tryz.prog w= .ok (.func fn first cap) w:=fun _ _ _ _=>rfl;clear ha hb
 go_enter_defers Tryz.func86,Tryz.ntmps86
 go_upto_region 1 with (fail);have d0:(#[Value.int IntKind.i64 0,Value.slice none 0 0,Value.slice none 0 0]:Array Value)= zT3.toArray:=rfl;rw[d0];clear d0;have g1:=zc w (.cells ⟨ca⟩ 41);have h1:=Whole.new w ca 41;have s1:(w.alloc (.cells ⟨ca⟩ 41)).heap.size= w.heap.size+1:=by simp
 generalize w.alloc (.cells ⟨ca⟩ 41)= W1 at*;have g2:=zc W1 (.cells ⟨cb⟩ 41);have h2:=Whole.new W1 cb 41;have s2:(W1.alloc (.cells ⟨cb⟩ 41)).heap.size= w.heap.size+1+1:=by simp[s1]
 generalize W1.alloc (.cells ⟨cb⟩ 41)= W2 at*;have g3:=zc W2 (.cells zT3.toArray 41);have h3:=Whole.new W2 zT3 41;have s3:(W2.alloc (.cells zT3.toArray 41)).heap.size= w.heap.size+1+1+1:=by simp[s2]
 generalize W2.alloc (.cells zT3.toArray 41)= W3 at*;have g4:=zc W3 (.cells #[.int .i64 0] 33);have h4:=Whole.new W3 [.int .i64 0] 33;generalize W3.alloc (.cells #[.int .i64 0] 33)= W at*;rw[s1] at h2;rw[s2] at h3;rw[s3] at h4;have g12:=(beT g1 g2);have g13:=(beT g12 g3);have a0:=I (((h1.keep (g2.block _ (by omega))).keep (g3.block _ (by omega))).keep (g4.block _ (by omega)));have G:=I ((h2.keep (g3.block _ (by omega))).keep (g4.block _ (by omega)));have N:Hid (TS w W (w.heap.size+1+1) (w.heap.size+1+1+1)):=I ⟨h3.keep (g4.block _ (by omega)),h4,(beT g13 g4),by omega,by omega,by omega⟩
 (try simp only[s1,s2,s3])
 clear g1 g2 g3 g4 g12 g13 h1 h2 h3 h4 s1 s2 s3;have a8:=I (z0D a ca W ((b2.o.under N.o.bel).more N.o.bel.size));have b0:=I (fun z (hz:Below W.heap.size W z)=>z0D b cb z ((b3.o.under (beT N.o.bel hz)).more (beT N.o.bel hz).size));obtain⟨ta,a5⟩:∃ x,typeT a= x:=⟨_,rfl⟩;obtain⟨tb,a6⟩:∃ x,typeT b= x:=⟨_,rfl⟩;have b7:Hid (Calls Tryz.prog 30 #[.agg ⟨ca⟩] W fun e w'=>e= .returned (.bool ta)/\Below W.heap.size W w'):=I (by rw[← a5];exact a8.o);have b8:Hid (∀ z,Below W.heap.size W z->Calls Tryz.prog 30 #[.agg ⟨cb⟩] z fun e w'=>e= .returned (.bool tb)/\Below z.heap.size z w'):=I (by rw[← a6];exact b0.o);have a3:Hid (joinW a b= if(ta && tb)= true then joinT a b else none):=I (by rw[← a5,← a6];rfl);have a9:=I a5;have b1:=I a6;clear a5 a6 a8 b0;cases ta with
 |false=>
  go_wp2_with (first|((with_reducible refine za tyK41 _ rfl ?_ a0.o.range rfl a4.o ?_);exact wA rfl)|(go_at_call 30;first|(with_reducible refine b7.o.mono ?_;rintro e z ⟨rfl,hb⟩;have F:=I hb;have O:=I (G.o.keep (hb.block _ G.o.lt));clear hb)|(with_reducible refine zi (b8.o _ F.o) ?_;intro y a2))|(go_at_call 109;refine zd (z06 2 _) ?_));have g:=I (N.o.next F.o);have K:Hid (w.heap.size+1+1≠w.heap.size+1+1+1):=I g.o.ne;refine leaves_cons (f:=108) (args:= #[.pointer (some ⟨w.heap.size+1+1,0,none⟩),.pointer (some ⟨w.heap.size+1+1+1,0,none⟩)]) (by simp) (by simp[go_sem]) ?_;refine(z17 (w.heap.size+1+1) (w.heap.size+1+1+1) 2 0 33 [] _ g.o.wt g.o.we K.o).mono ?_;rintro e u' a7 ⟨rfl,rfl,hq,hr,hb⟩;exact⟨_,z0F rfl _ _ (w.heap.size+1+1) (w.heap.size+1+1+1) zT3 2 rfl rfl rfl hq hr,.inr ⟨2,a3.o,by decide,rfl,g.o.bel.trans (hb.below (B:=w.heap.size) g.o.bel.size g.o.qlo g.o.rlo)⟩⟩
 |true=>
 cases tb with
 |false=>
  go_wp2_with (first|((with_reducible refine za tyK41 _ rfl ?_ a0.o.range rfl a4.o ?_);exact wA rfl)|(go_at_call 30;first|(with_reducible refine b7.o.mono ?_;rintro e z ⟨rfl,hb⟩;have F:=I hb;have O:=I (G.o.keep (hb.block _ G.o.lt));clear hb)|(with_reducible refine zi (b8.o _ F.o) ?_;intro y a2))|((with_reducible refine za tyK41 _ rfl ?_ O.o.range rfl b6.o ?_);exact wA rfl)|(go_at_call 109;refine zd (z06 2 _) ?_));have g:=I ((N.o.next F.o).next a2.o);have K:Hid (w.heap.size+1+1≠w.heap.size+1+1+1):=I g.o.ne;refine leaves_cons (f:=108) (args:= #[.pointer (some ⟨w.heap.size+1+1,0,none⟩),.pointer (some ⟨w.heap.size+1+1+1,0,none⟩)]) (by simp) (by simp[go_sem]) ?_;refine(z17 (w.heap.size+1+1) (w.heap.size+1+1+1) 2 0 33 [] _ g.o.wt g.o.we K.o).mono ?_;rintro e u' a7 ⟨rfl,rfl,hq,hr,hb⟩;exact⟨_,z0F rfl _ _ (w.heap.size+1+1) (w.heap.size+1+1+1) zT3 2 rfl rfl rfl hq hr,.inr ⟨2,a3.o,by decide,rfl,g.o.bel.trans (hb.below (B:=w.heap.size) g.o.bel.size g.o.qlo g.o.rlo)⟩⟩
 |true=>
  go_upto_region 3 with (first|((with_reducible refine za tyK41 _ rfl ?_ a0.o.range rfl a4.o ?_);exact wA rfl)|(go_at_call 30;first|(with_reducible refine b7.o.mono ?_;rintro e z ⟨rfl,hb⟩;have F:=I hb;have O:=I (G.o.keep (hb.block _ G.o.lt));clear hb)|(with_reducible refine zi (b8.o _ F.o) ?_;intro y a2))|((with_reducible refine za tyK41 _ rfl ?_ O.o.range rfl b6.o ?_);exact wA rfl)|(go_at_call 109;refine zd (z0q 2 _) ?_));have b4:Hid (Below W.heap.size W y):=I (beT F.o a2.o);have C:=I (N.o.next b4.o);have c6:=I (a0.o.keep (b4.o.block _ a0.o.lt));have c7:=I (G.o.keep (b4.o.block _ G.o.lt));have d2:=I (KeptT.low b2.o C.o.bel);have d3:=I (KeptT.low b3.o C.o.bel);have HJ:=I (z2E a b (z3k a9.o) (z3k b1.o) (z5X a9.o) (z5X b1.o) _ ca cb y (fun b hb=>Nat.lt_of_lt_of_le hb C.o.bel.size) d2.o d3.o);have d6:Hid (w.heap.size+1+1+1 < y.heap.size):=I C.o.we.lt;go_wp2_with (first|((with_reducible refine za tyK41 _ rfl ?_ c6.o.range rfl a4.o ?_);exact wA rfl)|((with_reducible refine za tyK41 _ rfl ?_ c7.o.range rfl b6.o ?_);exact wA rfl)|(go_at_call 112;fail));refine HJ.o.mono ?_;rintro e z2 (⟨t,cs,hr,rfl,hk,hb⟩|⟨hr,rfl,hb⟩)
  ·have A:=I (C.o.next hb)
   have b5:=I (zl hk.typ).1;have d4:=I (zl hk.typ).2;have HK:=I hk;have Y:Hid (joinW a b= some t):=I (a3.o.trans hr);have d5:Hid (∀ b,(b < w.heap.size\/y.heap.size<=b)->b≠w.heap.size+1+1/\b≠w.heap.size+1+1+1):=I fun b hb=>by
    have h1:=d6.o;rcases hb with h|h
    ·exact⟨by omega,by omega⟩
    ·exact⟨by omega,by omega⟩
   clear hk hr hb;go_wp2_with (((with_reducible refine z0T 41 _ _ rfl rfl ?_ (w.heap.size+1+1) zT3 cs A.o.wt ?_ ?_ ?_ ?_ ?_ ?_);(exact wA rfl);rw[b5.o];rfl;rfl;rfl;rw[b5.o];kernel_rfl;exact d4.o;intro Z hz hb;have d7:=I hz;have X:=I hb;have c5:Whole 33 Z (w.heap.size+1+1+1) [.int .i64 0]:=A.o.we.keep (hb.block _ A.o.we.lt (Ne.symm A.o.ne) (Ne.symm A.o.ne));have c0:Z.cell? ⟨w.heap.size+1+1+1,0,none⟩= some (.int .i64 0):=c5.cells 0 rfl;have f0:Z.frozen? ⟨w.heap.size+1+1+1,0,none⟩= false:=c5.thaw' 0;clear hz hb c5));have d8:(Z.setCell ⟨w.heap.size+1+1+1,0,none⟩ (.int .i64 0)).cell? ⟨w.heap.size+1+1+1,0,none⟩= some (.int .i64 0):=World.cell?_setCell_same _ _ _ (by rw[c0]);have b9:∀ b,b≠w.heap.size+1+1+1->(Z.setCell ⟨w.heap.size+1+1+1,0,none⟩ (.int .i64 0)).heap[b]?= Z.heap[b]?:=fun b h=>Below.heap_setCell Z ⟨w.heap.size+1+1+1,0,none⟩ _ b h;have e6:(Z.setCell ⟨w.heap.size+1+1+1,0,none⟩ (.int .i64 0)).heap.size= Z.heap.size:=by simp[World.setCell]
   have c4:(Z.setCell ⟨w.heap.size+1+1+1,0,none⟩ (.int .i64 0)).os= Z.os/\(Z.setCell ⟨w.heap.size+1+1+1,0,none⟩ (.int .i64 0)).tape= Z.tape/\(Z.setCell ⟨w.heap.size+1+1+1,0,none⟩ (.int .i64 0)).output= Z.output:=⟨rfl,rfl,rfl⟩;have K:Hid (w.heap.size+1+1≠w.heap.size+1+1+1):=I A.o.ne;generalize Z.setCell ⟨w.heap.size+1+1+1,0,none⟩ (.int .i64 0)= Z3 at*;refine leaves_cons (f:=108) (args:= #[.pointer (some ⟨w.heap.size+1+1,0,none⟩),.pointer (some ⟨w.heap.size+1+1+1,0,none⟩)]) (by simp) (by simp[go_sem]) ?_;refine(z4w (w.heap.size+1+1) (w.heap.size+1+1+1) _).mono ?_;rintro e u' a7 ⟨rfl,rfl,rfl⟩;have hZ:=X.o.size;have h4:=A.o.bel.size;have e4:=A.o.qlo;have e5:=A.o.rlo;have hW:Whole 41 a7 (w.heap.size+1+1) cs:=d7.o.keep (b9 _ K.o);refine⟨_,z0F rfl _ _ (w.heap.size+1+1) (w.heap.size+1+1+1) cs 0 b5.o rfl rfl hW d8,.inl ⟨t,cs,Y.o,rfl,(HK.o.to (q:=fun _=>True) (fun b hp hlt=>⟨trivial,?_⟩) (by omega)).typ,?_⟩⟩
   ·have h6:=(d5.o b hp)
    exact(b9 b h6.2).trans (X.o.block b hlt h6.1 h6.1)
   ·exact⟨c4.1.trans (X.o.os.trans A.o.bel.os),c4.2.1.trans (X.o.tape.trans A.o.bel.tape),c4.2.2.trans (X.o.output.trans A.o.bel.output),by omega,fun b hlt=>(b9 b (by omega)).trans ((X.o.block b (by omega) (by omega) (by omega)).trans (A.o.bel.block b hlt))⟩
  ·have Y:Hid (joinW a b= none):=I (a3.o.trans hr)
   go_wp2;have g:=I (C.o.next hb);have K:Hid (w.heap.size+1+1≠w.heap.size+1+1+1):=I g.o.ne;refine leaves_cons (f:=108) (args:= #[.pointer (some ⟨w.heap.size+1+1,0,none⟩),.pointer (some ⟨w.heap.size+1+1+1,0,none⟩)]) (by simp) (by simp[go_sem]) ?_;refine(z17 (w.heap.size+1+1) (w.heap.size+1+1+1) 6 0 33 [] _ g.o.wt g.o.we K.o).mono ?_;rintro e u' a7 ⟨rfl,rfl,hq,hr,hb⟩;exact⟨_,z0F rfl _ _ (w.heap.size+1+1) (w.heap.size+1+1+1) zT3 6 rfl rfl rfl hq hr,.inr ⟨6,Y.o,by decide,rfl,g.o.bel.trans (hb.below (B:=w.heap.size) g.o.bel.size g.o.qlo g.o.rlo)⟩⟩
theorem TopT.yes {r:Option TT} {t:TT} (hr:r= some t) {w:World} {e:Ending} {w':World} (h:TopT r w e w'):∃ cs,e= .returned (.tuple #[.agg ⟨cs⟩,.int .i64 0])/\TypAt w' w'.heap.size cs t/\Below w.heap.size w w':=by
 rcases h with ⟨t',cs,h1,h2,h3,h4⟩|⟨n,h1,_⟩
 ·rw[hr] at h1;injection h1 with h1;subst h1;exact⟨cs,h2,h3,h4⟩
 ·rw[hr] at h1;cases h1
theorem TopT.no {r:Option TT} (hr:r= none) {w:World} {e:Ending} {w':World} (h:TopT r w e w'):∃ n,(n ==0)= false/\e= .returned (.tuple #[.agg ⟨zT3⟩,.int .i64 n])/\Below w.heap.size w w':=by
 rcases h with ⟨t',cs,h1,h2,h3,h4⟩|⟨n,h1,h2,h3,h4⟩
 ·rw[hr] at h1;cases h1
 ·exact⟨n,by simpa using h2,h3,h4⟩
theorem z91 (a b:TT) (ca cb:List Value) (w:World) (ha:TypAt w w.heap.size ca a) (hb:TypAt w w.heap.size cb b):Calls Tryz.prog 70 #[.agg ⟨ca⟩,.agg ⟨cb⟩] w fun e w'=>e= .returned (.bool (isT a b))/\Below w.heap.size w w':=by
 have a1:=I ha;have F:=I hb;have a0:=I (zl ha).1;have K:=I (zl hb).1;have Y:=I (zcZ a b);clear ha hb;go_enter Tryz.func70,Tryz.ntmps70;go_upto_region 1 with (fail);have g1:=zc w (.cells ⟨ca⟩ 41);have h1:=Whole.new w ca 41;have s1:(w.alloc (.cells ⟨ca⟩ 41)).heap.size= w.heap.size+1:=by simp
 generalize w.alloc (.cells ⟨ca⟩ 41)= W1 at*;have g2:=zc W1 (.cells ⟨cb⟩ 41);have h2:=Whole.new W1 cb 41;generalize W1.alloc (.cells ⟨cb⟩ 41)= W at*;rw[s1] at h2;have a2:=I (h1.keep (g2.block _ (by omega)));have C:=I h2;have g:=I (beT g1 g2)
 (try simp only[s1])
 clear g1 g2 h1 h2 s1;have HJ:=I (zbO a b ca cb W ((a1.o.under g.o).more g.o.size) ((F.o.under g.o).more g.o.size));cases hj:joinW a b with
 |none=>
  have HV:Hid (isT a b= false):=I (by rw[Y.o,hj]);go_wp2_with (first|((with_reducible refine za tyK41 _ rfl ?_ a2.o.range rfl a0.o ?_);exact wA rfl)|((with_reducible refine za tyK41 _ rfl ?_ C.o.range rfl K.o ?_);exact wA rfl)|(go_at_call 86;refine HJ.o.mono ?_;rintro e z he;obtain⟨n,b4,rfl,hb⟩:=he.no hj;have G:=I hb;clear hb he)|((with_reducible refine z1v 41 _ _ rfl ?hwx7 z ?zz7 (zT3) ?hwld7 ?hz7 ?hx7 ?hy7 ?hi7 ?h17 ?_);(case hwld7=>rfl);(case hx7=>rfl);(case hy7=>rfl);(case hwx7=>(exact wA rfl));(case hz7=>rfl);(case hi7=>kernel_rfl);(case h17=>exact(zJ _ _ _ _ _ _ _));intro Z hZ;have N:=I hZ;clear hZ));go_ret;exact⟨z8 HV.o.symm,g.o.trans ((beT G.o N.o.below).mono g.o.size)⟩
 |some t=>
  have HV:Hid (isT a b= sameT t b):=I (by rw[Y.o,hj]);go_upto_region 2 with (first|((with_reducible refine za tyK41 _ rfl ?_ a2.o.range rfl a0.o ?_);exact wA rfl)|((with_reducible refine za tyK41 _ rfl ?_ C.o.range rfl K.o ?_);exact wA rfl)|(go_at_call 86;refine HJ.o.mono ?_;rintro e z he;obtain⟨cs,rfl,ht,hb⟩:=he.yes hj;have G:=I hb;have b0:=I ht;have X:=I (zl ht).1;have a7:=I (zl ht).2;clear hb ht he)|((with_reducible refine zW tyK41 _ _ rfl ?_ z X.o a7.o rfl ?_ ?_ ?_ ?_);exact wA rfl;rfl;rfl;rfl;intro Z N));have O:Hid (Below W.heap.size W Z):=I (beT G.o N.o.below);have A:Hid (Below w.heap.size w Z):=I (beT g.o O.o);have a3:=I (C.o.keep (O.o.block _ C.o.lt));have a9:=I (zbX t b cs cb Z ((b0.o.under N.o.below).more N.o.below.size) ((F.o.under A.o).more A.o.size));have a8:=I N.o.range;clear hj;go_wp2_with (first|((with_reducible refine za tyK41 _ rfl ?_ a8.o rfl X.o ?_);exact wA rfl)|((with_reducible refine za tyK41 _ rfl ?_ a3.o.range rfl K.o ?_);exact wA rfl)|(go_at_call 87;refine zi (a9.o) ?_;intro y a6));go_ret;exact⟨z8 HV.o.symm,(beT A.o a6.o)⟩
end
end Go.Proofs.YtdjfpcmlffekkaaGreatDoor
