/- Parts of a proof: WellT, Aw14P, TTop. -/
import Derived.Test.YtdjfpcmlffekkaaGreatDoorPackL4
import Derived.Test.YtdjfpcmlffekkaaGreatDoorPackL12
import Derived.Test.YtdjfpcmlffekkaaGreatDoorPackL25
import Derived.Test.YtdjfpcmlffekkaaGreatDoorPackL28
import Derived.Test.YtdjfpcmlffekkaaGreatDoorPackL37
import Derived.Test.YtdjfpcmlffekkaaGreatDoorPackL40
set_option maxHeartbeats 8000000
set_option maxRecDepth 100000
set_option linter.unusedVariables false
set_option linter.unusedSimpArgs false
namespace Go.Proofs.YtdjfpcmlffekkaaGreatDoor
section
open Go Go.RowKit P
def isT (a b:TT):Bool:=(typeT a && typeT b) && match joinT a b with
 |some t=>sameT t b
 |none=>false
def mayE (E:List VarT) (x:ET):Bool:=E.all (fun v=>typeT v.type) && z0i x
def chkE (E:List VarT) (x:ET):Option TT:=if mayE E x= true then(match z07 E x with| .ok t=>some t| .error _=>none) else none
def isE (E:List VarT) (x:ET) (t:TT):Bool:=match chkE E x with
 |some u=>isT u t
 |none=>false
section
variable (m:ModelT) (x:NodeT)
def ownW (x:NodeT):TT:=if 0<=x.var then(match m.vars[x.var.toNat]? with|some v=>v.type|none=>pT 0) else pT 0
def keyW (x:NodeT):TT:=if 0<=x.msg then(match m.msgs[x.msg.toNat]? with|some v=>v.key|none=>pT 0) else pT 0
def bodyW (x:NodeT):TT:=if 0<=x.msg then(match m.msgs[x.msg.toNat]? with|some v=>v.body|none=>pT 0) else pT 0
def kindB (x:NodeT):Bool:=
 if x.kind= 3 then isE m.vars x.expr (ownW m x)
 else if x.kind= 9\/x.kind= 11 then isE m.vars x.expr (keyW m x) && isT (bodyW m x) (ownW m x)
 else if x.kind= 10 then isE m.vars x.expr (keyW m x) && isE m.vars x.body (bodyW m x)
 else if x.kind= 12 then isE m.vars x.expr (ownW m x) && ((z0r x.body).2 && fitT (z0r x.body).1 (ownW m x))
 else true
def zM (x:NodeT):Bool:=x.conds.all (fun c=>isE m.vars c (pT 1)) && kindB m x
end
theorem zbR {n:Nat} {R:Rel} {m:ModelT} {x:NodeT} (h:z0S n R m x= true):(0<=x.var->x.var < m.vars.length)/\(0<=x.msg->x.msg < m.msgs.length):=by
 unfold z0S at h
 split at h
 ·cases h
 ·simp only[Bool.and_eq_true] at h
  have h1:=h.2.2.2.2.2.2.1
  have h2:=h.2.2.2.2.2.2.2
  unfold numB at h1 h2
  constructor
  ·intro h0
   split at h1
   ·simp only[Bool.and_eq_true,decide_eq_true_eq] at h1;exact h1.2
   ·simp only[beq_iff_eq] at h1;omega
  ·intro h0
   split at h2
   ·simp only[Bool.and_eq_true,decide_eq_true_eq] at h2;exact h2.2
   ·simp only[beq_iff_eq] at h2;omega
end
section
open Go Go.RowKit P
def nd14 (k:Int) (nx:List Int):NodeT:=⟨k,0,nx,[],ez,ez, -1, -1, -1,0,0⟩
def m14 (l:List NodeT):ModelT:=⟨1,[],[],[],[],l⟩
theorem zeF:wellM (m14 [nd14 1 [1],nd14 2 []]) (zM (m14 [nd14 1 [1],nd14 2 []]))=[]:=by decide +kernel
theorem zex:wellM (m14 [nd14 1 [0],nd14 2 []]) (zM (m14 [nd14 1 [0],nd14 2 []]))=[(5,0)]:=by decide +kernel
theorem zf4:wellM (m14 [nd14 2 []]) (zM (m14 [nd14 2 []]))=[(7, -1)]:=by decide +kernel
theorem zaZ:z0j (pT 2)= true:=by decide +kernel
theorem zbW:z0j (pT 7)= false:=by decide +kernel
end
section
open Go Go.RowKit
theorem z1a (q r:Nat) (n m:Int) (T:TypeId) (older:List PanicEntry) (w:World) (hq:Whole 41 w q zT3) (hr:Whole T w r [.int .i64 m]) (hqr:q≠r):
  CallsD Tryz.prog 108 #[.pointer (some ⟨q,0,none⟩),.pointer (some ⟨r,0,none⟩)] (.panicking ({ v:= .iface 33 (.int .i64 n),recovered:=false }::older)) w fun e u' w'=>
   e= .returned (.tuple #[])/\u'= .panicking ({ v:= .iface 33 (.int .i64 n),recovered:=true }::older)/\Whole 41 w' q zT3/\w'.cell? ⟨r,0,none⟩= some (.int .i64 n)/\But w w' q r:=by
 have HQ:=I hq
 have HR:=I hr
 have hrf:w.frozen? ⟨r,0,none⟩= false:=by have:=Whole.thaw' hr 0;exact this
 have hta:∀ (S:TypeId) (W:World),(Instr.typeAssert (.iface 33 (.int .i64 n)) S 33 true).run Tryz.prog W= .ok (.tuple #[.int .i64 n,.bool true]) W:=fun S W=>by kernel_rfl
 refine callsD_of_wpS Tryz.func108 rfl fun c₀ cs hu=> ?_
 apply wpS_seq
 apply wpS_region
 simp[wpOpsS,go_sem,recoverD,hu,hta,Tryz.ntmps108,Exit.thenS,Array.replicate]
 refine wpS_of_wp ?_
 clear hta hrf hq hr hu
 go_wp2_with ((with_reducible refine zf 41 _ _ rfl rfl ?_ q zT3 zT3 HQ.o ?_ ?_ ?_ ?_ ?_ ?_);(exact wA rfl);rfl;rfl;rfl;kernel_rfl;exact zI _ _ _ _ _ _ _;intro Z hz hb;have HX:=I hz;have HXB:=I hb;have hr2:Whole T Z r [.int .i64 m]:=HR.o.keep (hb.block r HR.o.lt (Ne.symm hqr) (Ne.symm hqr));have c0:Z.cell? ⟨r,0,none⟩= some (.int .i64 m):=hr2.cells 0 rfl;have f0:Z.frozen? ⟨r,0,none⟩= false:=hr2.thaw' 0;clear hz hb hr2)
 refine⟨rfl,_,rfl,_,results_none rfl _ _ _,rfl,rfl,?_,World.cell?_setCell_same _ _ _ (by rw[c0]),?_⟩
 ·exact HX.o.keep (Below.heap_setCell Z ⟨r,0,none⟩ _ q hqr)
 ·exact⟨HXB.o.os,HXB.o.tape,HXB.o.output,by have:=HXB.o.size;simpa [World.setCell] using this,fun b hb h1 h2=>(Below.heap_setCell Z ⟨r,0,none⟩ _ b h2).trans (HXB.o.block b hb h1 h1)⟩
theorem z4C (q r:Nat) (w:World):
  CallsD Tryz.prog 108 #[.pointer (some ⟨q,0,none⟩),.pointer (some ⟨r,0,none⟩)] .returning w fun e u' w'=>e= .returned (.tuple #[])/\u'= .returning/\w'= w:=by
 have hta:∀ (S:TypeId) (W:World),(Instr.typeAssert .nilIface S 33 true).run Tryz.prog W= .ok (.tuple #[.int .i64 0,.bool false]) W:=fun S W=>by kernel_rfl
 refine callsD_of_wpS Tryz.func108 rfl fun c₀ cs hu=> ?_
 apply wpS_seq
 apply wpS_region
 simp[wpOpsS,go_sem,recoverD,hu,hta,Tryz.ntmps108,Exit.thenS,Array.replicate]
 refine wpS_of_wp ?_
 clear hta
 go_wp2
 refine⟨rfl,_,?_,_,results_none rfl _ _ _,rfl,rfl,rfl⟩
 cases c₀
 simp only at hu
 subst hu
 rfl
theorem z0I {fn:Func} {p q:Tmp} (h:fn.results= #[.cell p 41,.cell q 33]) (tmps:Array Value) (w:World) (g g2:Nat) (cs:List Value) (n:Int) (hl:cs.length= 3)
  (hp:tmps.getD p undef= .pointer (some ⟨g,0,none⟩)) (hq:tmps.getD q undef= .pointer (some ⟨g2,0,none⟩)) (hg:Whole 41 w g cs) (hc:w.cell? ⟨g2,0,none⟩= some (.int .i64 n)):(results fn tmps).run Tryz.prog w= .ok (.tuple #[.agg ⟨cs⟩,.int .i64 n]) w:=by
 have hp':tmps[p]?.getD undef= .pointer (some ⟨g,0,none⟩):=by simpa using hp
 have hq':tmps[q]?.getD undef= .pointer (some ⟨g2,0,none⟩):=by simpa using hq
 have hl1:=run_loadVar_mid (P:=Tryz.prog) w g 0 41 cs _ hg.range Tryz.underlying41 rfl (by rw[hl];kernel_rfl)
 have hl2:(loadVar 33 ⟨g2,0,none⟩).run Tryz.prog w= .ok (.int .i64 n) w:=by simp[go_sem,loadVar,hc,Tryz.isAgg33]
 simp[results,h,hp',hq',asAddr,hl1,hl2]
def TopT (r:Option TT) (w:World) (e:Ending) (w':World):Prop:=
 (∃ t cs,r= some t/\e= .returned (.tuple #[.agg ⟨cs⟩,.int .i64 0])/\TypAt w' w'.heap.size cs t/\Below w.heap.size w w')\/(∃ n,r= none/\n≠0/\e= .returned (.tuple #[.agg ⟨zT3⟩,.int .i64 n])/\Below w.heap.size w w')
structure TS (w W:World) (q r:Nat):Prop where
 wt:Whole 41 W q zT3
 we:Whole 33 W r [.int .i64 0]
 bel:Below w.heap.size w W
 qlo:w.heap.size<=q
 rlo:w.heap.size<=r
 ne:q≠r
theorem TS.next {w W W':World} {q r:Nat} (h:TS w W q r) (hb:Below W.heap.size W W'):TS w W' q r:=
 ⟨h.wt.keep (hb.block _ h.wt.lt),h.we.keep (hb.block _ h.we.lt),h.bel.trans (hb.mono h.bel.size),h.qlo,h.rlo,h.ne⟩
theorem KeptT.low {w y:World} {cs:List Value} {t:TT} (h:TypAt w w.heap.size cs t) (hb:Below w.heap.size w y):KeptT (fun b=>b < w.heap.size) y cs t:=TypAt.cells (h.more hb.size) fun a v hv=>by
 have hlt:a.block < w.heap.size:=by
  rcases Nat.lt_or_ge a.block w.heap.size with h|h
  ·exact h
  ·unfold World.cell? at hv;rw[Array.getElem?_eq_none h] at hv;cases hv
 exact zp.2 ⟨hlt,(World.cell?_of_block (hb.block _ hlt)).trans hv⟩
def joinW (a b:TT):Option TT:=if(typeT a && typeT b)= true then joinT a b else none
theorem zcR (a b:TT):isT a b= match joinW a b with|some t=>sameT t b|none=>false:=by
 unfold isT joinW
 cases typeT a && typeT b
 ·rfl
 ·rw[if_pos rfl,Bool.true_and]
  all_goals cases joinT a b<;>rfl
theorem zbZ (a b:TT) (ca cb:List Value) (w:World) (ha:TypAt w w.heap.size ca a) (hb:TypAt w w.heap.size cb b):Calls Tryz.prog 86 #[.agg ⟨ca⟩,.agg ⟨cb⟩] w (TopT (joinW a b) w):=by
 have HTYA:=I ha
 have HTYB:=I hb
 have HLA:=I (zk ha).1
 have HLB:=I (zk hb).1
 have hmf:∀ (fn:Fn) (first cap:Array Value) (w:World),(Instr.makeFunc fn first cap).run Tryz.prog w= .ok (.func fn first cap) w:=fun _ _ _ _=>rfl
 clear ha hb
 go_enter_defers Tryz.func86,Tryz.ntmps86
 go_upto_region 1 with (fail)
 have hz3:(#[Value.int IntKind.i64 0,Value.slice none 0 0,Value.slice none 0 0]:Array Value)= zT3.toArray:=rfl
 rw[hz3]
 clear hz3
 have g1:=zd w (.cells ⟨ca⟩ 41)
 have h1:=Whole.new w ca 41
 have s1:(w.alloc (.cells ⟨ca⟩ 41)).heap.size= w.heap.size+1:=by simp
 generalize w.alloc (.cells ⟨ca⟩ 41)= W1 at*
 have g2:=zd W1 (.cells ⟨cb⟩ 41)
 have h2:=Whole.new W1 cb 41
 have s2:(W1.alloc (.cells ⟨cb⟩ 41)).heap.size= w.heap.size+1+1:=by simp[s1]
 generalize W1.alloc (.cells ⟨cb⟩ 41)= W2 at*
 have g3:=zd W2 (.cells zT3.toArray 41)
 have h3:=Whole.new W2 zT3 41
 have s3:(W2.alloc (.cells zT3.toArray 41)).heap.size= w.heap.size+1+1+1:=by simp[s2]
 generalize W2.alloc (.cells zT3.toArray 41)= W3 at*
 have g4:=zd W3 (.cells #[.int .i64 0] 33)
 have h4:=Whole.new W3 [.int .i64 0] 33
 generalize W3.alloc (.cells #[.int .i64 0] 33)= W at*
 rw[s1] at h2
 rw[s2] at h3
 rw[s3] at h4
 have g12:=g1.trans (g2.mono g1.size)
 have g13:=g12.trans (g3.mono g12.size)
 have HWA:=I (((h1.keep (g2.block _ (by omega))).keep (g3.block _ (by omega))).keep (g4.block _ (by omega)))
 have HWB:=I ((h2.keep (g3.block _ (by omega))).keep (g4.block _ (by omega)))
 have HTS:Hid (TS w W (w.heap.size+1+1) (w.heap.size+1+1+1)):=I ⟨h3.keep (g4.block _ (by omega)),h4,g13.trans (g4.mono g13.size),by omega,by omega,by omega⟩
 (try simp only[s1,s2,s3])
 clear g1 g2 g3 g4 g12 g13 h1 h2 h3 h4 s1 s2 s3
 have HTA0:=I (z0C a ca W ((HTYA.o.under HTS.o.bel).more HTS.o.bel.size))
 have HTB0:=I (fun z (hz:Below W.heap.size W z)=>z0C b cb z ((HTYB.o.under (HTS.o.bel.trans (hz.mono HTS.o.bel.size))).more (HTS.o.bel.trans (hz.mono HTS.o.bel.size)).size))
 obtain⟨ta,hta⟩:∃ x,typeT a= x:=⟨_,rfl⟩
 obtain⟨tb,htb⟩:∃ x,typeT b= x:=⟨_,rfl⟩
 have HTA:Hid (Calls Tryz.prog 30 #[.agg ⟨ca⟩] W fun e w'=>e= .returned (.bool ta)/\Below W.heap.size W w'):=I (by rw[← hta];exact HTA0.o)
 have HTB:Hid (∀ z,Below W.heap.size W z->Calls Tryz.prog 30 #[.agg ⟨cb⟩] z fun e w'=>e= .returned (.bool tb)/\Below z.heap.size z w'):=I (by rw[← htb];exact HTB0.o)
 have HJW:Hid (joinW a b= if(ta && tb)= true then joinT a b else none):=I (by rw[← hta,← htb];rfl)
 have HTAE:=I hta
 have HTBE:=I htb
 clear hta htb HTA0 HTB0
 cases ta with
 |false=>
  go_wp2_with (first|((with_reducible refine za 41 _ rfl ?_ (w.heap.size) (0) (ca) _ rfl HWA.o.range Tryz.underlying41 rfl ?_ ?_);(exact wA rfl);rw[HLA.o];kernel_rfl)|(go_at_call 30;first|(with_reducible refine HTA.o.mono ?_;rintro e z ⟨rfl,hb⟩;have HBY:=I hb;have HWB1:=I (HWB.o.keep (hb.block _ HWB.o.lt));clear hb)|(with_reducible refine(HTB.o _ HBY.o).mono ?_;rintro e y ⟨rfl,hb⟩;have HBX:=I hb;clear hb))|(go_at_call 109;refine(z02 2 _).mono ?_;rintro e z3 ⟨rfl,hzw⟩;rw[hzw];clear hzw z3))
  have HESZ:=I (HTS.o.next HBY.o)
  have HNE:Hid (w.heap.size+1+1≠w.heap.size+1+1+1):=I HESZ.o.ne
  refine leaves_cons (f:=108) (args:= #[.pointer (some ⟨w.heap.size+1+1,0,none⟩),.pointer (some ⟨w.heap.size+1+1+1,0,none⟩)]) (by simp) (by simp[go_sem]) ?_
  refine(z1a (w.heap.size+1+1) (w.heap.size+1+1+1) 2 0 33 [] _ HESZ.o.wt HESZ.o.we HNE.o).mono ?_
  rintro e u' w'' ⟨rfl,rfl,hq,hr,hb⟩
  exact⟨_,z0I rfl _ _ (w.heap.size+1+1) (w.heap.size+1+1+1) zT3 2 rfl rfl rfl hq hr,.inr ⟨2,HJW.o,by decide,rfl,HESZ.o.bel.trans (hb.below (B:=w.heap.size) HESZ.o.bel.size HESZ.o.qlo HESZ.o.rlo)⟩⟩
 |true=>
 cases tb with
 |false=>
  go_wp2_with (first|((with_reducible refine za 41 _ rfl ?_ (w.heap.size) (0) (ca) _ rfl HWA.o.range Tryz.underlying41 rfl ?_ ?_);(exact wA rfl);rw[HLA.o];kernel_rfl)|(go_at_call 30;first|(with_reducible refine HTA.o.mono ?_;rintro e z ⟨rfl,hb⟩;have HBY:=I hb;have HWB1:=I (HWB.o.keep (hb.block _ HWB.o.lt));clear hb)|(with_reducible refine(HTB.o _ HBY.o).mono ?_;rintro e y ⟨rfl,hb⟩;have HBX:=I hb;clear hb))|((with_reducible refine za 41 _ rfl ?_ (w.heap.size+1) (0) (cb) _ rfl HWB1.o.range Tryz.underlying41 rfl ?_ ?_);(exact wA rfl);rw[HLB.o];kernel_rfl)|(go_at_call 109;refine(z02 2 _).mono ?_;rintro e z3 ⟨rfl,hzw⟩;rw[hzw];clear hzw z3))
  have HESZ:=I ((HTS.o.next HBY.o).next HBX.o)
  have HNE:Hid (w.heap.size+1+1≠w.heap.size+1+1+1):=I HESZ.o.ne
  refine leaves_cons (f:=108) (args:= #[.pointer (some ⟨w.heap.size+1+1,0,none⟩),.pointer (some ⟨w.heap.size+1+1+1,0,none⟩)]) (by simp) (by simp[go_sem]) ?_
  refine(z1a (w.heap.size+1+1) (w.heap.size+1+1+1) 2 0 33 [] _ HESZ.o.wt HESZ.o.we HNE.o).mono ?_
  rintro e u' w'' ⟨rfl,rfl,hq,hr,hb⟩
  exact⟨_,z0I rfl _ _ (w.heap.size+1+1) (w.heap.size+1+1+1) zT3 2 rfl rfl rfl hq hr,.inr ⟨2,HJW.o,by decide,rfl,HESZ.o.bel.trans (hb.below (B:=w.heap.size) HESZ.o.bel.size HESZ.o.qlo HESZ.o.rlo)⟩⟩
 |true=>
  go_upto_region 3 with (first|((with_reducible refine za 41 _ rfl ?_ (w.heap.size) (0) (ca) _ rfl HWA.o.range Tryz.underlying41 rfl ?_ ?_);(exact wA rfl);rw[HLA.o];kernel_rfl)|(go_at_call 30;first|(with_reducible refine HTA.o.mono ?_;rintro e z ⟨rfl,hb⟩;have HBY:=I hb;have HWB1:=I (HWB.o.keep (hb.block _ HWB.o.lt));clear hb)|(with_reducible refine(HTB.o _ HBY.o).mono ?_;rintro e y ⟨rfl,hb⟩;have HBX:=I hb;clear hb))|((with_reducible refine za 41 _ rfl ?_ (w.heap.size+1) (0) (cb) _ rfl HWB1.o.range Tryz.underlying41 rfl ?_ ?_);(exact wA rfl);rw[HLB.o];kernel_rfl)|(go_at_call 109;refine(z0k 2 _).mono ?_;rintro e z3 ⟨rfl,hzw⟩;rw[hzw];clear hzw z3))
  have HBW:Hid (Below W.heap.size W y):=I (HBY.o.trans (HBX.o.mono HBY.o.size))
  have HTS2:=I (HTS.o.next HBW.o)
  have HWA2:=I (HWA.o.keep (HBW.o.block _ HWA.o.lt))
  have HWB2:=I (HWB.o.keep (HBW.o.block _ HWB.o.lt))
  have HKA:=I (KeptT.low HTYA.o HTS2.o.bel)
  have HKB:=I (KeptT.low HTYB.o HTS2.o.bel)
  have HJ:=I (z2I a b (z3d HTAE.o) (z3d HTBE.o) (z5V HTAE.o) (z5V HTBE.o) _ ca cb y (fun b hb=>Nat.lt_of_lt_of_le hb HTS2.o.bel.size) HKA.o HKB.o)
  have HRL:Hid (w.heap.size+1+1+1 < y.heap.size):=I HTS2.o.we.lt
  go_wp2_with (first|((with_reducible refine za 41 _ rfl ?_ (w.heap.size) (0) (ca) _ rfl HWA2.o.range Tryz.underlying41 rfl ?_ ?_);(exact wA rfl);rw[HLA.o];kernel_rfl)|((with_reducible refine za 41 _ rfl ?_ (w.heap.size+1) (0) (cb) _ rfl HWB2.o.range Tryz.underlying41 rfl ?_ ?_);(exact wA rfl);rw[HLB.o];kernel_rfl)|(go_at_call 112;fail))
  refine HJ.o.mono ?_
  rintro e z2 (⟨t,cs,hr,rfl,hk,hb⟩|⟨hr,rfl,hb⟩)
  ·have HTS3:=I (HTS2.o.next hb)
   have HCL:=I (zk hk.typ).1
   have HON:=I (zk hk.typ).2
   have HK:=I hk
   have HRES:Hid (joinW a b= some t):=I (HJW.o.trans hr)
   have HPQ:Hid (∀ b,(b < w.heap.size\/y.heap.size<=b)->b≠w.heap.size+1+1/\b≠w.heap.size+1+1+1):=I fun b hb=>by
    have h1:=HRL.o
    rcases hb with h|h
    ·exact⟨by omega,by omega⟩
    ·exact⟨by omega,by omega⟩
   clear hk hr hb
   go_wp2_with (((with_reducible refine zf 41 _ _ rfl rfl ?_ (w.heap.size+1+1) zT3 cs HTS3.o.wt ?_ ?_ ?_ ?_ ?_ ?_);(exact wA rfl);rw[HCL.o];rfl;rfl;rfl;rw[HCL.o];kernel_rfl;exact HON.o;intro Z hz hb;have HXZ:=I hz;have HXB:=I hb;have hr2:Whole 33 Z (w.heap.size+1+1+1) [.int .i64 0]:=HTS3.o.we.keep (hb.block _ HTS3.o.we.lt (Ne.symm HTS3.o.ne) (Ne.symm HTS3.o.ne));have c0:Z.cell? ⟨w.heap.size+1+1+1,0,none⟩= some (.int .i64 0):=hr2.cells 0 rfl;have f0:Z.frozen? ⟨w.heap.size+1+1+1,0,none⟩= false:=hr2.thaw' 0;clear hz hb hr2))
   have hc2:(Z.setCell ⟨w.heap.size+1+1+1,0,none⟩ (.int .i64 0)).cell? ⟨w.heap.size+1+1+1,0,none⟩= some (.int .i64 0):=World.cell?_setCell_same _ _ _ (by rw[c0])
   have hb2:∀ b,b≠w.heap.size+1+1+1->(Z.setCell ⟨w.heap.size+1+1+1,0,none⟩ (.int .i64 0)).heap[b]?= Z.heap[b]?:=fun b h=>Below.heap_setCell Z ⟨w.heap.size+1+1+1,0,none⟩ _ b h
   have hs2:(Z.setCell ⟨w.heap.size+1+1+1,0,none⟩ (.int .i64 0)).heap.size= Z.heap.size:=by simp[World.setCell]
   have hos:(Z.setCell ⟨w.heap.size+1+1+1,0,none⟩ (.int .i64 0)).os= Z.os/\(Z.setCell ⟨w.heap.size+1+1+1,0,none⟩ (.int .i64 0)).tape= Z.tape/\(Z.setCell ⟨w.heap.size+1+1+1,0,none⟩ (.int .i64 0)).output= Z.output:=⟨rfl,rfl,rfl⟩
   have HNE:Hid (w.heap.size+1+1≠w.heap.size+1+1+1):=I HTS3.o.ne
   generalize Z.setCell ⟨w.heap.size+1+1+1,0,none⟩ (.int .i64 0)= Z3 at*
   refine leaves_cons (f:=108) (args:= #[.pointer (some ⟨w.heap.size+1+1,0,none⟩),.pointer (some ⟨w.heap.size+1+1+1,0,none⟩)]) (by simp) (by simp[go_sem]) ?_
   refine(z4C (w.heap.size+1+1) (w.heap.size+1+1+1) _).mono ?_
   rintro e u' w'' ⟨rfl,rfl,rfl⟩
   have hZ:=HXB.o.size
   have h4:=HTS3.o.bel.size
   have hql:=HTS3.o.qlo
   have hrl:=HTS3.o.rlo
   have hW:Whole 41 w'' (w.heap.size+1+1) cs:=HXZ.o.keep (hb2 _ HNE.o)
   refine⟨_,z0I rfl _ _ (w.heap.size+1+1) (w.heap.size+1+1+1) cs 0 HCL.o rfl rfl hW hc2,.inl ⟨t,cs,HRES.o,rfl,(HK.o.to (q:=fun _=>True) (fun b hp hlt=>⟨trivial,?_⟩) (by omega)).typ,?_⟩⟩
   ·have h6:=(HPQ.o b hp)
    exact(hb2 b h6.2).trans (HXB.o.block b hlt h6.1 h6.1)
   ·exact⟨hos.1.trans (HXB.o.os.trans HTS3.o.bel.os),hos.2.1.trans (HXB.o.tape.trans HTS3.o.bel.tape),hos.2.2.trans (HXB.o.output.trans HTS3.o.bel.output),by omega,fun b hlt=>(hb2 b (by omega)).trans ((HXB.o.block b (by omega) (by omega) (by omega)).trans (HTS3.o.bel.block b hlt))⟩
  ·have HRES:Hid (joinW a b= none):=I (HJW.o.trans hr)
   go_wp2
   have HESZ:=I (HTS2.o.next hb)
   have HNE:Hid (w.heap.size+1+1≠w.heap.size+1+1+1):=I HESZ.o.ne
   refine leaves_cons (f:=108) (args:= #[.pointer (some ⟨w.heap.size+1+1,0,none⟩),.pointer (some ⟨w.heap.size+1+1+1,0,none⟩)]) (by simp) (by simp[go_sem]) ?_
   refine(z1a (w.heap.size+1+1) (w.heap.size+1+1+1) 6 0 33 [] _ HESZ.o.wt HESZ.o.we HNE.o).mono ?_
   rintro e u' w'' ⟨rfl,rfl,hq,hr,hb⟩
   exact⟨_,z0I rfl _ _ (w.heap.size+1+1) (w.heap.size+1+1+1) zT3 6 rfl rfl rfl hq hr,.inr ⟨6,HRES.o,by decide,rfl,HESZ.o.bel.trans (hb.below (B:=w.heap.size) HESZ.o.bel.size HESZ.o.qlo HESZ.o.rlo)⟩⟩
theorem TopT.yes {r:Option TT} {t:TT} (hr:r= some t) {w:World} {e:Ending} {w':World} (h:TopT r w e w'):∃ cs,e= .returned (.tuple #[.agg ⟨cs⟩,.int .i64 0])/\TypAt w' w'.heap.size cs t/\Below w.heap.size w w':=by
 rcases h with ⟨t',cs,h1,h2,h3,h4⟩|⟨n,h1,_⟩
 ·rw[hr] at h1;injection h1 with h1;subst h1;exact⟨cs,h2,h3,h4⟩
 ·rw[hr] at h1;cases h1
theorem TopT.no {r:Option TT} (hr:r= none) {w:World} {e:Ending} {w':World} (h:TopT r w e w'):∃ n,(n ==0)= false/\e= .returned (.tuple #[.agg ⟨zT3⟩,.int .i64 n])/\Below w.heap.size w w':=by
 rcases h with ⟨t',cs,h1,h2,h3,h4⟩|⟨n,h1,h2,h3,h4⟩
 ·rw[hr] at h1;cases h1
 ·exact⟨n,by simpa using h2,h3,h4⟩
theorem z9b (a b:TT) (ca cb:List Value) (w:World) (ha:TypAt w w.heap.size ca a) (hb:TypAt w w.heap.size cb b):Calls Tryz.prog 70 #[.agg ⟨ca⟩,.agg ⟨cb⟩] w fun e w'=>e= .returned (.bool (isT a b))/\Below w.heap.size w w':=by
 have HTYA:=I ha
 have HTYB:=I hb
 have HLA:=I (zk ha).1
 have HLB:=I (zk hb).1
 have HIS:=I (zcR a b)
 clear ha hb
 go_enter Tryz.func70,Tryz.ntmps70
 go_upto_region 1 with (fail)
 have g1:=zd w (.cells ⟨ca⟩ 41)
 have h1:=Whole.new w ca 41
 have s1:(w.alloc (.cells ⟨ca⟩ 41)).heap.size= w.heap.size+1:=by simp
 generalize w.alloc (.cells ⟨ca⟩ 41)= W1 at*
 have g2:=zd W1 (.cells ⟨cb⟩ 41)
 have h2:=Whole.new W1 cb 41
 generalize W1.alloc (.cells ⟨cb⟩ 41)= W at*
 rw[s1] at h2
 have HWA:=I (h1.keep (g2.block _ (by omega)))
 have HWB:=I h2
 have HBL:=I (g1.trans (g2.mono g1.size))
 (try simp only[s1])
 clear g1 g2 h1 h2 s1
 have HJ:=I (zbZ a b ca cb W ((HTYA.o.under HBL.o).more HBL.o.size) ((HTYB.o.under HBL.o).more HBL.o.size))
 cases hj:joinW a b with
 |none=>
  have HV:Hid (isT a b= false):=I (by rw[HIS.o,hj])
  go_wp2_with (first|((with_reducible refine za 41 _ rfl ?_ (w.heap.size) (0) (ca) _ rfl HWA.o.range Tryz.underlying41 rfl ?_ ?_);(exact wA rfl);rw[HLA.o];kernel_rfl)|((with_reducible refine za 41 _ rfl ?_ (w.heap.size+1) (0) (cb) _ rfl HWB.o.range Tryz.underlying41 rfl ?_ ?_);(exact wA rfl);rw[HLB.o];kernel_rfl)|(go_at_call 86;refine HJ.o.mono ?_;rintro e z he;obtain⟨n,hn0,rfl,hb⟩:=he.no hj;have HBZ:=I hb;clear hb he)|((with_reducible refine zJ 41 _ _ rfl ?hwx7 z ?zz7 (zT3) ?hwld7 ?hz7 ?hx7 ?hy7 ?hi7 ?h17 ?_);(case hwld7=>rfl);(case hx7=>rfl);(case hy7=>rfl);(case hwx7=>(exact wA rfl));(case hz7=>rfl);(case hi7=>kernel_rfl);(case h17=>exact(zI _ _ _ _ _ _ _));intro Z hZ;have HX:=I hZ;clear hZ))
  go_ret
  exact⟨zb HV.o.symm,HBL.o.trans ((HBZ.o.trans (HX.o.below.mono HBZ.o.size)).mono HBL.o.size)⟩
 |some t=>
  have HV:Hid (isT a b= sameT t b):=I (by rw[HIS.o,hj])
  go_upto_region 2 with (first|((with_reducible refine za 41 _ rfl ?_ (w.heap.size) (0) (ca) _ rfl HWA.o.range Tryz.underlying41 rfl ?_ ?_);(exact wA rfl);rw[HLA.o];kernel_rfl)|((with_reducible refine za 41 _ rfl ?_ (w.heap.size+1) (0) (cb) _ rfl HWB.o.range Tryz.underlying41 rfl ?_ ?_);(exact wA rfl);rw[HLB.o];kernel_rfl)|(go_at_call 86;refine HJ.o.mono ?_;rintro e z he;obtain⟨cs,rfl,ht,hb⟩:=he.yes hj;have HBZ:=I hb;have HTZ:=I ht;have HCL:=I (zk ht).1;have HCO:=I (zk ht).2;clear hb ht he)|((with_reducible refine zJ 41 _ _ rfl ?hwx8 z ?zz8 (cs) ?hwld8 ?hz8 ?hx8 ?hy8 ?hi8 ?h18 ?_);(case hwld8=>rfl);(case hx8=>rfl);(case hy8=>rfl);(case hwx8=>(exact wA rfl));(case hz8=>rw[HCL.o];rfl);(case hi8=>rw[HCL.o];kernel_rfl);(case h18=>exact HCO.o);intro Z hZ;have HX:=I hZ;clear hZ))
  have HBW:Hid (Below W.heap.size W Z):=I (HBZ.o.trans (HX.o.below.mono HBZ.o.size))
  have HBW0:Hid (Below w.heap.size w Z):=I (HBL.o.trans (HBW.o.mono HBL.o.size))
  have HWB2:=I (HWB.o.keep (HBW.o.block _ HWB.o.lt))
  have HSM:=I (zbX t b cs cb Z ((HTZ.o.under HX.o.below).more HX.o.below.size) ((HTYB.o.under HBW0.o).more HBW0.o.size))
  have HRX:=I HX.o.range
  clear hj
  go_wp2_with (first|((with_reducible refine za 41 _ rfl ?_ (z.heap.size) (0) (cs) _ rfl HRX.o Tryz.underlying41 rfl ?_ ?_);(exact wA rfl);rw[HCL.o];kernel_rfl)|((with_reducible refine za 41 _ rfl ?_ (w.heap.size+1) (0) (cb) _ rfl HWB2.o.range Tryz.underlying41 rfl ?_ ?_);(exact wA rfl);rw[HLB.o];kernel_rfl)|(go_at_call 87;refine(HSM.o).mono ?_;rintro e y ⟨rfl,hb⟩;have HBY:=I hb;clear hb))
  go_ret
  exact⟨zb HV.o.symm,HBW0.o.trans (HBY.o.mono HBW0.o.size)⟩
end
end Go.Proofs.YtdjfpcmlffekkaaGreatDoor
