import Derived.Test.YtpmjcbjdcjjplaaGreatDoorPackS43
set_option maxHeartbeats 8000000
set_option maxRecDepth 100000
set_option linter.unusedVariables false
set_option linter.unusedSimpArgs false
theorem Go.Calls.k44 {P:Go.Program} {f:Go.FuncId} {args:Array Go.Value} {w:Go.World} {v:Go.Ending} {R:Go.World->Prop} {Q:Go.Ending->Go.World->Prop} (h:Go.Calls P f args w fun e w'=>e= v/\R w') (k:∀ w',Go.RowKit.Hid (R w')->Q v w'):Go.Calls P f args w Q:=Go.Proofs.YtpmjcbjdcjjplaaGreatDoor.zg h k
theorem Go.Calls.e44 {P:Go.Program} {f:Go.FuncId} {args:Array Go.Value} {w:Go.World} {v:Go.Ending} {Q:Go.Ending->Go.World->Prop} (h:Go.Calls P f args w fun e w'=>e= v/\w'= w) (k:Q v w):Go.Calls P f args w Q:=Go.Proofs.YtpmjcbjdcjjplaaGreatDoor.ze h k
namespace Go.Proofs.YtpmjcbjdcjjplaaGreatDoor
section
open Go Go.RowKit P
def CntMap (D:DataW Unit) (l:List (List UInt8)):Prop:=Go.Maps.IsMap D/\∀ s,D.atKey (.string s) (.lit (.int .i64 0))= .lit (.int .i64 (cntN l s))
theorem z7d:CntMap (.map []) []:=⟨⟨[],rfl⟩,fun s=>rfl⟩
theorem CntMap.put {D:DataW Unit} {l:List (List UInt8)} (h:CntMap D l) (a:List UInt8) (c:Int) (hc:c=(cntN l a:Int)+1):CntMap (D.put (.string a) (.lit (.int .i64 c))) (l ++ [a]):=by
 refine⟨Go.Maps.IsMap.put h.1 _ _,fun s=> ?_⟩;by_cases hs:s= a
 ·subst hs
  rw[Go.Maps.atKey_put_same h.1 (show Go.WideAt.IsKeyLit (.string s) from trivial),z1M,if_pos rfl,hc];rfl
 ·rw[Go.Maps.atKey_put_other (by intro e;injection e with e;exact hs e),h.2 s,z1M,if_neg (fun e=>hs e.symm)]
  rfl
section
open Go.Maps
variable {P:Program} {ops:Array Oper} {rest:List Oper} {o:Oper} {a:Act} {w:World} {Q:Exit->Act->World->Prop} {H:Type}
theorem z1v (m x:Operand) (t:TypeId) (ho:o.op= .lookup t m x false) (hw:Region.wanted o (yielded ops a.tmps)= true) (k e:TypeId) (K:Keyed P k) (ht:P.underlying t= some (.map k e)) (he:P.underlying e= some (.int .i64))
  (hz:(zeroValue e).run P w= .ok (.int .i64 0) w) (b n:Nat) (D:DataW H) (hm:a.eval m= .map (some b)) (hown:w.ownsMap P k (plainElem P e) b n D) (key:Value) (kl:Lit) (hx:a.eval x= key) (hkey:keyOf P k key= some kl)
  (c:Int) (hc:D.atKey kl (.lit (.int .i64 0))= .lit (.int .i64 c)) (h:wpList P ops Q rest (a.put o.dst (.int .i64 c)) w):wpList P ops Q (o::rest) a w:=
 wpList_step fun K' hK=>by
  rw[if_pos hw]
  obtain⟨c',hrun,hat,_⟩:=hown.lookup_int K ht he hz hkey
  have:c'= c:=by
   rw[hc] at hat
   simpa using hat.symm
  subst this;unfold Oper.wp;simp[execOp,ho,hm,hx,hrun,Result.andThen];exact hK _ _ h
theorem z3q {k:TypeId} {R:Value->Option (DataW H × List MemPlace)} {b n:Nat} {D:DataW H} {w w':World} (h:w.ownsMap P k R b n D) (hb:w'.heap[b]?= w.heap[b]?):w'.ownsMap P k R b n D:=by
 obtain⟨es,clock,h1,F,hs,hD⟩:=h;exact⟨es,clock,hb.trans h1,F,hs,hD⟩
end
theorem lawSt:Go.Maps.Keyed Tryz.prog 9:=Go.Maps.string_keyed Tryz.underlying9
theorem z3w (w:World):(zeroValue 3).run Tryz.prog w= .ok (.int .i64 0) w:=by kernel_rfl
theorem keySt (s:ByteArray) (hs:s.size<=maxLen):keyOf Tryz.prog 9 (.string s)= some (.string s.data.toList):=by simp[keyOf,Tryz.underlying9,mapKey,hs]
theorem z3d {w w':World} {b o:Nat} {l:List Value} (h:w.rangeAt b o l) (hb:w'.heap[b]?= w.heap[b]?):w'.rangeAt b o l:=fun i v hv=>(World.cell?_of_block (a:=⟨b,o+i,none⟩) hb).trans (h i v hv)
theorem z2H {w:World} {b:Nat} {l a p r:List Value} (h:w.rangeAt b 0 l) (he:l= a ++ p ++ r) (k:Nat) (hk:a.length= k):w.rangeAt b k p:=fun i v hv=>by
 have:=h (k+i) v (by subst hk;rw[he,List.append_assoc,List.getElem?_append_right (by omega),show a.length+i - a.length= i by omega,List.getElem?_append_left (List.getElem?_eq_some_iff.1 hv).1];exact hv)
 rwa [show 0+ (k+i)= k+i by omega] at this
section
variable {TC TF:TypeId} {W u z Z1 Z2:World} {cb mb':Nat} {mp lp lv lv0:Value} {L:List z03}
theorem CkStep.map (h:CkStep cb u z lv0 lv) (hb:Below z.heap.size z Z1) (hg:Z1.grownBy Z2 (some mb')) (hm:u.heap.size<=mb'):CkStep cb u Z2 lv0 lv:=
 ⟨hg.os.trans (hb.os.trans h.os),hg.tape.trans (hb.tape.trans h.tape),hg.output.trans (hb.output.trans h.output),Nat.le_trans h.size (Nat.le_trans hb.size hg.size),fun b h1 h2 h3=>(hg.block b (Nat.lt_of_lt_of_le h1 (Nat.le_trans h.size hb.size)) (by intro e;injection e with e;omega)).trans ((hb.block b (Nat.lt_of_lt_of_le h1 h.size)).trans (h.block b h1 h2 h3)),h.next⟩
theorem Ck.map (h:Ck TC TF W z cb mp lp lv L) (hb:Below z.heap.size z Z1) (hg:Z1.grownBy Z2 (some mb')) (hm:W.heap.size<=mb') (hne:lv.ownBlock≠some mb'):Ck TC TF W Z2 cb mp lp lv L:=by
 have h1:=h.on hb;refine⟨(hg.block cb (Nat.lt_of_lt_of_le h.lt h1.step.size) (by intro e;injection e with e;have:=h.lt;omega)).trans h1.box,World.ownsRow.kept h1.own hg (.inr hne),h.step.map hb hg hm,h.lt⟩
theorem CkD.of {mb lb:Nat} {w0:World} (h:Ck TC TF W u cb (.pointer (some ⟨mb,0,none⟩)) (.pointer (some ⟨lb,0,none⟩)) lv L) (hw:Below w0.heap.size w0 W) (hcb:w0.heap.size<=cb):CkD mb lb w0 cb u:=
 ⟨hw.trans ((h.below hcb)),h.cells.1 0 _ rfl,h.cells.1 1 _ rfl,h.cells.2.1⟩
theorem CkStep.fresh (h:CkStep cb u z lv0 lv) {b:Nat} (hb:b < u.heap.size) (hl:lv0.ownBlock≠some b):lv.ownBlock≠some b:=by
 rcases h.next with e|⟨g,e,hg⟩
 ·rw[e];exact hl
 ·rw[e];intro e2;injection e2 with e2;omega
end
theorem ze8 {m:ModelT} {mb lb n:Nat} {R:Rel} {w0 W u:World} {OA GA VA MA NA:Option Addr} {oc gc vc mc nc cb:Nat} {lv:Value} {L:List z03} (hs:CkS m mb lb n R w0 OA GA VA MA NA oc gc vc mc nc) (hck:Ck 79 68 W u cb (.pointer (some ⟨mb,0,none⟩)) (.pointer (some ⟨lb,0,none⟩)) lv L) (hw:Below w0.heap.size w0 W) (hcb:w0.heap.size<=cb) (hL:L.length<=500) (hfew:m.vars.length<=100):
  Calls Tryz.prog 24 #[.pointer (some ⟨cb,0,none⟩)] u fun e u'=>e= .returned (.tuple #[])/\∃ lv',Ck 79 68 W u' cb (.pointer (some ⟨mb,0,none⟩)) (.pointer (some ⟨lb,0,none⟩)) lv' (L ++ upto (varF n R m) m.vars.length)/\CkStep cb u u' lv lv':=by
 have HS:=I hs;have f3:=I hw;have e6:=I hcb;have k5:=I hL;have m4:(m.vars.length:Int)<=100:=by omega
 obtain⟨-,m7,n4,e1,e4⟩:=id hs.vars;injection e1 with e1 e2 e3;subst e1 e3;have i3:=I e4;have f1:Hid (lv.ownBlock≠some u.heap.size):=I fun e=>by have:=z0y hck.own e;omega
 have i7:Hid (W.heap.size<=u.heap.size):=I hck.step.size;have g5:=I (zc u (.map #[] 0));have k6:Hid ((u.alloc (.map #[] 0)).ownsMap Tryz.prog 9 (Go.plainElem Tryz.prog 3) u.heap.size 0 (.map []:DataW Unit)):=I (World.ownsMap_made u _ _ _);have d4:=I (hck.on g5.o);have i5:Hid (CkStep cb u (u.alloc (.map #[] 0)) lv lv):=I (CkStep.of g5.o cb lv);have l5:Hid ((u.alloc (.map #[] 0)).heap.size= u.heap.size+1):=I (by simp);have n0:= @run_makeMap Tryz.prog;clear hs hw hcb hL hck e4 e2;go_enter Tryz.func24,Tryz.ntmps24;go_upto_region 1 with (fail);generalize u.alloc (.map #[] 0)= U at*;have g7:=I (CkD.of d4.o f3.o e6.o);have d0:=g7.o.c0;have d3:=HS.o.cell g7.o.bel (j:=3) rfl;go_wp2;clear d0 d3;go_loopg [14] m.vars.length (fun q y z=>∃ (j:Nat) (lv1:Value) (D:DataW Unit),j+q= m.vars.length/\y= .int .i64 j/\Ck 79 68 W z cb (.pointer (some ⟨mb,0,none⟩)) (.pointer (some ⟨lb,0,none⟩)) lv1 (L ++ upto (varF n R m) j)/\CkStep cb u z lv lv1/\z.ownsMap Tryz.prog 9 (Go.plainElem Tryz.prog 3) u.heap.size j D/\CntMap D ((m.vars.take j).map (·.name.data.toList))/\lv1.ownBlock≠some u.heap.size/\u.heap.size < z.heap.size);case atStart=>exact⟨0,lv,_,by omega,rfl,by rw[z3i,List.append_nil];exact d4.o,i5.o,k6.o,by simpa using z7d,f1.o,by have:=l5.o;omega⟩
 case round=>
  obtain⟨j,lv1,D,hj,rfl,hck,X,j4,j0,j5,e0⟩:=hrel;have c5:=I hck;have i4:=I X;have k8:=I j4;have g6:=I j0;have f0:=I j5;have e9:=I e0;clear hck X j4 j0 j5 e0;obtain⟨z,hz⟩:∃ z,z= wr:=⟨_,rfl⟩;subst hz;cases gk with
  |zero=>
   obtain rfl:j= m.vars.length:=by omega
   have m8: ¬ ((m.vars.length:Int) <(m.vars.length:Int)):=by omega
   go_wp2;refine bodyPost_end (results_none rfl _ _ _) rfl ?_;exact⟨rfl,lv1,c5.o,i4.o⟩
  |succ g=>
   have m9:(j:Int) <(m.vars.length:Int):=by omega
   have m1:j < m.vars.length:=by omega
   obtain⟨x,hx⟩:∃ x,m.vars[j]?= some x:=⟨_,List.getElem?_eq_getElem m1⟩;obtain⟨rb,ro,rfl,j7,hc⟩:=i3.o (by omega);obtain⟨ks,j2,j3,g0⟩:=hc j x hx;have HD:=I (CkD.of c5.o f3.o e6.o);have k2:Hid (z.rangeAt rb (ro+j*11) ks):=I (zb j3 HD.o.bel j7);have h6:=I j2;obtain⟨ct,ci,rfl,d9,d7,g2,g1⟩:=g0.ex;have k9:=I g0.name;have k0:Hid (([.string x.name,.int .i64 x.label] ++ ct ++ ci:List Value)[0]?= some (.string x.name)):=I rfl;have k1:Hid (∀ v∈([.string x.name,.int .i64 x.label] ++ ct ++ ci:List Value),v.oneCell'= true):=I (by
    intro v hv;rcases List.mem_append.1 hv with hv|hv
    ·rcases List.mem_append.1 hv with hv|hv
     ·simp only[List.mem_cons,List.not_mem_nil,or_false] at hv
      rcases hv with rfl|rfl<;>rfl
     ·exact(zl g2).2 v hv
    ·exact(zm g1).2 v hv)
   have e8:=I d9;have k4:=I d7;have i6:=I g2;have l4:=I g1;clear d9 d7 g2 g1;have HX:=I hx;clear hc j2 j3 g0 j7 hx;go_upto_region 4 with (first|((with_reducible refine za tyK41 _ rfl ?_ k2.o rfl h6.o ?_);exact wA rfl)|((with_reducible refine zN tyK41 _ _ rfl ?_ z h6.o k1.o rfl ?_ ?_ ?_ ?_);exact wA rfl;rfl;rfl;rfl;intro Z1 f4));have b9:=I f4.o.below;have f2:=I f4.o.range;have i1:=I f4.o.size;obtain⟨q4,d2⟩:∃ q,z.heap.size= q:=⟨_,rfl⟩;have l1:=I d2;rw[d2] at f2 i1;rw[d2];clear d2;have h8:=I (z3q k8.o (b9.o.block u.heap.size e9.o));have g4:=I (g6.o.2 x.name.data.toList);obtain⟨c,hc⟩:∃ c:Nat,cntN ((m.vars.take j).map (·.name.data.toList)) x.name.data.toList= c:=⟨_,rfl⟩;have m5:=I hc;have m3:c<=100:=by have h:=za7 ((m.vars.take j).map (·.name.data.toList)) x.name.data.toList;rw[List.length_map,List.length_take] at h;omega
   have j9:Hid (j < maxLen):=I (by unfold maxLen;omega);rw[hc] at g4;have K:=I (g6.o.put x.name.data.toList ((c:Int)+1) (by rw[hc]));have a7:varB n R m j x=(decide (cntN ((m.vars.take (j+1)).map (·.name.data.toList)) x.name.data.toList= 1) && (nameW x.name && (lqI n R x.label x.label && (z0p x.type && fitT x.init x.type)))):=rfl;have j1:cntN ((m.vars.take (j+1)).map (·.name.data.toList)) x.name.data.toList= c+1:=by
    rw[List.take_add_one,HX.o,List.map_append];show cntN (_ ++ [x.name.data.toList]) _= _;rw[z1M,if_pos rfl,hc]
   have l9:IntKind.i64.wrap ((c:Int)+1)=(c:Int)+1:=by rw[IntKind.wrap_i64];omega
   have b5:(Lit.int .i64 ((c:Int)+1)).wf= true:=by
    have:=wrap64_wf ((c+1:Nat):Int);rw[Go.IntWalk.wrap64_in _ (by omega)] at this;exact this
   rw[j1] at a7;have d8:decide (c+1= 1)= decide ((c:Int)+1= 1):=decide_eq_decide.2 ⟨fun h=>by omega,fun h=>by omega⟩;rw[d8] at a7;obtain⟨C,hC⟩:∃ C:Int,(c:Int)+1= C:=⟨_,rfl⟩;rw[hC] at l9 b5 a7 K;have j6:Go.plainElem Tryz.prog 3 (.int .i64 C)= some ((.lit (.int .i64 C):DataW Unit),[]):=plainElem_int Tryz.underlying3 b5;have l0:=I j6;have c6:Hid (keyOf Tryz.prog 9 (.string x.name)= some (.string x.name.data.toList)):=I (keySt x.name k9.o);have a2:Hid ((D.put (.string x.name.data.toList) (.lit (.int .i64 C))).atKey (.string x.name.data.toList) (.lit (.int .i64 0))= .lit (.int .i64 C)):=I (by
    rw[K.o.2,z1M,if_pos rfl,hc,← hC];rfl)
   have d5:Hid (CntMap (D.put (.string x.name.data.toList) (.lit (.int .i64 C))) ((m.vars.take (j+1)).map (·.name.data.toList))):=I (by
    rw[List.take_add_one,HX.o,List.map_append];exact K.o)
   obtain⟨D2,f5⟩:∃ D2,D.put (.string x.name.data.toList) (.lit (.int .i64 C))= D2:=⟨_,rfl⟩;have g8:=I f5;rw[f5] at a2 d5;have s0:Z1.cell? ⟨q4,0,none⟩= some (.string x.name):=f2.o 0 _ k0.o;clear hc j6 b5 f5 j1 d8 K;go_upto_region 5 with (first|((with_reducible refine z1v _ _ 117 rfl ?_ 9 3 lawSt Tryz.underlying117 Tryz.underlying3 (z3w _) u.heap.size j D rfl h8.o (.string x.name) (.string x.name.data.toList) rfl c6.o c g4.o ?_);(exact wA rfl))|(at_mapUpdate;refine wpList_mapUpdate_own _ rfl _ _ _ 117 rfl 9 3 lawSt Tryz.underlying117 _ u.heap.size j _ rfl h8.o j9.o _ _ _ rfl rfl c6.o _ [] l0.o ?_;intro Z2 a9 a0;have k7:=I a9;have a3:=I a0;clear a9 a0));clear s0;have a5:Hid (Z2.ownsMap Tryz.prog 9 (Go.plainElem Tryz.prog 3) u.heap.size (j+1) D2):=I (by have h:=k7.o;rw[g8.o] at h;exact h);have e5:=I (c5.o.map b9.o a3.o i7.o f0.o);have l3:=I (i4.o.map b9.o a3.o (Nat.le_refl _));have h9:Hid (u.heap.size < Z2.heap.size):=I (by have h1:=e9.o;have h2:=b9.o.size;have h3:=a3.o.size;omega);have c8:Hid (∀ y,Below Z2.heap.size Z2 y->y.rangeAt q4 0 ([.string x.name,.int .i64 x.label] ++ ct ++ ci)):=I fun y hy=>by
    have h1:=i1.o;have h2:=a3.o.size;have h3:=e9.o;have h4:=l1.o;exact z3d (z3d f2.o (a3.o.block q4 h1 (by intro e;injection e with e;omega))) (hy.block q4 (by omega))
   have i2:Hid (∀ y,Below Z2.heap.size Z2 y->y.rangeAt q4 2 ct):=I fun y hy=>z2H (c8.o y hy) rfl 2 rfl;have l2:Hid (∀ y,Below Z2.heap.size Z2 y->y.rangeAt q4 5 ci):=I fun y hy=>z2H (r:=[]) (c8.o y hy) (List.append_nil _).symm 5 (by simp[e8.o]);have N:Hid (∀ y,Below Z2.heap.size Z2 y->CkD mb lb w0 cb y):=I fun y hy=>CkD.of (e5.o.on hy) f3.o e6.o;have h0:=I (fun y (hy:Below Z2.heap.size Z2 y)=>z1B x.type ct y ((i6.o.under (N.o y hy).bel).more (N.o y hy).bel.size));have g9:=I (fun y (hy:Below Z2.heap.size Z2 y)=>z8u x.init x.type ci ct y ((l4.o.under (N.o y hy).bel).more (N.o y hy).bel.size) ((i6.o.under (N.o y hy).bel).more (N.o y hy).bel.size));have i0:=I (z7T x.name Z2);have h7:=I (fun y (hy:Below Z2.heap.size Z2 y)=>z1w HS.o (N.o y hy) x.label);obtain⟨B,hB⟩:∃ B,varB n R m j x= B:=⟨_,rfl⟩;have k3:Hid ((L ++ upto (varF n R m) j).length<=1000):=I (by
    have h1:=z0M (z5I n R m) j;have h2:=k5.o;rw[List.length_append];omega)
   have j8:Hid (L ++ upto (varF n R m) j ++ putF B 2 j= L ++ upto (varF n R m) (j+1)):=I (by
    have:varF n R m j= putF B 2 j:=by
     show(match m.vars[j]? with|none=>[]|some v=>putF (varB n R m j v) 2 j)= _;rw[HX.o,← hB]
    rw[z2y,List.append_assoc,this])
   have c7:Hid (∀ y,Below Z2.heap.size Z2 y->Calls Tryz.prog 23 #[.pointer (some ⟨cb,0,none⟩),.bool B,.int .i64 2,.int .i64 j] y fun e u'=>e= .returned (.tuple #[])/\∃ lv',Ck 79 68 W u' cb (.pointer (some ⟨mb,0,none⟩)) (.pointer (some ⟨lb,0,none⟩)) lv' (L ++ upto (varF n R m) (j+1))/\CkStep cb y u' lv1 lv'):=I fun y hy=>by
    rw[← j8.o];cases B with
    |false=>exact z4C (e5.o.on hy) k3.o 2 j
    |true=>
     refine(z6U cb 2 j y).mono ?_;rintro e u' ⟨rfl,rfl⟩;exact⟨rfl,lv1,by show Ck _ _ _ _ _ _ _ _ (L ++ upto (varF n R m) j ++ []);rw[List.append_nil];exact e5.o.on hy,CkStep.refl _ _ _⟩
   have Y:Hid (∀ y u' lv',Below Z2.heap.size Z2 y->Ck 79 68 W u' cb (.pointer (some ⟨mb,0,none⟩)) (.pointer (some ⟨lb,0,none⟩)) lv' (L ++ upto (varF n R m) (j+1))->CkStep cb y u' lv1 lv'->CkStep cb u u' lv lv'/\u'.ownsMap Tryz.prog 9 (Go.plainElem Tryz.prog 3) u.heap.size (j+1) D2/\CntMap D2 ((m.vars.take (j+1)).map (·.name.data.toList))/\lv'.ownBlock≠some u.heap.size/\u.heap.size < u'.heap.size):=I fun y u' lv' hy hck X=>by
    have h1:=h9.o;have h2:=hy.size;have h3:=X.size;have h4:=c5.o.lt;have h5:=i7.o;exact⟨(l3.o.trans (CkStep.of hy cb lv1)).trans X,z3q (z3q a5.o (hy.block _ h1)) (X.block _ (by omega) (by omega) (fun e=>f0.o e.symm)),d5.o,X.fresh (by omega) f0.o,by omega⟩
   have c4:Hid (B=(decide (C= 1) && (nameW x.name && (lqI n R x.label x.label && (z0p x.type && fitT x.init x.type))))):=I (by rw[← hB,a7]);clear hB a7 hC;obtain⟨b0,a8⟩:∃ b,decide (C= 1)= b:=⟨_,rfl⟩;obtain⟨b1,f6⟩:∃ b,nameW x.name= b:=⟨_,rfl⟩;obtain⟨b2,f7⟩:∃ b,lqI n R x.label x.label= b:=⟨_,rfl⟩;obtain⟨b3,f8⟩:∃ b,z0p x.type= b:=⟨_,rfl⟩;obtain⟨b4,f9⟩:∃ b,fitT x.init x.type= b:=⟨_,rfl⟩;rw[a8,f6,f7,f8,f9] at c4;rw[f6] at i0;rw[f7] at h7;rw[f8] at h0;rw[f9] at g9;clear f6 f7 f8 f9;have s0:Z2.cell? ⟨q4,0,none⟩= some (.string x.name):=c8.o Z2 (Below.refl _ _) 0 _ rfl;cases b0 with
   |false=>
    have q1:(C ==1)= false:=by rw[beq_eq_false_iff_ne];exact of_decide_eq_false a8
    obtain rfl:B= false:=c4.o;clear a8;go_wp2_with (first|((with_reducible refine z1v _ _ 117 rfl ?_ 9 3 lawSt Tryz.underlying117 Tryz.underlying3 (z3w _) u.heap.size (j+1) D2 rfl a5.o (.string x.name) (.string x.name.data.toList) rfl c6.o _ a2.o ?_);(exact wA rfl))|(go_at_call 23;(with_reducible refine(c7.o _ (Below.refl _ _)).mono ?_);rintro e y9 ⟨rfl,b6,A,G⟩;have a4:=I A;have e7:=I G;have a6:=I (Y.o _ _ _ (Below.refl _ _) A G);clear A G));go_roundg g;case measure=>omega
    case rel=>exact⟨j+1,b6,D2,by omega,by go_num,a4.o,a6.o⟩
   |true=>
   obtain rfl:C= 1:=of_decide_eq_true a8;clear a8;rcases sc3 b1 b2 b3 with rfl|⟨rfl,rfl⟩|⟨rfl,rfl,rfl⟩|⟨rfl,rfl,rfl⟩;all_goals
    first|obtain rfl:B= false:=c4.o|obtain rfl:B= b4:=c4.o
    go_wp2_with (first|((with_reducible refine z1v _ _ 117 rfl ?_ 9 3 lawSt Tryz.underlying117 Tryz.underlying3 (z3w _) u.heap.size (j+1) D2 rfl a5.o (.string x.name) (.string x.name.data.toList) rfl c6.o _ a2.o ?_);(exact wA rfl))|(go_at_call 58;refine(i0.o).mono ?_;rintro e y1 ⟨rfl,hb⟩;have O:=I hb;have d1:=c8.o _ O.o 1 _ rfl;clear hb)|(go_at_call 26;refine(h7.o _ O.o).e44 ?_)|((with_reducible refine za tyK36 _ rfl ?_ (i2.o _ O.o) rfl e8.o ?_);exact wA rfl)|((with_reducible refine za tyK36 _ rfl ?_ (i2.o _ a1.o) rfl e8.o ?_);exact wA rfl)|((with_reducible refine za tyK39 _ rfl ?_ (l2.o _ a1.o) rfl k4.o ?_);exact wA rfl)|(go_at_call 19;with_reducible refine(h0.o _ O.o).mono ?_;rintro e y2 ⟨rfl,hb⟩;have a1:=I (beT O.o hb);clear hb)|(go_at_call 59;with_reducible refine(g9.o _ a1.o).mono ?_;rintro e y3 ⟨rfl,hb⟩;have i8:=I (beT a1.o hb);clear hb)|(go_at_call 23;(with_reducible refine(c7.o _ i8.o).mono ?_);rintro e y9 ⟨rfl,b6,A,G⟩;have a4:=I A;have e7:=I G;have a6:=I (Y.o _ _ _ i8.o A G);clear A G)|(go_at_call 23;(with_reducible refine(c7.o _ a1.o).mono ?_);rintro e y9 ⟨rfl,b6,A,G⟩;have a4:=I A;have e7:=I G;have a6:=I (Y.o _ _ _ a1.o A G);clear A G)|(go_at_call 23;(with_reducible refine(c7.o _ O.o).mono ?_);rintro e y9 ⟨rfl,b6,A,G⟩;have a4:=I A;have e7:=I G;have a6:=I (Y.o _ _ _ O.o A G);clear A G));go_roundg g;case measure=>omega
    case rel=>exact⟨j+1,b6,D2,by omega,by go_num,a4.o,a6.o⟩
end
section
open Go Go.RowKit P
theorem z6T {W u:World} {cb:Nat} {mp lp lv:Value} {L:List z03} (h:Ck 79 68 W u cb mp lp lv L) (hL:L.length<=1000) (B:Bool) (r a:Int):
  Calls Tryz.prog 23 #[.pointer (some ⟨cb,0,none⟩),.bool B,.int .i64 r,.int .i64 a] u fun e u'=>e= .returned (.tuple #[])/\∃ lv',Ck 79 68 W u' cb mp lp lv' (L ++ putF B r a)/\CkStep cb u u' lv lv':=by
 cases B with
 |false=>exact z4C h hL r a
 |true=>
  refine(z6U cb r a u).mono ?_;rintro e u' ⟨rfl,rfl⟩;exact⟨rfl,lv,by show Ck _ _ _ _ _ _ _ _ (L ++ []);rw[List.append_nil];exact h,CkStep.refl _ _ _⟩
def isSt (x:NodeT):Bool:=x.kind ==1
theorem zbj (m:ModelT):z1C m= decide (0 < m.nodes.countP isSt):=by
 unfold z1C;rw[show(fun x:NodeT=>x.kind ==1)= isSt from rfl];rcases h:m.nodes.any isSt with _|_
 ·have:m.nodes.countP isSt= 0:=List.countP_eq_zero.2 fun x g=>by
   have:=List.any_eq_false.1 h x g;exact this
  rw[this];rfl
 ·obtain⟨x,g,A⟩:=List.any_eq_true.1 h
  have:=List.countP_pos_iff.2 ⟨x,g,A⟩;rw[decide_eq_true this]
theorem zbK {m:ModelT} {mb lb n:Nat} {R:Rel} {w0 W u:World} {OA GA VA MA NA:Option Addr} {oc gc vc mc nc cb:Nat} {lv:Value} {L:List z03} (hs:CkS m mb lb n R w0 OA GA VA MA NA oc gc vc mc nc) (hck:Ck 79 68 W u cb (.pointer (some ⟨mb,0,none⟩)) (.pointer (some ⟨lb,0,none⟩)) lv L) (hw:Below w0.heap.size w0 W) (hcb:w0.heap.size<=cb) (hL:L.length<=500) (hfew:m.nodes.length<=100):
  Calls Tryz.prog 27 #[.pointer (some ⟨cb,0,none⟩)] u fun e u'=>e= .returned (.tuple #[])/\∃ lv',Ck 79 68 W u' cb (.pointer (some ⟨mb,0,none⟩)) (.pointer (some ⟨lb,0,none⟩)) lv' (L ++ upto (nodeF n R m (zP m)) m.nodes.length ++ putF (z1C m) 7 (-1))/\CkStep cb u u' lv lv':=by
 have HS:=I hs;have d9:=I hw;have d7:=I hcb;have d8:=I hL;have e9:=I hfew;have f4:(m.nodes.length:Int)<=100:=by omega
 obtain⟨-,f6,g6,e1,a8⟩:=id hs.nodes;injection e1 with e1 e2 e3;subst e1 e3;have b7:=I a8;have b3:=I hck;have b6:=I (CkD.of hck hw hcb);have b8:Hid (z1C m= decide (0 < m.nodes.countP isSt)):=I (zbj m);have d0:=b6.o.c0;have d5:=HS.o.cell b6.o.bel (j:=5) rfl;clear hs hw hcb hL hck a8 e2;go_enter Tryz.func27,Tryz.ntmps27;go_wp2;clear d0 d5;go_loopg [2,13] m.nodes.length (fun q s2 y z=>∃ (j s:Nat) (lv1:Value),j+q= m.nodes.length/\s2= .int .i64 s/\y= .int .i64 j/\Ck 79 68 W z cb (.pointer (some ⟨mb,0,none⟩)) (.pointer (some ⟨lb,0,none⟩)) lv1 (L ++ upto (nodeF n R m (zP m)) j)/\CkStep cb u z lv lv1/\s=(m.nodes.take j).countP isSt);case atStart=>exact⟨0,0,lv,by omega,rfl,rfl,by rw[z3i,List.append_nil];exact b3.o,CkStep.refl _ _ _,rfl⟩
 case round=>
  obtain⟨j,s,lv1,hj,rfl,rfl,hck,d1,b2⟩:=hrel;have a9:=I hck;have a2:=I d1;have b4:=I b2;have g2:s<=j:=by
   rw[b2];exact Nat.le_trans List.countP_le_length (by rw[List.length_take];omega)
  clear hck d1 b2;obtain⟨z,hz⟩:∃ z,z= wr:=⟨_,rfl⟩;subst hz;have b0:Hid ((L ++ upto (nodeF n R m (zP m)) j).length<=1000):=I (by
   have h1:=z0M (z7A n R m (zP m)) j;have h2:=d8.o;rw[List.length_append];omega)
  cases gk with
  |zero=>
   obtain rfl:j= m.nodes.length:=by omega
   have f8: ¬ ((m.nodes.length:Int) <(m.nodes.length:Int)):=by omega
   have HP:Hid (Calls Tryz.prog 23 #[.pointer (some ⟨cb,0,none⟩),.bool (decide (0 <(s:Int))),.int .i64 7,.int .i64 (-1)] z fun e u'=>e= .returned (.tuple #[])/\∃ lv',Ck 79 68 W u' cb (.pointer (some ⟨mb,0,none⟩)) (.pointer (some ⟨lb,0,none⟩)) lv' (L ++ upto (nodeF n R m (zP m)) m.nodes.length ++ putF (z1C m) 7 (-1))/\CkStep cb z u' lv1 lv'):=I (by
    have he:z1C m= decide (0 <(s:Int)):=by
     rw[b8.o];have h:=b4.o;rw[List.take_length] at h;rw[← h];exact decide_eq_decide.2 ⟨fun h=>by omega,fun h=>by omega⟩
    rw[he];exact z6T a9.o b0.o _ 7 (-1))
   have f5:=b0.o;by_cases h0:0 < s
   ·obtain⟨s1,rfl⟩:∃ s1,s= s1+1:=⟨s - 1,by omega⟩
    have hd:decide ((0:Int) <((s1+1:Nat):Int))= true:=decide_eq_true (by omega);have e5:decide (((s1+1:Nat):Int) > 0)= true:=decide_eq_true (by omega);rw[hd] at HP;obtain⟨S0,c4⟩:∃ S0:Int,((s1+1:Nat):Int)= S0:=⟨_,rfl⟩;have g1:(0:Int) < S0:=by omega
    rw[c4] at*;clear hd e5 c4 h0;go_wp2_with (go_at_call 23;with_reducible refine HP.o.mono ?_;rintro e y9 ⟨rfl,X,A,C⟩;have K:=I A;have N:=I C;clear A C);refine bodyPost_end (results_none rfl _ _ _) rfl ?_;exact⟨rfl,X,K.o,a2.o.trans N.o⟩
   ·obtain rfl:s= 0:=by omega
    have hd:decide ((0:Int) <((0:Nat):Int))= false:=rfl;rw[hd] at HP;go_wp2_with (go_at_call 23;with_reducible refine HP.o.mono ?_;rintro e y9 ⟨rfl,X,A,C⟩;have K:=I A;have N:=I C;clear A C);refine bodyPost_end (results_none rfl _ _ _) rfl ?_;exact⟨rfl,X,K.o,a2.o.trans N.o⟩
  |succ g=>
   have g0:(j:Int) <(m.nodes.length:Int):=by omega
   have f9:(0:Int)<=(j:Int):=by omega
   have e8:j < m.nodes.length:=by omega
   obtain⟨x,hx⟩:∃ x,m.nodes[j]?= some x:=⟨_,List.getElem?_eq_getElem e8⟩;obtain⟨rb,ro,rfl,c9,hc⟩:=b7.o (by omega);obtain⟨ks,e6,c6,c7⟩:=hc j x hx;obtain⟨XA,CA,xc,cc,ce,f7,c8⟩:=zcI c6 c7 c9;have b1:=I c8;have HX:=I hx;have HD:=I (CkD.of a9.o d9.o d7.o);clear hc e6 c6 c7 c9 hx c8;have d0:=HD.o.c0;have d5:=HS.o.cell HD.o.bel (j:=5) rfl;have d6:=b1.o.c0 HD.o.bel;have a4:=I (zbM HS.o HD.o b1.o);have g3:IntKind.i64.wrap ((s:Int)+1)=(s:Int)+1:=by rw[IntKind.wrap_i64];omega
   have a7:Hid ((nodeF n R m (zP m)) j= if z0K n R m x then putF (zP m x) 6 j else[(5,j)]):=I (by
    show(match m.nodes[j]? with|none=>[]|some x=>if z0K n R m x then putF (zP m x) 6 j else[(5,j)])= _;rw[HX.o])
   have a6:Hid ((m.nodes.take (j+1)).countP isSt= s+if x.kind= 1 then 1 else 0):=I (by
    rw[List.take_add_one,HX.o,List.countP_append,← b4.o]
    congr 1
    show List.countP isSt [x]= _;rw[List.countP_singleton];unfold isSt;by_cases h:x.kind= 1<;>simp[h])
   have Y:Hid (z0K n R m x= true->∀ y,Below z.heap.size z y->Calls Tryz.prog 62 #[.pointer (some ⟨cb,0,none⟩),.pointer (some ⟨rb,ro+j*29,none⟩)] y fun e u'=>e= .returned (.bool (zP m x))/\Below y.heap.size y u'):=I fun h y hy=>zbN HS.o (HD.o.next hy) b1.o (zdb h);obtain⟨S,hS⟩:∃ S,z0K n R m x= S:=⟨_,rfl⟩;obtain⟨B,hB⟩:∃ B,zP m x= B:=⟨_,rfl⟩;rw[hS] at a4 Y a7;rw[hB] at Y a7;have a1:Hid (∀ y,Below z.heap.size z y->∀ (B:Bool) (r:Int),(nodeF n R m (zP m)) j= putF B r j->Calls Tryz.prog 23 #[.pointer (some ⟨cb,0,none⟩),.bool B,.int .i64 r,.int .i64 j] y fun e u'=>e= .returned (.tuple #[])/\∃ lv',Ck 79 68 W u' cb (.pointer (some ⟨mb,0,none⟩)) (.pointer (some ⟨lb,0,none⟩)) lv' (L ++ upto (nodeF n R m (zP m)) (j+1))/\CkStep cb y u' lv1 lv'):=I fun y hy B r he=>by
    rw[z2y,he,← List.append_assoc];exact z6T (a9.o.on hy) b0.o B r j
   clear hS hB;cases S with
   |false=>
    have a3:Hid (∀ y,Below z.heap.size z y->Calls Tryz.prog 23 #[.pointer (some ⟨cb,0,none⟩),.bool false,.int .i64 5,.int .i64 j] y fun e u'=>e= .returned (.tuple #[])/\∃ lv',Ck 79 68 W u' cb (.pointer (some ⟨mb,0,none⟩)) (.pointer (some ⟨lb,0,none⟩)) lv' (L ++ upto (nodeF n R m (zP m)) (j+1))/\CkStep cb y u' lv1 lv'):=I fun y hy=>a1.o y hy false 5 a7.o;clear a1 Y;by_cases k1:x.kind= 1
    ·have G:Hid (s+1=(m.nodes.take (j+1)).countP isSt):=I (by rw[a6.o,if_pos k1])
     have a0:((s+1:Nat):Int)=(s:Int)+1:=by omega
     rw[k1] at d6;clear k1;go_wp2_with (first|(go_at_call 61;refine(a4.o).k44 ?_;intro y1 O)|(go_at_call 23;refine(a3.o _ O.o).mono ?_;rintro e y9 ⟨rfl,X,A,C⟩;have K:=I A;have N:=I C;clear A C));go_roundg g;case measure=>omega
     case rel=>exact⟨j+1,s+1,X,by omega,by first|rfl|(rw[a0];go_num),by go_num,K.o,(a2.o.trans (CkStep.of O.o cb lv1)).trans N.o,G.o⟩
    ·have G:Hid (s=(m.nodes.take (j+1)).countP isSt):=I (by rw[a6.o,if_neg k1,Nat.add_zero])
     have a0:((s:Nat):Int)=(s:Int):=rfl;have q1:(x.kind ==1)= false:=by rw[beq_eq_false_iff_ne];exact k1
     go_wp2_with (first|(go_at_call 61;refine(a4.o).k44 ?_;intro y1 O)|(go_at_call 23;refine(a3.o _ O.o).mono ?_;rintro e y9 ⟨rfl,X,A,C⟩;have K:=I A;have N:=I C;clear A C));go_roundg g;case measure=>omega
     case rel=>exact⟨j+1,s,X,by omega,by first|rfl|(rw[a0];go_num),by go_num,K.o,(a2.o.trans (CkStep.of O.o cb lv1)).trans N.o,G.o⟩
   |true=>
    have b9:=I (Y.o rfl);have a3:Hid (∀ y,Below z.heap.size z y->Calls Tryz.prog 23 #[.pointer (some ⟨cb,0,none⟩),.bool B,.int .i64 6,.int .i64 j] y fun e u'=>e= .returned (.tuple #[])/\∃ lv',Ck 79 68 W u' cb (.pointer (some ⟨mb,0,none⟩)) (.pointer (some ⟨lb,0,none⟩)) lv' (L ++ upto (nodeF n R m (zP m)) (j+1))/\CkStep cb y u' lv1 lv'):=I fun y hy=>a1.o y hy B 6 a7.o;clear a1 Y;by_cases k1:x.kind= 1
    ·have G:Hid (s+1=(m.nodes.take (j+1)).countP isSt):=I (by rw[a6.o,if_pos k1])
     have a0:((s+1:Nat):Int)=(s:Int)+1:=by omega
     rw[k1] at d6;clear k1;go_wp2_with (first|(go_at_call 61;refine(a4.o).k44 ?_;intro y1 O)|(go_at_call 62;refine(b9.o _ O.o).mono ?_;rintro e y2 ⟨rfl,hb⟩;have a5:=I (beT O.o hb);clear hb)|(go_at_call 23;refine(a3.o _ a5.o).mono ?_;rintro e y9 ⟨rfl,X,A,C⟩;have K:=I A;have N:=I C;clear A C));go_roundg g;case measure=>omega
     case rel=>exact⟨j+1,s+1,X,by omega,by first|rfl|(rw[a0];go_num),by go_num,K.o,(a2.o.trans (CkStep.of a5.o cb lv1)).trans N.o,G.o⟩
    ·have G:Hid (s=(m.nodes.take (j+1)).countP isSt):=I (by rw[a6.o,if_neg k1,Nat.add_zero])
     have a0:((s:Nat):Int)=(s:Int):=rfl;have q1:(x.kind ==1)= false:=by rw[beq_eq_false_iff_ne];exact k1
     go_wp2_with (first|(go_at_call 61;refine(a4.o).k44 ?_;intro y1 O)|(go_at_call 62;refine(b9.o _ O.o).mono ?_;rintro e y2 ⟨rfl,hb⟩;have a5:=I (beT O.o hb);clear hb)|(go_at_call 23;refine(a3.o _ a5.o).mono ?_;rintro e y9 ⟨rfl,X,A,C⟩;have K:=I A;have N:=I C;clear A C));go_roundg g;case measure=>omega
     case rel=>exact⟨j+1,s,X,by omega,by first|rfl|(rw[a0];go_num),by go_num,K.o,(a2.o.trans (CkStep.of a5.o cb lv1)).trans N.o,G.o⟩
end
section
open Go Go.RowKit P
theorem z8T {w:World} {B:Nat} {A:Option Addr} {c:Nat} {l:List (Int × Int)} (h:SlAt w B 2 PairR (.slice A l.length c) l):Pairs w B A l:=by
 obtain⟨h0,O,X,e,h1⟩:=h;injection e with e1 e2 e3;subst e1 e3;refine⟨h0,fun hp=> ?_⟩;obtain⟨b,o,rfl,K,N⟩:=h1 hp;refine⟨b,o,rfl,K,fun i p hi=> ?_⟩;obtain⟨cs,_,G,rfl,g,C⟩:=N i p hi;exact⟨G 0 _ rfl,G 1 _ rfl,g,C⟩
def zQ (m:ModelT) (OA GA VA MA NA:Option Addr) (oc gc vc mc nc:Nat):List Value:=[.int .i64 m.labels,.slice OA m.order.length oc,.slice GA m.grants.length gc,.slice VA m.vars.length vc,.slice MA m.msgs.length mc,.slice NA m.nodes.length nc]
theorem z1b {w:World} {B:Nat} {cs:List Value} {m:ModelT} (h:ModelAt w B cs m):∃ OA GA VA MA NA oc gc vc mc nc,cs= zQ m OA GA VA MA NA oc gc vc mc nc/\
  SlAt w B 2 PairR (.slice OA m.order.length oc) m.order/\SlAt w B 2 PairR (.slice GA m.grants.length gc) m.grants/\SlAt w B 11 (VarAt w B) (.slice VA m.vars.length vc) m.vars/\SlAt w B 8 (MsgAt w B) (.slice MA m.msgs.length mc) m.msgs/\SlAt w B 29 (NodeAt w B) (.slice NA m.nodes.length nc) m.nodes:=by
 obtain⟨⟨v1,v2,v3,v4,v5,rfl,h1,h2,h3,h4,h5⟩,_⟩:=h;obtain⟨-,g,c1,rfl, -⟩:=id h1;obtain⟨-,A,c2,rfl, -⟩:=id h2;obtain⟨-,C,c3,rfl, -⟩:=id h3;obtain⟨-,G,c4,rfl, -⟩:=id h4;obtain⟨-,K,c5,rfl, -⟩:=id h5;exact⟨_,_,_,_,_,_,_,_,_,_,rfl,h1,h2,h3,h4,h5⟩
theorem z68 (m:ModelT) (OA GA VA MA NA:Option Addr) (oc gc vc mc nc:Nat):∀ v∈zQ m OA GA VA MA NA oc gc vc mc nc,v.oneCell'= true:=by
 intro v hv;simp only[zQ,List.mem_cons,List.not_mem_nil,or_false] at hv;rcases hv with rfl|rfl|rfl|rfl|rfl|rfl<;>rfl
theorem zgH (m:ModelT) (mcs:List Value) (w:World) (hm:ModelAt w w.heap.size mcs m) (h:makeE m.labels m.order≠0):
  Calls Tryz.prog 22 #[.agg ⟨mcs⟩] w fun e w'=>e= .returned (.tuple #[.pointer none,.int .i64 (makeE m.labels m.order)])/\Below w.heap.size w w':=by
 obtain⟨OA,GA,VA,MA,NA,oc,gc,vc,mc,nc,rfl,ho, -⟩:=z1b hm;have Y:=I (z8T ho);have X:=I (zc w (.cells ⟨zQ m OA GA VA MA NA oc gc vc mc nc⟩ 27));have K:=I (Whole.new w (zQ m OA GA VA MA NA oc gc vc mc nc) 27);have HZ:Hid ((w.alloc (.cells ⟨zQ m OA GA VA MA NA oc gc vc mc nc⟩ 27)).heap.size= w.heap.size+1):=I (by simp);have H:=I h;clear hm ho h;go_enter Tryz.func22,Tryz.ntmps22;go_upto_region 1 with (fail);generalize w.alloc (.cells ⟨zQ m OA GA VA MA NA oc gc vc mc nc⟩ 27)= W at*;obtain⟨q,A⟩:∃ q,w.heap.size= q:=⟨_,rfl⟩;have HQ:=I A;rw[A] at K HZ;rw[A];clear A;have d0:W.cell? ⟨q,0,none⟩= some (.int .i64 m.labels):=K.o.range 0 _ rfl;have d1:W.cell? ⟨q,1,none⟩= some (.slice OA m.order.length oc):=K.o.range 1 _ rfl;have G:Hid (Pairs W W.heap.size OA m.order):=I (by
  have g:=X.o;refine⟨Y.o.1,fun hp=> ?_⟩;obtain⟨b,o,e,O,hc⟩:=Y.o.2 hp;refine⟨b,o,e,Nat.lt_of_lt_of_le O g.size,fun i p hi=> ?_⟩;obtain⟨h1,h2,h3⟩:=hc i p hi;exact⟨(g.cell (p:=⟨b,o+i*2,none⟩) O).trans h1,(g.cell (p:=⟨b,o+i*2+1,none⟩) O).trans h2,h3⟩)
 have C:=I (z8J m.labels OA m.order.length oc m.order W rfl G.o);go_wp2_with (go_at_call 57;refine C.o.mono ?_;rintro e y ⟨g,N⟩;have HY:=I (beT X.o g);clear g;obtain⟨-,rfl⟩:makeE m.labels m.order≠0/\e= .returned (.tuple #[.pointer none,.int .i64 (makeE m.labels m.order)]):=N.resolve_right (fun h=>H.o h.1));go_ret2;exact⟨rfl,HY.o⟩
theorem zgI (m:ModelT) (mcs:List Value) (w:World) (hm:ModelAt w w.heap.size mcs m) (h:makeE m.labels m.order= 0):
  Calls Tryz.prog 22 #[.agg ⟨mcs⟩] w fun e w'=>e= .returned (.tuple #[.pointer (some ⟨w.heap.size+1,0,none⟩),.int .i64 0])/\LatR w' (w.heap.size+1) m.labels.toNat (ordOf m.labels.toNat m.order)/\Below w.heap.size w w':=by
 obtain⟨OA,GA,VA,MA,NA,oc,gc,vc,mc,nc,rfl,ho, -⟩:=z1b hm;have HP:=I (z8T ho);have HB:=I (zc w (.cells ⟨zQ m OA GA VA MA NA oc gc vc mc nc⟩ 27));have X:=I (Whole.new w (zQ m OA GA VA MA NA oc gc vc mc nc) 27);have Y:Hid ((w.alloc (.cells ⟨zQ m OA GA VA MA NA oc gc vc mc nc⟩ 27)).heap.size= w.heap.size+1):=I (by simp);have H:=I h;clear hm ho h;go_enter Tryz.func22,Tryz.ntmps22;go_upto_region 1 with (fail);generalize w.alloc (.cells ⟨zQ m OA GA VA MA NA oc gc vc mc nc⟩ 27)= W at*;obtain⟨q,K⟩:∃ q,w.heap.size= q:=⟨_,rfl⟩;have HQ:=I K;rw[K] at X Y;rw[K];clear K;have d0:W.cell? ⟨q,0,none⟩= some (.int .i64 m.labels):=X.o.range 0 _ rfl;have d1:W.cell? ⟨q,1,none⟩= some (.slice OA m.order.length oc):=X.o.range 1 _ rfl;have O:Hid (Pairs W W.heap.size OA m.order):=I (by
  have g:=HB.o;refine⟨HP.o.1,fun hp=> ?_⟩;obtain⟨b,o,e,A,hc⟩:=HP.o.2 hp;refine⟨b,o,e,Nat.lt_of_lt_of_le A g.size,fun i p hi=> ?_⟩;obtain⟨h1,h2,h3⟩:=hc i p hi;exact⟨(g.cell (p:=⟨b,o+i*2,none⟩) A).trans h1,(g.cell (p:=⟨b,o+i*2+1,none⟩) A).trans h2,h3⟩)
 have N:=I (z8J m.labels OA m.order.length oc m.order W rfl O.o);go_wp2_with (go_at_call 57;refine N.o.mono ?_;rintro e y ⟨g,C⟩;have HY:=I (beT HB.o g);clear g;obtain⟨-,k,G,rfl,A⟩:=C.resolve_left (fun h=>h.1 H.o);have HL:=I A;have HK:=I G;clear A G C);go_ret2;refine⟨by rw[HQ.o,← Y.o];rfl,?_,HY.o⟩;have G:=HK.o;rw[G];show LatR _ _ k (ordOf k m.order);rw[HQ.o,← Y.o];exact HL.o
end
section
open Go Go.RowKit P
theorem ze7 {m:ModelT} {mb lb n:Nat} {R:Rel} {w0 W u:World} {OA GA VA MA NA:Option Addr} {oc gc vc mc nc cb:Nat} {lv:Value} {L:List z03} (hs:CkS m mb lb n R w0 OA GA VA MA NA oc gc vc mc nc) (hck:Ck 79 68 W u cb (.pointer (some ⟨mb,0,none⟩)) (.pointer (some ⟨lb,0,none⟩)) lv L) (hw:Below w0.heap.size w0 W) (hcb:w0.heap.size<=cb) (hL:L.length<=500) (hfew:m.msgs.length<=100):
  Calls Tryz.prog 25 #[.pointer (some ⟨cb,0,none⟩)] u fun e u'=>e= .returned (.tuple #[])/\∃ lv',Ck 79 68 W u' cb (.pointer (some ⟨mb,0,none⟩)) (.pointer (some ⟨lb,0,none⟩)) lv' (L ++ upto (msgF n R m) m.msgs.length)/\CkStep cb u u' lv lv':=by
 have HS:=I hs;have f3:=I hw;have e6:=I hcb;have k4:=I hL;have m4:(m.msgs.length:Int)<=100:=by omega
 obtain⟨-,m7,n4,e1,e4⟩:=id hs.msgs;injection e1 with e1 e2 e3;subst e1 e3;have i2:=I e4;have f1:Hid (lv.ownBlock≠some u.heap.size):=I fun e=>by have:=z0y hck.own e;omega
 have i5:Hid (W.heap.size<=u.heap.size):=I hck.step.size;have g4:=I (zc u (.map #[] 0));have k5:Hid ((u.alloc (.map #[] 0)).ownsMap Tryz.prog 9 (Go.plainElem Tryz.prog 3) u.heap.size 0 (.map []:DataW Unit)):=I (World.ownsMap_made u _ _ _);have d4:=I (hck.on g4.o);have i4:Hid (CkStep cb u (u.alloc (.map #[] 0)) lv lv):=I (CkStep.of g4.o cb lv);have l5:Hid ((u.alloc (.map #[] 0)).heap.size= u.heap.size+1):=I (by simp);have n0:= @run_makeMap Tryz.prog;clear hs hw hcb hL hck e4 e2;go_enter Tryz.func25,Tryz.ntmps25;go_upto_region 1 with (fail);generalize u.alloc (.map #[] 0)= U at*;have g6:=I (CkD.of d4.o f3.o e6.o);have d0:=g6.o.c0;have d3:=HS.o.cell g6.o.bel (j:=4) rfl;go_wp2;clear d0 d3;go_loopg [14] m.msgs.length (fun q y z=>∃ (j:Nat) (lv1:Value) (D:DataW Unit),j+q= m.msgs.length/\y= .int .i64 j/\Ck 79 68 W z cb (.pointer (some ⟨mb,0,none⟩)) (.pointer (some ⟨lb,0,none⟩)) lv1 (L ++ upto (msgF n R m) j)/\CkStep cb u z lv lv1/\z.ownsMap Tryz.prog 9 (Go.plainElem Tryz.prog 3) u.heap.size j D/\CntMap D ((m.msgs.take j).map (·.name.data.toList))/\lv1.ownBlock≠some u.heap.size/\u.heap.size < z.heap.size);case atStart=>exact⟨0,lv,_,by omega,rfl,by rw[z3i,List.append_nil];exact d4.o,i4.o,k5.o,by simpa using z7d,f1.o,by have:=l5.o;omega⟩
 case round=>
  obtain⟨j,lv1,D,hj,rfl,hck,O,j3,i9,j4,e0⟩:=hrel;have c5:=I hck;have i3:=I O;have k7:=I j3;have g5:=I i9;have f0:=I j4;have e9:=I e0;clear hck O j3 i9 j4 e0;obtain⟨z,hz⟩:∃ z,z= wr:=⟨_,rfl⟩;subst hz;cases gk with
  |zero=>
   obtain rfl:j= m.msgs.length:=by omega
   have m8: ¬ ((m.msgs.length:Int) <(m.msgs.length:Int)):=by omega
   go_wp2;refine bodyPost_end (results_none rfl _ _ _) rfl ?_;exact⟨rfl,lv1,c5.o,i3.o⟩
  |succ g=>
   have m9:(j:Int) <(m.msgs.length:Int):=by omega
   have m1:j < m.msgs.length:=by omega
   obtain⟨x,hx⟩:∃ x,m.msgs[j]?= some x:=⟨_,List.getElem?_eq_getElem m1⟩;obtain⟨rb,ro,rfl,j6,hc⟩:=i2.o (by omega);obtain⟨ks,j1,j2,g0⟩:=hc j x hx;have HD:=I (CkD.of c5.o f3.o e6.o);have k1:Hid (z.rangeAt rb (ro+j*8) ks):=I (zb j2 HD.o.bel j6);have h0:=I j1;obtain⟨ct,cd,rfl,d9,d7,g2,g1⟩:=g0.ex;have k8:=I g0.name;have j9:Hid (([.string x.name,.int .i64 x.label] ++ ct ++ cd:List Value)[0]?= some (.string x.name)):=I rfl;have k0:Hid (∀ v∈([.string x.name,.int .i64 x.label] ++ ct ++ cd:List Value),v.oneCell'= true):=I (by
    intro v hv;rcases List.mem_append.1 hv with hv|hv
    ·rcases List.mem_append.1 hv with hv|hv
     ·simp only[List.mem_cons,List.not_mem_nil,or_false] at hv
      rcases hv with rfl|rfl<;>rfl
     ·exact(zl g2).2 v hv
    ·exact(zl g1).2 v hv)
   have e8:=I d9;have k3:=I d7;have l4:=I g2;have l3:=I g1;clear d9 d7 g2 g1;have HX:=I hx;clear hc j1 j2 g0 j6 hx;go_upto_region 4 with (first|((with_reducible refine za tyK71 _ rfl ?_ k1.o rfl h0.o ?_);exact wA rfl)|((with_reducible refine zN tyK71 _ _ rfl ?_ z h0.o k0.o rfl ?_ ?_ ?_ ?_);exact wA rfl;rfl;rfl;rfl;intro Z1 f4));have b9:=I f4.o.below;have f2:=I f4.o.range;have i0:=I f4.o.size;obtain⟨q4,d2⟩:∃ q,z.heap.size= q:=⟨_,rfl⟩;have l0:=I d2;rw[d2] at f2 i0;rw[d2];clear d2;have h7:=I (z3q k7.o (b9.o.block u.heap.size e9.o));have g3:=I (g5.o.2 x.name.data.toList);obtain⟨c,hc⟩:∃ c:Nat,cntN ((m.msgs.take j).map (·.name.data.toList)) x.name.data.toList= c:=⟨_,rfl⟩;have m5:=I hc;have m3:c<=100:=by have h:=za7 ((m.msgs.take j).map (·.name.data.toList)) x.name.data.toList;rw[List.length_map,List.length_take] at h;omega
   have j8:Hid (j < maxLen):=I (by unfold maxLen;omega);rw[hc] at g3;have K:=I (g5.o.put x.name.data.toList ((c:Int)+1) (by rw[hc]));have a7:msgB n R m j x=(decide (cntN ((m.msgs.take (j+1)).map (·.name.data.toList)) x.name.data.toList= 1) && (nameW x.name && (lqI n R x.label x.label && (z0p x.key && z0p x.body)))):=rfl;have j0:cntN ((m.msgs.take (j+1)).map (·.name.data.toList)) x.name.data.toList= c+1:=by
    rw[List.take_add_one,HX.o,List.map_append];show cntN (_ ++ [x.name.data.toList]) _= _;rw[z1M,if_pos rfl,hc]
   have l9:IntKind.i64.wrap ((c:Int)+1)=(c:Int)+1:=by rw[IntKind.wrap_i64];omega
   have b5:(Lit.int .i64 ((c:Int)+1)).wf= true:=by
    have:=wrap64_wf ((c+1:Nat):Int);rw[Go.IntWalk.wrap64_in _ (by omega)] at this;exact this
   rw[j0] at a7;have d8:decide (c+1= 1)= decide ((c:Int)+1= 1):=decide_eq_decide.2 ⟨fun h=>by omega,fun h=>by omega⟩;rw[d8] at a7;obtain⟨C,hC⟩:∃ C:Int,(c:Int)+1= C:=⟨_,rfl⟩;rw[hC] at l9 b5 a7 K;have j5:Go.plainElem Tryz.prog 3 (.int .i64 C)= some ((.lit (.int .i64 C):DataW Unit),[]):=plainElem_int Tryz.underlying3 b5;have k9:=I j5;have c6:Hid (keyOf Tryz.prog 9 (.string x.name)= some (.string x.name.data.toList)):=I (keySt x.name k8.o);have a1:Hid ((D.put (.string x.name.data.toList) (.lit (.int .i64 C))).atKey (.string x.name.data.toList) (.lit (.int .i64 0))= .lit (.int .i64 C)):=I (by
    rw[K.o.2,z1M,if_pos rfl,hc,← hC];rfl)
   have d5:Hid (CntMap (D.put (.string x.name.data.toList) (.lit (.int .i64 C))) ((m.msgs.take (j+1)).map (·.name.data.toList))):=I (by
    rw[List.take_add_one,HX.o,List.map_append];exact K.o)
   obtain⟨D2,f5⟩:∃ D2,D.put (.string x.name.data.toList) (.lit (.int .i64 C))= D2:=⟨_,rfl⟩;have g7:=I f5;rw[f5] at a1 d5;have s0:Z1.cell? ⟨q4,0,none⟩= some (.string x.name):=f2.o 0 _ j9.o;clear hc j5 b5 f5 j0 d8 K;go_upto_region 5 with (first|((with_reducible refine z1v _ _ 117 rfl ?_ 9 3 lawSt Tryz.underlying117 Tryz.underlying3 (z3w _) u.heap.size j D rfl h7.o (.string x.name) (.string x.name.data.toList) rfl c6.o c g3.o ?_);(exact wA rfl))|(at_mapUpdate;refine wpList_mapUpdate_own _ rfl _ _ _ 117 rfl 9 3 lawSt Tryz.underlying117 _ u.heap.size j _ rfl h7.o j8.o _ _ _ rfl rfl c6.o _ [] k9.o ?_;intro Z2 a9 Y;have k6:=I a9;have a3:=I Y;clear a9 Y));clear s0;have a5:Hid (Z2.ownsMap Tryz.prog 9 (Go.plainElem Tryz.prog 3) u.heap.size (j+1) D2):=I (by have h:=k6.o;rw[g7.o] at h;exact h);have e5:=I (c5.o.map b9.o a3.o i5.o f0.o);have l2:=I (i3.o.map b9.o a3.o (Nat.le_refl _));have h8:Hid (u.heap.size < Z2.heap.size):=I (by have h1:=e9.o;have h2:=b9.o.size;have h3:=a3.o.size;omega);have c8:Hid (∀ y,Below Z2.heap.size Z2 y->y.rangeAt q4 0 ([.string x.name,.int .i64 x.label] ++ ct ++ cd)):=I fun y hy=>by
    have h1:=i0.o;have h2:=a3.o.size;have h3:=e9.o;have h4:=l0.o;exact z3d (z3d f2.o (a3.o.block q4 h1 (by intro e;injection e with e;omega))) (hy.block q4 (by omega))
   have i1:Hid (∀ y,Below Z2.heap.size Z2 y->y.rangeAt q4 2 ct):=I fun y hy=>z2H (c8.o y hy) rfl 2 rfl;have l1:Hid (∀ y,Below Z2.heap.size Z2 y->y.rangeAt q4 5 cd):=I fun y hy=>z2H (r:=[]) (c8.o y hy) (List.append_nil _).symm 5 (by simp[e8.o]);have a2:Hid (∀ y,Below Z2.heap.size Z2 y->CkD mb lb w0 cb y):=I fun y hy=>CkD.of (e5.o.on hy) f3.o e6.o;have g9:=I (fun y (hy:Below Z2.heap.size Z2 y)=>z1B x.key ct y ((l4.o.under (a2.o y hy).bel).more (a2.o y hy).bel.size));have g8:=I (fun y (hy:Below Z2.heap.size Z2 y)=>z1B x.body cd y ((l3.o.under (a2.o y hy).bel).more (a2.o y hy).bel.size));have h9:=I (z7T x.name Z2);have h6:=I (fun y (hy:Below Z2.heap.size Z2 y)=>z1w HS.o (a2.o y hy) x.label);obtain⟨B,hB⟩:∃ B,msgB n R m j x= B:=⟨_,rfl⟩;have k2:Hid ((L ++ upto (msgF n R m) j).length<=1000):=I (by
    have h1:=z0M (z5y n R m) j;have h2:=k4.o;rw[List.length_append];omega)
   have j7:Hid (L ++ upto (msgF n R m) j ++ putF B 3 j= L ++ upto (msgF n R m) (j+1)):=I (by
    have:msgF n R m j= putF B 3 j:=by
     show(match m.msgs[j]? with|none=>[]|some v=>putF (msgB n R m j v) 3 j)= _;rw[HX.o,← hB]
    rw[z2y,List.append_assoc,this])
   have c7:Hid (∀ y,Below Z2.heap.size Z2 y->Calls Tryz.prog 23 #[.pointer (some ⟨cb,0,none⟩),.bool B,.int .i64 3,.int .i64 j] y fun e u'=>e= .returned (.tuple #[])/\∃ lv',Ck 79 68 W u' cb (.pointer (some ⟨mb,0,none⟩)) (.pointer (some ⟨lb,0,none⟩)) lv' (L ++ upto (msgF n R m) (j+1))/\CkStep cb y u' lv1 lv'):=I fun y hy=>by
    rw[← j7.o];cases B with
    |false=>exact z4C (e5.o.on hy) k2.o 3 j
    |true=>
     refine(z6U cb 3 j y).mono ?_;rintro e u' ⟨rfl,rfl⟩;exact⟨rfl,lv1,by show Ck _ _ _ _ _ _ _ _ (L ++ upto (msgF n R m) j ++ []);rw[List.append_nil];exact e5.o.on hy,CkStep.refl _ _ _⟩
   have X:Hid (∀ y u' lv',Below Z2.heap.size Z2 y->Ck 79 68 W u' cb (.pointer (some ⟨mb,0,none⟩)) (.pointer (some ⟨lb,0,none⟩)) lv' (L ++ upto (msgF n R m) (j+1))->CkStep cb y u' lv1 lv'->CkStep cb u u' lv lv'/\u'.ownsMap Tryz.prog 9 (Go.plainElem Tryz.prog 3) u.heap.size (j+1) D2/\CntMap D2 ((m.msgs.take (j+1)).map (·.name.data.toList))/\lv'.ownBlock≠some u.heap.size/\u.heap.size < u'.heap.size):=I fun y u' lv' hy hck O=>by
    have h1:=h8.o;have h2:=hy.size;have h3:=O.size;have h4:=c5.o.lt;have h5:=i5.o;exact⟨(l2.o.trans (CkStep.of hy cb lv1)).trans O,z3q (z3q a5.o (hy.block _ h1)) (O.block _ (by omega) (by omega) (fun e=>f0.o e.symm)),d5.o,O.fresh (by omega) f0.o,by omega⟩
   have c4:Hid (B=(decide (C= 1) && (nameW x.name && (lqI n R x.label x.label && (z0p x.key && z0p x.body))))):=I (by rw[← hB,a7]);clear hB a7 hC;obtain⟨b0,a8⟩:∃ b,decide (C= 1)= b:=⟨_,rfl⟩;obtain⟨b1,f6⟩:∃ b,nameW x.name= b:=⟨_,rfl⟩;obtain⟨b2,f7⟩:∃ b,lqI n R x.label x.label= b:=⟨_,rfl⟩;obtain⟨b3,f8⟩:∃ b,z0p x.key= b:=⟨_,rfl⟩;obtain⟨b4,f9⟩:∃ b,z0p x.body= b:=⟨_,rfl⟩;rw[a8,f6,f7,f8,f9] at c4;rw[f6] at h9;rw[f7] at h6;rw[f8] at g9;rw[f9] at g8;clear f6 f7 f8 f9;have s0:Z2.cell? ⟨q4,0,none⟩= some (.string x.name):=c8.o Z2 (Below.refl _ _) 0 _ rfl;cases b0 with
   |false=>
    have q1:(C ==1)= false:=by rw[beq_eq_false_iff_ne];exact of_decide_eq_false a8
    obtain rfl:B= false:=c4.o;clear a8;go_wp2_with (first|((with_reducible refine z1v _ _ 117 rfl ?_ 9 3 lawSt Tryz.underlying117 Tryz.underlying3 (z3w _) u.heap.size (j+1) D2 rfl a5.o (.string x.name) (.string x.name.data.toList) rfl c6.o _ a1.o ?_);(exact wA rfl))|(go_at_call 23;(with_reducible refine(c7.o _ (Below.refl _ _)).mono ?_);rintro e y9 ⟨rfl,b6,A,G⟩;have a4:=I A;have e7:=I G;have a6:=I (X.o _ _ _ (Below.refl _ _) A G);clear A G));go_roundg g;case measure=>omega
    case rel=>exact⟨j+1,b6,D2,by omega,by go_num,a4.o,a6.o⟩
   |true=>
   obtain rfl:C= 1:=of_decide_eq_true a8;clear a8;rcases sc3 b1 b2 b3 with rfl|⟨rfl,rfl⟩|⟨rfl,rfl,rfl⟩|⟨rfl,rfl,rfl⟩;all_goals
    first|obtain rfl:B= false:=c4.o|obtain rfl:B= b4:=c4.o
    go_wp2_with (first|((with_reducible refine z1v _ _ 117 rfl ?_ 9 3 lawSt Tryz.underlying117 Tryz.underlying3 (z3w _) u.heap.size (j+1) D2 rfl a5.o (.string x.name) (.string x.name.data.toList) rfl c6.o _ a1.o ?_);(exact wA rfl))|(go_at_call 58;refine(h9.o).mono ?_;rintro e y1 ⟨rfl,hb⟩;have N:=I hb;have d1:=c8.o _ N.o 1 _ rfl;clear hb)|(go_at_call 26;refine(h6.o _ N.o).e44 ?_)|((with_reducible refine za tyK36 _ rfl ?_ (i1.o _ N.o) rfl e8.o ?_);exact wA rfl)|((with_reducible refine za tyK36 _ rfl ?_ (i1.o _ a0.o) rfl e8.o ?_);exact wA rfl)|((with_reducible refine za tyK36 _ rfl ?_ (l1.o _ a0.o) rfl k3.o ?_);exact wA rfl)|(go_at_call 19;with_reducible refine(g9.o _ N.o).mono ?_;rintro e y2 ⟨rfl,hb⟩;have a0:=I (beT N.o hb);clear hb)|(go_at_call 19;with_reducible refine(g8.o _ a0.o).mono ?_;rintro e y3 ⟨rfl,hb⟩;have i6:=I (beT a0.o hb);clear hb)|(go_at_call 23;(with_reducible refine(c7.o _ i6.o).mono ?_);rintro e y9 ⟨rfl,b6,A,G⟩;have a4:=I A;have e7:=I G;have a6:=I (X.o _ _ _ i6.o A G);clear A G)|(go_at_call 23;(with_reducible refine(c7.o _ a0.o).mono ?_);rintro e y9 ⟨rfl,b6,A,G⟩;have a4:=I A;have e7:=I G;have a6:=I (X.o _ _ _ a0.o A G);clear A G)|(go_at_call 23;(with_reducible refine(c7.o _ N.o).mono ?_);rintro e y9 ⟨rfl,b6,A,G⟩;have a4:=I A;have e7:=I G;have a6:=I (X.o _ _ _ N.o A G);clear A G));go_roundg g;case measure=>omega
    case rel=>exact⟨j+1,b6,D2,by omega,by go_num,a4.o,a6.o⟩
end
section
open Go Go.RowKit P
theorem zeh (m:ModelT) (mcs:List Value) (w:World) (hm:ModelAt w w.heap.size mcs m) (htab:TabP w) (h:makeE m.labels m.order≠0):
  Calls Tryz.prog 8 #[.agg ⟨mcs⟩] w fun e w'=>∃ lv,e= .returned lv/\OwnSl 68 2 encF w' w.heap.size lv [(1, -1)]/\Below w.heap.size w w':=by
 obtain⟨OA,GA,VA,MA,NA,oc,gc,vc,mc,nc,rfl,ho,hg,hv,a4,hn⟩:=z1b hm;have HM:=I hm;have b2:=I (And.intro hg (And.intro hv (And.intro a4 hn)));have HB:=I (zc w (.cells ⟨zQ m OA GA VA MA NA oc gc vc mc nc⟩ 27));have HW:=I (Whole.new w (zQ m OA GA VA MA NA oc gc vc mc nc) 27);have HZ:Hid ((w.alloc (.cells ⟨zQ m OA GA VA MA NA oc gc vc mc nc⟩ 27)).heap.size= w.heap.size+1):=I (by simp);have H:=I h;have c7:=I htab;clear hm ho hg hv a4 hn h htab;go_enter Tryz.func8,Tryz.ntmps8;go_upto_region 1 with (fail);generalize w.alloc (.cells ⟨zQ m OA GA VA MA NA oc gc vc mc nc⟩ 27)= W at*;have a8:=I (zgH m (zQ m OA GA VA MA NA oc gc vc mc nc) W ((HM.o.under HB.o).more HB.o.size) H.o);have a9:Hid ((zQ m OA GA VA MA NA oc gc vc mc nc).length= 6):=I rfl;have c5:=I (z68 m OA GA VA MA NA oc gc vc mc nc);obtain⟨mb,A⟩:∃ q,w.heap.size= q:=⟨_,rfl⟩;have HQ:=I A;rw[A] at HW HZ;rw[A];clear A;have b0:=I HW.o.range;go_upto_region 2 with (first|((with_reducible refine za tyK27 _ rfl ?_ b0.o rfl a9.o ?_);exact wA rfl)|(go_at_call 22;refine(a8.o).k44 ?_;intro y HY));have a1:=I (zc y (.cells #[.pointer (some ⟨mb,0,none⟩),.pointer none,.slice none 0 0] 79));have G:Hid (Whole 79 (y.alloc (.cells #[.pointer (some ⟨mb,0,none⟩),.pointer none,.slice none 0 0] 79)) y.heap.size [.pointer (some ⟨mb,0,none⟩),.pointer none,.slice none 0 0]):=I (Whole.new y [.pointer (some ⟨mb,0,none⟩),.pointer none,.slice none 0 0] 79);go_upto_region 3 with (fail);generalize y.alloc (.cells #[.pointer (some ⟨mb,0,none⟩),.pointer none,.slice none 0 0] 79)= X at*;obtain⟨cb,g⟩:∃ q,y.heap.size= q:=⟨_,rfl⟩;have N:=G;have a6:=I g;rw[g] at N;rw[g];clear g G;have b8:=I (a1.o);have a0:Hid (Below w.heap.size w y):=I (beT HB.o HY.o);have Y:Hid (Below w.heap.size w X):=I (beT a0.o a1.o);have O:Hid (w.heap.size<=cb):=I (a6.o▸a0.o.size);have a7:Hid (Ck 79 68 X X cb (.pointer (some ⟨mb,0,none⟩)) (.pointer none) (.slice none 0 0) []):=I ⟨N.o,OwnSl.nil _ _,CkStep.refl _ _ _,N.o.lt⟩;have C:Hid (∀ u' lv' L,Ck 79 68 X u' cb (.pointer (some ⟨mb,0,none⟩)) (.pointer none) lv' L->OwnSl 68 2 encF u' w.heap.size lv' L/\Below w.heap.size w u'):=I fun u' lv' L h=>⟨h.own.mono Y.o.size,Y.o.trans (h.below O.o)⟩;have HP:=I (z4C a7.o (by simp) 1 (-1));obtain⟨V,hV⟩:∃ V,makeE m.labels m.order= V:=⟨_,rfl⟩;rw[hV] at H
 (try rw[hV])
 have q0:(V ==0)= false:=by rw[beq_eq_false_iff_ne];exact H.o
 go_wp2_with (go_at_call 23;refine HP.o.mono ?_;rintro e y9 ⟨rfl,b1,a2,a3⟩;have K:=I a2;have b9:=I a3;have dk:=K.o.cells.1 2 _ rfl;clear a2 a3);go_ret;exact⟨b1,rfl,(C.o _ _ _ K.o).1,(C.o _ _ _ K.o).2⟩
theorem zei (m:ModelT) (mcs:List Value) (w:World) (hm:ModelAt w w.heap.size mcs m) (htab:TabP w) (h:makeE m.labels m.order= 0):
  Calls Tryz.prog 8 #[.agg ⟨mcs⟩] w fun e w'=>∃ lv,e= .returned lv/\OwnSl 68 2 encF w' w.heap.size lv (z0n m.labels.toNat (ordOf m.labels.toNat m.order) m (zP m))/\Below w.heap.size w w':=by
 obtain⟨OA,GA,VA,MA,NA,oc,gc,vc,mc,nc,rfl,ho,hg,hv,b0,hn⟩:=z1b hm;have HM:=I hm;have d8:=I (And.intro hg (And.intro hv (And.intro b0 hn)));have HB:=I (zc w (.cells ⟨zQ m OA GA VA MA NA oc gc vc mc nc⟩ 27));have HW:=I (Whole.new w (zQ m OA GA VA MA NA oc gc vc mc nc) 27);have HZ:Hid ((w.alloc (.cells ⟨zQ m OA GA VA MA NA oc gc vc mc nc⟩ 27)).heap.size= w.heap.size+1):=I (by simp);have H:=I h;have i2:=I htab;clear hm ho hg hv b0 hn h htab;go_enter Tryz.func8,Tryz.ntmps8;go_upto_region 1 with (fail);generalize w.alloc (.cells ⟨zQ m OA GA VA MA NA oc gc vc mc nc⟩ 27)= W at*;have h8:=I (zgI m (zQ m OA GA VA MA NA oc gc vc mc nc) W ((HM.o.under HB.o).more HB.o.size) H.o);have h9:Hid ((zQ m OA GA VA MA NA oc gc vc mc nc).length= 6):=I rfl;have k0:=I (z68 m OA GA VA MA NA oc gc vc mc nc);obtain⟨mb,a9⟩:∃ q,w.heap.size= q:=⟨_,rfl⟩;have HQ:=I a9;rw[a9] at HW HZ;rw[a9];clear a9;have i3:=I HW.o.range;go_upto_region 2 with (first|((with_reducible refine za tyK27 _ rfl ?_ i3.o rfl h9.o ?_);exact wA rfl)|(go_at_call 22;refine h8.o.mono ?_;rintro e y ⟨rfl,hl,hb⟩;have HY:=I hb;have HL:=I hl;clear hl;clear hb));obtain⟨lb,c7⟩:∃ q,W.heap.size+1= q:=⟨_,rfl⟩;rw[c7] at HL;rw[c7];clear c7;have O:=I (zc y (.cells #[.pointer (some ⟨mb,0,none⟩),.pointer (some ⟨lb,0,none⟩),.slice none 0 0] 79));have b3:Hid (Whole 79 (y.alloc (.cells #[.pointer (some ⟨mb,0,none⟩),.pointer (some ⟨lb,0,none⟩),.slice none 0 0] 79)) y.heap.size [.pointer (some ⟨mb,0,none⟩),.pointer (some ⟨lb,0,none⟩),.slice none 0 0]):=I (Whole.new y [.pointer (some ⟨mb,0,none⟩),.pointer (some ⟨lb,0,none⟩),.slice none 0 0] 79);go_upto_region 3 with (fail);generalize y.alloc (.cells #[.pointer (some ⟨mb,0,none⟩),.pointer (some ⟨lb,0,none⟩),.slice none 0 0] 79)= X at*;obtain⟨cb,a8⟩:∃ q,y.heap.size= q:=⟨_,rfl⟩;have b9:=b3;have e0:=I a8;rw[a8] at b9;rw[a8];clear a8 b3;have j8:=I (O.o);have b8:Hid (Below w.heap.size w y):=I (beT HB.o HY.o);have f6:Hid (Below w.heap.size w X):=I (beT b8.o O.o);have d9:Hid (w.heap.size<=cb):=I (e0.o▸b8.o.size);have e4:Hid (Ck 79 68 X X cb (.pointer (some ⟨mb,0,none⟩)) (.pointer (some ⟨lb,0,none⟩)) (.slice none 0 0) []):=I ⟨b9.o,OwnSl.nil _ _,CkStep.refl _ _ _,b9.o.lt⟩;have K:Hid (∀ u' lv' L,Ck 79 68 X u' cb (.pointer (some ⟨mb,0,none⟩)) (.pointer (some ⟨lb,0,none⟩)) lv' L->OwnSl 68 2 encF u' w.heap.size lv' L/\Below w.heap.size w u'):=I fun u' lv' L h=>⟨h.own.mono f6.o.size,f6.o.trans (h.below d9.o)⟩;have a2:=I (z4C e4.o (by simp) 7 (-1));have a3:Hid (∀ z,Below y.heap.size y z->z.rangeAt mb 0 (zQ m OA GA VA MA NA oc gc vc mc nc)):=I fun z hz=>zb (zb HW.o.range HY.o HW.o.lt) hz (Nat.lt_of_lt_of_le HW.o.lt HY.o.size);have d2:X.cell? ⟨mb,2,none⟩= some (.slice GA m.grants.length gc):=a3.o X O.o 2 _ rfl;have d3:X.cell? ⟨mb,3,none⟩= some (.slice VA m.vars.length vc):=a3.o X O.o 3 _ rfl;have d4:X.cell? ⟨mb,4,none⟩= some (.slice MA m.msgs.length mc):=a3.o X O.o 4 _ rfl;have d5:X.cell? ⟨mb,5,none⟩= some (.slice NA m.nodes.length nc):=a3.o X O.o 5 _ rfl;have a4:Hid True:=I trivial
 (try rw[H.o])
 have q0:Hid ( ¬sizeB m= true->z0n m.labels.toNat (ordOf m.labels.toNat m.order) m (zP m)=[(7, -1)]):=I fun h=>by unfold z0n;rw[if_neg h]
 by_cases g1:16 < m.vars.length
 ·have t1:decide ((16:Int) <(m.vars.length:Int))= true:=decide_eq_true (by omega)
  clear a4;go_wp2_with (go_at_call 23;refine a2.o.mono ?_;rintro e y9 ⟨rfl,N,A,G⟩;have C:=I A;have Y:=I G;have dk:=C.o.cells.1 2 _ rfl;clear A G);go_ret;exact⟨N,rfl,by rw[q0.o (by unfold sizeB;simp;omega)];exact(K.o _ _ _ C.o).1,(K.o _ _ _ C.o).2⟩
 have t1:decide ((16:Int) <(m.vars.length:Int))= false:=decide_eq_false (by omega);by_cases g2:8 < m.msgs.length
 ·have t2:decide ((8:Int) <(m.msgs.length:Int))= true:=decide_eq_true (by omega)
  clear a4;go_wp2_with (go_at_call 23;refine a2.o.mono ?_;rintro e y9 ⟨rfl,N,A,G⟩;have C:=I A;have Y:=I G;have dk:=C.o.cells.1 2 _ rfl;clear A G);go_ret;exact⟨N,rfl,by rw[q0.o (by unfold sizeB;simp;omega)];exact(K.o _ _ _ C.o).1,(K.o _ _ _ C.o).2⟩
 have t2:decide ((8:Int) <(m.msgs.length:Int))= false:=decide_eq_false (by omega);by_cases g3:64 < m.grants.length
 ·have t3:decide ((64:Int) <(m.grants.length:Int))= true:=decide_eq_true (by omega)
  clear a4;go_wp2_with (go_at_call 23;refine a2.o.mono ?_;rintro e y9 ⟨rfl,N,A,G⟩;have C:=I A;have Y:=I G;have dk:=C.o.cells.1 2 _ rfl;clear A G);go_ret;exact⟨N,rfl,by rw[q0.o (by unfold sizeB;simp;omega)];exact(K.o _ _ _ C.o).1,(K.o _ _ _ C.o).2⟩
 have t3:decide ((64:Int) <(m.grants.length:Int))= false:=decide_eq_false (by omega);by_cases g4:m.nodes.length < 1
 ·have t4:decide ((m.nodes.length:Int) <(1:Int))= true:=decide_eq_true (by omega)
  clear a4;go_wp2_with (go_at_call 23;refine a2.o.mono ?_;rintro e y9 ⟨rfl,N,A,G⟩;have C:=I A;have Y:=I G;have dk:=C.o.cells.1 2 _ rfl;clear A G);go_ret;exact⟨N,rfl,by rw[q0.o (by unfold sizeB;simp;omega)];exact(K.o _ _ _ C.o).1,(K.o _ _ _ C.o).2⟩
 have t4:decide ((m.nodes.length:Int) <(1:Int))= false:=decide_eq_false (by omega);by_cases g5:40 < m.nodes.length
 ·have t5:decide ((40:Int) <(m.nodes.length:Int))= true:=decide_eq_true (by omega)
  clear a4;go_wp2_with (go_at_call 23;refine a2.o.mono ?_;rintro e y9 ⟨rfl,N,A,G⟩;have C:=I A;have Y:=I G;have dk:=C.o.cells.1 2 _ rfl;clear A G);go_ret;exact⟨N,rfl,by rw[q0.o (by unfold sizeB;simp;omega)];exact(K.o _ _ _ C.o).1,(K.o _ _ _ C.o).2⟩
 have t5:decide ((40:Int) <(m.nodes.length:Int))= false:=decide_eq_false (by omega);have i1:Hid (sizeB m= true):=I (by unfold sizeB;simp;omega);have HS:Hid (CkS m mb lb m.labels.toNat (ordOf m.labels.toNat m.order) y OA GA VA MA NA oc gc vc mc nc):=I (by
  have hb:=b8.o;have hs:=hb.size;obtain⟨hg,hv,b0,hn⟩:=d8.o;exact⟨a3.o y (Below.refl _ _),Nat.lt_of_lt_of_le HW.o.lt HY.o.size,(hg.below hb (fun _ _ _ h=>h)).more hs,((hv.below hb (fun _ _ _ h=>h.under hb)).weak fun _ _ h=>h.more hs).more hs,((b0.below hb (fun _ _ _ h=>h.under hb)).weak fun _ _ h=>h.more hs).more hs,((hn.below hb (fun _ _ _ h=>h.under hb)).weak fun _ _ h=>h.more hs).more hs,HL.o,i2.o.next hb,by omega,by omega,by omega,by omega⟩)
 have a1:Hid (y.heap.size<=cb):=I (Nat.le_of_eq e0.o);have f5:=I (ze8 HS.o e4.o O.o a1.o (by simp) (by omega));have f1:Hid ((upto (varF m.labels.toNat (ordOf m.labels.toNat m.order) m) m.vars.length).length<=16):=I (Nat.le_trans (z0M (z5I _ _ _) _) (by omega));have h7:Hid ((upto (msgF m.labels.toNat (ordOf m.labels.toNat m.order) m) m.msgs.length).length<=8):=I (Nat.le_trans (z0M (z5y _ _ _) _) (by omega));have f0:Hid (∀ j,j<=m.grants.length->(upto (z1W m.labels.toNat (ordOf m.labels.toNat m.order) m) j).length<=64):=I fun j hj=>Nat.le_trans (z0M (z62 _ _ _) _) (by omega);have f3:Hid (m.msgs.length<=100/\m.nodes.length<=100):=I (by omega);clear a4 a2;go_upto_region 11 with (first|(go_at_call 24;refine f5.o.mono ?_;rintro e u1 ⟨rfl,lv1,A,G⟩;have C:=I A;have f2:=I (ze7 HS.o C.o O.o a1.o (by have:=f1.o;simp only[List.nil_append];omega) f3.o.1);clear A G)|(go_at_call 25;refine f2.o.mono ?_;rintro e u2 ⟨rfl,i9,A,G⟩;have Y:=I A;clear A G));obtain⟨L2,a7⟩:∃ L2,[] ++ upto (varF m.labels.toNat (ordOf m.labels.toNat m.order) m) m.vars.length ++ upto (msgF m.labels.toNat (ordOf m.labels.toNat m.order) m) m.msgs.length= L2:=⟨_,rfl⟩;have e9:=I a7;have e8:Hid (L2.length<=24):=I (by
  have h1:=f1.o;have h2:=h7.o;rw[← a7,List.nil_append,List.length_append];omega)
 rw[a7] at Y;clear a7 f2 C f5;have h5:=I (CkD.of Y.o O.o a1.o);have d2:u2.cell? ⟨mb,2,none⟩= some (.slice GA m.grants.length gc):=a3.o u2 h5.o.bel 2 _ rfl;go_wp2;clear d2;have j5:(m.grants.length:Int)<=64:=by omega
 obtain⟨-,j7,k3,e1,b4⟩:=id HS.o.grants;injection e1 with e1 e2 e3;subst e1 e3;have f4:=I b4;clear e2 b4;go_loopg [65] m.grants.length (fun q yv z=>∃ (j:Nat) (lv1:Value),j+q= m.grants.length/\yv= .int .i64 j/\Ck 79 68 X z cb (.pointer (some ⟨mb,0,none⟩)) (.pointer (some ⟨lb,0,none⟩)) lv1 (L2 ++ upto (z1W m.labels.toNat (ordOf m.labels.toNat m.order) m) j));case atStart=>exact⟨0,i9,by omega,rfl,by rw[z3i,List.append_nil];exact Y.o⟩
 case round=>
  obtain⟨j,lv1,hj,rfl,g6⟩:=hrel;have b6:=I g6;clear g6;obtain⟨z,hz⟩:∃ z,z= wr:=⟨_,rfl⟩;subst hz;cases gk with
  |zero=>
   obtain rfl:j= m.grants.length:=by omega
   have k4: ¬ ((m.grants.length:Int) <(m.grants.length:Int)):=by omega
   have i0:=I (zbK HS.o b6.o O.o a1.o (by have h1:=e8.o;have h2:=f0.o m.grants.length (Nat.le_refl _);rw[List.length_append];omega) f3.o.2);have h6:Hid (L2 ++ upto (z1W m.labels.toNat (ordOf m.labels.toNat m.order) m) m.grants.length ++ upto (nodeF m.labels.toNat (ordOf m.labels.toNat m.order) m (zP m)) m.nodes.length ++ putF (z1C m) 7 (-1)= z0n m.labels.toNat (ordOf m.labels.toNat m.order) m (zP m)):=I (by
    unfold z0n;rw[if_pos i1.o,← e9.o];simp only[List.nil_append,List.append_assoc])
   go_wp2_with (go_at_call 27;refine i0.o.mono ?_;rintro e y9 ⟨rfl,N,A,G⟩;have e7:=I A;have dk:=e7.o.cells.1 2 _ rfl;clear A G);go_ret;have h:=K.o _ _ _ e7.o;rw[h6.o] at h;exact⟨N,rfl,h.1,h.2⟩
  |succ g=>
   have k7:(j:Int) <(m.grants.length:Int):=by omega
   have k6:(0:Int)<=(j:Int):=by omega
   have i8:j < m.grants.length:=by omega
   obtain⟨x,hx⟩:∃ x,m.grants[j]?= some x:=⟨_,List.getElem?_eq_getElem i8⟩;obtain⟨gb,go,rfl,c5,hc⟩:=f4.o (by omega);obtain⟨ks,_,c6,rfl,i4,i5⟩:=hc j x hx;have HX:=I hx;have HD:=I (CkD.of b6.o O.o a1.o);have g0:z.cell? ⟨gb,go+j*2,none⟩= some (.int .i64 x.1):=zb c6 HD.o.bel c5 0 _ rfl;have f7:z.cell? ⟨gb,go+j*2+1,none⟩= some (.int .i64 x.2):=zb c6 HD.o.bel c5 1 _ rfl;clear hc c6 hx c5;obtain⟨x1,x2⟩:=x;simp only at g0 f7 i4 i5;have h4:=I (zc z (.cells #[.int .i64 x1,.int .i64 x2] 57));have p0:(z.alloc (.cells #[.int .i64 x1,.int .i64 x2] 57)).cell? ⟨z.heap.size,0,none⟩= some (.int .i64 x1):=(Whole.new z [.int .i64 x1,.int .i64 x2] 57).range 0 _ rfl;have p1:(z.alloc (.cells #[.int .i64 x1,.int .i64 x2] 57)).cell? ⟨z.heap.size,1,none⟩= some (.int .i64 x2):=(Whole.new z [.int .i64 x1,.int .i64 x2] 57).range 1 _ rfl;go_upto_region 14 with (fail);generalize z.alloc (.cells #[.int .i64 x1,.int .i64 x2] 57)= Z at*;have e5:=I (b6.o.on h4.o);have e6:=I (CkD.of e5.o O.o a1.o);have b5:=I (z1w HS.o e6.o x1);have d7:=I (z1w HS.o e6.o x2);obtain⟨zq,c9⟩:∃ q,z.heap.size= q:=⟨_,rfl⟩;rw[c9] at p0 p1;rw[c9];clear c9;have b7:Hid ((z1W m.labels.toNat (ordOf m.labels.toNat m.order) m) j= putF (lqI m.labels.toNat (ordOf m.labels.toNat m.order) x1 x1 && lqI m.labels.toNat (ordOf m.labels.toNat m.order) x2 x2) 4 j):=I (by
    show(match m.grants[j]? with|none=>[]|some g=>putF (lqI m.labels.toNat (ordOf m.labels.toNat m.order) g.1 g.1 && lqI m.labels.toNat (ordOf m.labels.toNat m.order) g.2 g.2) 4 j)= _;rw[HX.o])
   obtain⟨b1,f8⟩:∃ b,lqI m.labels.toNat (ordOf m.labels.toNat m.order) x1 x1= b:=⟨_,rfl⟩;obtain⟨b2,f9⟩:∃ b,lqI m.labels.toNat (ordOf m.labels.toNat m.order) x2 x2= b:=⟨_,rfl⟩;rw[f8] at b5 b7;rw[f9] at d7 b7;have a6:Hid (Calls Tryz.prog 23 #[.pointer (some ⟨cb,0,none⟩),.bool (b1 && b2),.int .i64 4,.int .i64 j] Z fun e u'=>e= .returned (.tuple #[])/\∃ lv',Ck 79 68 X u' cb (.pointer (some ⟨mb,0,none⟩)) (.pointer (some ⟨lb,0,none⟩)) lv' (L2 ++ upto (z1W m.labels.toNat (ordOf m.labels.toNat m.order) m) (j+1))/\CkStep cb Z u' lv1 lv'):=I (by
    rw[z2y,b7.o,← List.append_assoc];exact z6T e5.o (by have h1:=e8.o;have h2:=f0.o j (by omega);rw[List.length_append];omega) _ 4 j)
   clear f8 f9 g0 f7;cases b1 with
   |false=>
    rw[Bool.false_and] at a6;go_wp2_with (first|(go_at_call 26;(with_reducible refine(b5.o).e44 ?_))|(go_at_call 23;refine a6.o.mono ?_;rintro e y9 ⟨rfl,N,A,G⟩;have C:=I A;have Y:=I G;have dk:=C.o.cells.1 2 _ rfl;clear A G));go_roundg g;case measure=>omega
    case rel=>exact⟨j+1,N,by omega,by go_num,C.o⟩
   |true=>
    rw[Bool.true_and] at a6;go_wp2_with (first|(go_at_call 26;(with_reducible refine(b5.o).e44 ?_))|(go_at_call 26;(with_reducible refine(d7.o).e44 ?_))|(go_at_call 23;refine a6.o.mono ?_;rintro e y9 ⟨rfl,N,A,G⟩;have C:=I A;have Y:=I G;have dk:=C.o.cells.1 2 _ rfl;clear A G));go_roundg g;case measure=>omega
    case rel=>exact⟨j+1,N,by omega,by go_num,C.o⟩
theorem z33 (m:ModelT) (mcs:List Value) (w:World) (hm:ModelAt w w.heap.size mcs m) (htab:TabP w):
  Calls Tryz.prog 8 #[.agg ⟨mcs⟩] w fun e w'=>∃ lv,e= .returned lv/\OwnSl 68 2 encF w' w.heap.size lv (wellM m (zP m))/\Below w.heap.size w w':=by
 unfold wellM;by_cases h:makeE m.labels m.order= 0
 ·rw[if_pos h];exact zei m mcs w hm htab h
 ·rw[if_neg h];exact zeh m mcs w hm htab h
end
section
open Go Go.RowKit P
def ezC:List Value:=[.int .i64 0,.string ⟨#[]⟩,.int .i64 0,.int .i64 0,.float .f64 0,.string ⟨#[]⟩,.slice none 0 0,.slice none 0 0,.slice none 0 0,.slice none 0 0]
def ndC (k:Int) (s:Value):List Value:=[.int .i64 k,.int .i64 0,s,.slice none 0 0] ++ ezC ++ ezC ++ [.int .i64 (-1),.int .i64 (-1),.int .i64 (-1),.int .i64 0,.int .i64 0]
def plC (v:Value):List Value:=[.int .i64 1,.slice none 0 0,.slice none 0 0,.slice none 0 0,.slice none 0 0,v]
def sl1 (b n:Nat):Value:= .slice (some ⟨b,0,none⟩) n n
def zbQ (w:World) (e:Ending) (w':World):Prop:=∃ b1 b2,w.heap.size<=b1/\w.heap.size<=b2/\b1≠b2/\e= .returned (.agg ⟨plC (sl1 b2 2)⟩)/\Whole 3 w' b1 [.int .i64 1]/\Whole 49 w' b2 (ndC 1 (sl1 b1 1) ++ ndC 2 (.slice none 0 0))/\Below w.heap.size w w'
def smW (w:World):World:=((w.alloc (.cells ⟨plC (sl1 (w.heap.size+1+1) 2)⟩ 27)).alloc (.cells ⟨[.int .i64 1]⟩ 3)).alloc (.cells ⟨ndC 1 (sl1 (w.heap.size+1) 1) ++ ndC 2 (.slice none 0 0)⟩ 49)
theorem zfk (w:World):(smW w).cell? ⟨w.heap.size,5,none⟩= some (sl1 (w.heap.size+1+1) 2)/\(smW w).rangeAt w.heap.size 0 (plC (sl1 (w.heap.size+1+1) 2)):=by
 have h1:=Whole.new w (plC (sl1 (w.heap.size+1+1) 2)) 27;have g2:=zc (w.alloc (.cells ⟨plC (sl1 (w.heap.size+1+1) 2)⟩ 27)) (.cells ⟨[.int .i64 1]⟩ 3);have g3:=zc ((w.alloc (.cells ⟨plC (sl1 (w.heap.size+1+1) 2)⟩ 27)).alloc (.cells ⟨[.int .i64 1]⟩ 3)) (.cells ⟨ndC 1 (sl1 (w.heap.size+1) 1) ++ ndC 2 (.slice none 0 0)⟩ 49);have h2:=h1.keep (g2.block _ h1.lt);have h3:=(h2.keep (g3.block _ h2.lt)).range;exact⟨h3 5 _ rfl,h3⟩
theorem zfl (w:World):zbQ w (.returned (.agg ⟨plC (sl1 (w.heap.size+1+1) 2)⟩)) (smW w):=by
 have g1:=zc w (.cells ⟨plC (sl1 (w.heap.size+1+1) 2)⟩ 27);have s1:(w.alloc (.cells ⟨plC (sl1 (w.heap.size+1+1) 2)⟩ 27)).heap.size= w.heap.size+1:=by simp
 unfold smW;generalize w.alloc (.cells ⟨plC (sl1 (w.heap.size+1+1) 2)⟩ 27)= A at*;have g2:=zc A (.cells ⟨[.int .i64 1]⟩ 3);have h2:=Whole.new A [.int .i64 1] 3;have s2:(A.alloc (.cells ⟨[.int .i64 1]⟩ 3)).heap.size= A.heap.size+1:=by simp
 generalize A.alloc (.cells ⟨[.int .i64 1]⟩ 3)= B at*;have g3:=zc B (.cells ⟨ndC 1 (sl1 (w.heap.size+1) 1) ++ ndC 2 (.slice none 0 0)⟩ 49);have h3:=Whole.new B (ndC 1 (sl1 (w.heap.size+1) 1) ++ ndC 2 (.slice none 0 0)) 49;generalize B.alloc (.cells ⟨ndC 1 (sl1 (w.heap.size+1) 1) ++ ndC 2 (.slice none 0 0)⟩ 49)= C at*;rw[s1] at h2;rw[s2,s1] at h3;refine⟨w.heap.size+1,w.heap.size+1+1,by omega,by omega,by omega,rfl,h2.keep (g3.block _ h2.lt),h3,g1.trans ((beT g2 g3).mono g1.size)⟩
theorem z6W (w:World):Calls Tryz.prog 17 #[] w (zbQ w):=by
 have A:=I (zfl w);have g:=I (zfk w);go_enter Tryz.func17,Tryz.ntmps17;go_upto_region 1 with (fail);go_wp2;show bodyPost _ _ _ _ _ (smW w);generalize smW w= Z at*;refine bodyPost_ret (zk rfl Tryz.underlying27 rfl _ _ w.heap.size (plC (sl1 (w.heap.size+1+1) 2)) (by kernel_rfl) rfl g.o.2) rfl ?_;exact A.o
theorem zha (l:List z03) (v v':Value) (w:World) (hv:SlAt w w.heap.size 2 (Enc encF) v l) (hv':SlAt w w.heap.size 2 (Enc encF) v' l) (hl:l.length<=1000):
  Calls Tryz.prog 18 #[v,v'] w fun e w'=>e= .returned (.bool true)/\Below w.heap.size w w':=by
 obtain⟨-,A,c,rfl,h1⟩:=hv;obtain⟨-,A',c',rfl,h2⟩:=hv';have H1:=I h1;have H2:=I h2;have N:(l.length:Int)<=1000:=by omega
 clear h1 h2;go_enter Tryz.func18,Tryz.ntmps18;go_wp2;go_loopg [5] l.length (fun g i wr=>∃ k m:Nat,k+g= l.length/\i= .int .i64 k/\wr= w.drewN m);case atStart=>exact⟨0,0,by omega,rfl,rfl⟩
 case round=>
  obtain⟨k,m,hk,rfl,rfl⟩:=hrel;cases gk with
  |zero=>
   have a7: ¬ ((k:Int) <(l.length:Int)):=by omega
   go_wp2;go_ret;exact⟨rfl,zj (Below.refl _ w) m⟩
  |succ g=>
   have a8:(k:Int) <(l.length:Int):=by omega
   have a2:k < l.length:=by omega
   obtain⟨f,hf⟩:∃ f,l[k]?= some f:=⟨_,List.getElem?_eq_getElem a2⟩;obtain⟨b1,o1,rfl,Y,c1⟩:=H1.o (by omega);obtain⟨b2,o2,rfl,N,c2⟩:=H2.o (by omega);obtain⟨k1,_,O,rfl⟩:=c1 k f hf;obtain⟨k2,_,X,rfl⟩:=c2 k f hf;obtain⟨f0,f1⟩:=f;obtain⟨K,G⟩:∃ K,w.drewN m= K:=⟨_,rfl⟩;have C:Hid (Below w.heap.size w K):=I (by rw[← G];exact zj (Below.refl _ w) m);have a0:Hid (∀ q,∃ m',K.drewN q= w.drewN m'):=I fun q=>⟨m+q,by rw[← G,World.drewN_drewN]⟩;rw[G];have d1:K.cell? ⟨b1,o1+k*2,none⟩= some (.int .i64 f0):=zb O C.o Y 0 _ rfl;have d2:K.cell? ⟨b1,o1+k*2+1,none⟩= some (.int .i64 f1):=zb O C.o Y 1 _ rfl;have d3:K.cell? ⟨b2,o2+k*2,none⟩= some (.int .i64 f0):=zb X C.o N 0 _ rfl;have d4:K.cell? ⟨b2,o2+k*2+1,none⟩= some (.int .i64 f1):=zb X C.o N 1 _ rfl;clear c1 c2 G O X hf;go_upto_region 6 with (fail);go_quiet (fail);obtain⟨m',a3⟩:=a0.o nq;rw[a3];go_wp2;go_roundg g;case measure=>omega
   case rel=>exact⟨k+1,_,by omega,by go_num,rfl⟩
end
section
open Go Go.RowKit P
theorem z6Q (v:Value) (h:v.oneCell'= true):∀ u∈plC v,u.oneCell'= true:=by
 intro u hu;simp only[plC,List.mem_cons,List.not_mem_nil,or_false] at hu;rcases hu with rfl|rfl|rfl|rfl|rfl|rfl<;>first|rfl|exact h
theorem z3r {u:World} {k:Int} {s:Value} {nx:List Int} (hk:wfI k) (hs:SlAt u u.heap.size 1 IntR s nx):NodeAt u u.heap.size (ndC k s) (nd14 k nx):=
 ⟨⟨s,.slice none 0 0,ezC,ezC,rfl,rfl,rfl,hs,SlAt.nil _ _ _ _,Nat.zero_le _,ez_at _ _,ez_at _ _⟩,hk,zH 0 (by decide +kernel),zH (-1) (by decide +kernel),zH (-1) (by decide +kernel),zH (-1) (by decide +kernel),zH 0 (by decide +kernel),zH 0 (by decide +kernel)⟩
theorem one14 {u:World} {b:Nat} {x:Int} (hx:wfI x) (hr:u.rangeAt b 0 [.int .i64 x]) (hb:b < u.heap.size):SlAt u u.heap.size 1 IntR (sl1 b 1) [x]:=by
 refine⟨by simp,_,_,rfl,fun _=>⟨b,0,rfl,hb,fun i y hy=> ?_⟩⟩;have g:i= 0:=by have:=(List.getElem?_eq_some_iff.1 hy).1;simp at this;exact this
 subst g;injection hy with hy;subst hy;exact⟨[.int .i64 x],rfl,by rw[Nat.zero_mul];exact hr,rfl,hx⟩
theorem z8I {u:World} {l:List NodeT} {v:Value} (h:SlAt u u.heap.size 29 (NodeAt u u.heap.size) v l):ModelAt u u.heap.size (plC v) (m14 l):=
 ⟨⟨.slice none 0 0,.slice none 0 0,.slice none 0 0,.slice none 0 0,v,rfl,SlAt.nil _ _ _ _,SlAt.nil _ _ _ _,SlAt.nil _ _ _ _,SlAt.nil _ _ _ _,h⟩,zH 1 (by decide +kernel)⟩
theorem two14 {u:World} {b:Nat} {x y:NodeT} {cx cy:List Value} (hr:u.rangeAt b 0 (cx ++ cy)) (hb:b < u.heap.size) (h1:cx.length= 29) (h2:cy.length= 29) (hx:NodeAt u u.heap.size cx x) (hy:NodeAt u u.heap.size cy y):SlAt u u.heap.size 29 (NodeAt u u.heap.size) (sl1 b 2) [x,y]:=by
 refine⟨by simp,_,_,rfl,fun _=>⟨b,0,rfl,hb,fun i z hz=> ?_⟩⟩
 match i,hz with
 |0,hz=>
  injection hz with hz;subst hz;exact⟨cx,h1,fun j v hv=>by
   have:=hr j v (by rw[List.getElem?_append_left (List.getElem?_eq_some_iff.1 hv).1];exact hv);rwa [Nat.zero_mul,Nat.add_zero],hx⟩
 |1,hz=>
  injection hz with hz;subst hz;exact⟨cy,h2,fun j v hv=>by
   have:=hr (29+j) v (by rw[List.getElem?_append_right (by omega),h1,show 29+j - 29= j by omega];exact hv);rwa [show 0+ (29+j)= 0+1*29+j by omega] at this,hy⟩
 |i+2,hz=>simp at hz
theorem zhb {u:World} {b:Nat} {y:NodeT} {cx cy:List Value} (hr:u.rangeAt b 0 (cx ++ cy)) (hb:b < u.heap.size) (h1:cx.length= 29) (h2:cy.length= 29) (hy:NodeAt u u.heap.size cy y):SlAt u u.heap.size 29 (NodeAt u u.heap.size) (.slice (some ⟨b,29,none⟩) 1 1) [y]:=by
 refine⟨by simp,_,_,rfl,fun _=>⟨b,29,rfl,hb,fun i z hz=> ?_⟩⟩;have g:i= 0:=by have:=(List.getElem?_eq_some_iff.1 hz).1;simp at this;exact this
 subst g;injection hz with hz;subst hz;exact⟨cy,h2,fun j v hv=>by
  have:=hr (29+j) v (by rw[List.getElem?_append_right (by omega),h1,show 29+j - 29= j by omega];exact hv);rwa [show 0+ (29+j)= 29+0*29+j by omega] at this,hy⟩
theorem Whole.put14 {T:TypeId} {w:World} {b:Nat} {cs:List Value} (h:Whole T w b cs) (i:Nat) (v:Value):Whole T (w.setCell ⟨b,i,none⟩ v) b (cs.set i v):=by
 unfold Whole at h ⊢;simp[World.setCell,Array.getElem?_modify,h]
theorem zav {y:World} {base:Nat} {lv:Value} {f0 f1:Int} (h:OwnSl 68 2 encF y base lv [(f0,f1)]):
  Calls Tryz.prog 18 #[lv,.slice (some ⟨y.heap.size,0,none⟩) 1 1] (y.alloc (.cells #[.int .i64 f0,.int .i64 f1] 68)) fun e w'=>e= .returned (.bool true)/\Below y.heap.size y w':=by
 have g:=zc y (.cells #[.int .i64 f0,.int .i64 f1] 68);have A:Whole 68 (y.alloc (.cells #[.int .i64 f0,.int .i64 f1] 68)) y.heap.size [.int .i64 f0,.int .i64 f1]:=Whole.new y [.int .i64 f0,.int .i64 f1] 68;refine(zha [(f0,f1)] lv _ _ ((h.below g).at z8o (by simp)) ⟨by simp,_,_,rfl,fun _=>⟨_,0,rfl,A.lt,fun i x hx=> ?_⟩⟩ (by simp)).mono fun e w' h=>⟨h.1,g.trans (h.2.mono g.size)⟩;have C:i= 0:=by have:=(List.getElem?_eq_some_iff.1 hx).1;simp at this;exact this
 subst C;injection hx with hx;subst hx;exact⟨[.int .i64 f0,.int .i64 f1],rfl,by rw[Nat.zero_mul];exact A.range,rfl⟩
theorem zfJ (w:World) (htab:TabP w):Calls Tryz.prog 6 #[] w fun e w'=>e= .returned (.bool true)/\Below w.heap.size w w':=by
 have j2:=I htab;clear htab;go_enter Tryz.func6,Tryz.ntmps6;go_upto_region 2 with (first|(go_at_call 17;refine(z6W w).mono ?_;rintro e W1 ⟨a1,b1,h1,h2,h3,rfl,h4,h5,h6⟩;have h9:=I (And.intro h1 (And.intro h2 h3));have c6:=I h4;have c7:=I h5;have f9:=I h6;clear h1 h2 h3 h4 h5 h6)|((with_reducible refine z1f 27 _ _ rfl ?hwx5 W1 ?zz5 ((plC (sl1 b1 2))) ?hwld5 ?hz5 ?hx5 ?hy5 ?hi5 ?h15 ?_);(case hwld5=>rfl);(case hx5=>rfl);(case hy5=>rfl);(case hwx5=>(exact wA rfl));(case hz5=>rfl);(case hi5=>kernel_rfl);(case h15=>exact(z6Q _ rfl));intro N hZ;have c9:=I hZ;clear hZ));go_upto_region 3 with (first|(go_at_call 17;refine(z6W N).mono ?_;rintro e W2 ⟨a2,b2,h1,h2,h3,rfl,h4,h5,h6⟩;have f8:=I (And.intro h1 (And.intro h2 h3));have g7:=I h4;have c8:=I h5;have e7:=I h6;clear h1 h2 h3 h4 h5 h6)|((with_reducible refine z1f 27 _ _ rfl ?hwx6 W2 ?zz6 ((plC (sl1 b2 2))) ?hwld6 ?hz6 ?hx6 ?hy6 ?hi6 ?h16 ?_);(case hwld6=>rfl);(case hx6=>rfl);(case hy6=>rfl);(case hwx6=>(exact wA rfl));(case hz6=>rfl);(case hi6=>kernel_rfl);(case h16=>exact(z6Q _ rfl));intro O hZ;have d0:=I hZ;clear hZ));obtain⟨mb,d3⟩:∃ q,W1.heap.size= q:=⟨_,rfl⟩;have e4:Hid (mb < N.heap.size):=I (d3▸c9.o.size);have e5:Hid (N.rangeAt mb 0 (plC (sl1 b1 2))):=I (d3▸c9.o.range);have C:=I c9.o.below;obtain⟨nb,a5⟩:∃ q,W2.heap.size= q:=⟨_,rfl⟩;have a0:Hid (nb < O.heap.size):=I (a5▸d0.o.size);have b8:Hid (O.rangeAt nb 0 (plC (sl1 b2 2))):=I (a5▸d0.o.range);have b7:=I d0.o.below;have k0:Hid (N.heap.size<=nb):=I (a5▸e7.o.size);have a6:Hid (b2 < nb/\a2 < nb):=I (a5▸ ⟨c8.o.lt,g7.o.lt⟩);rw[d3,a5];clear d3 a5 c9 d0;have i4:Hid (a1 < N.heap.size/\b1 < N.heap.size):=I ⟨Nat.lt_of_lt_of_le c6.o.lt C.o.size,Nat.lt_of_lt_of_le c7.o.lt C.o.size⟩;have a9:=I (c6.o.keep (C.o.block _ c6.o.lt));have b3:=I (c7.o.keep (C.o.block _ c7.o.lt));have b5:=I (c8.o.keep (b7.o.block _ c8.o.lt));have g2:Hid (Below w.heap.size w N):=I (beT f9.o C.o);have a8:Hid (Below N.heap.size N O):=I (beT e7.o b7.o);have g0:=zc O (.cells #[.int .i64 0] 3);have h0:Whole 3 (O.alloc (.cells #[.int .i64 0] 3)) O.heap.size [.int .i64 0]:=Whole.new O [.int .i64 0] 3;have d4:=b5.o.keep (g0.block _ b5.o.lt);have d5:O.cell? ⟨nb,5,none⟩= some (.slice (some ⟨b2,0,none⟩) 2 2):=b8.o 5 _ rfl;have c2:(O.alloc (.cells #[.int .i64 0] 3)).cell? ⟨b2,2,none⟩= some (.slice (some ⟨a2,0,none⟩) 1 1):=d4.range 2 _ rfl;have f2:(O.alloc (.cells #[.int .i64 0] 3)).frozen? ⟨b2,2,none⟩= false:=d4.frozV (j:=2) (by simp[ndC,ezC]);have e8:=I g0;have e9:=I h0;have g6:=I d4;clear g0 h0 d4;go_upto_region 4 with (fail);clear d5 c2 f2;have g1:Hid (Below N.heap.size N (O.alloc (.cells #[.int .i64 0] 3))):=I (beT a8.o e8.o);have b0:Hid ((O.alloc (.cells #[.int .i64 0] 3)).heap.size= O.heap.size+1):=I (by simp);have g8:Hid ((O.alloc (.cells #[.int .i64 0] 3)).rangeAt nb 0 (plC (sl1 b2 2))):=I (zb b8.o e8.o a0.o);generalize O.alloc (.cells #[.int .i64 0] 3)= N0 at*;obtain⟨nn,d6⟩:∃ q,O.heap.size= q:=⟨_,rfl⟩;rw[d6] at e9 b0 a0;rw[d6];have i5:Hid (N.heap.size<=nn):=I (d6▸a8.o.size);clear d6 e8;have f1:Hid (Whole 49 (N0.setCell ⟨b2,2,none⟩ (.slice (some ⟨nn,0,none⟩) 1 1)) b2 (ndC 1 (sl1 nn 1) ++ ndC 2 (.slice none 0 0))):=I (Whole.put14 g6.o 2 (sl1 nn 1));have f0:Hid (Whole 3 (N0.setCell ⟨b2,2,none⟩ (.slice (some ⟨nn,0,none⟩) 1 1)) nn [.int .i64 0]):=I (e9.o.keep (Below.heap_setCell _ _ _ _ (show nn≠b2 from by have h1:=a6.o;have h2:=a0.o;omega)));have g9:Hid ((N0.setCell ⟨b2,2,none⟩ (.slice (some ⟨nn,0,none⟩) 1 1)).rangeAt nb 0 (plC (sl1 b2 2))):=I (fun i v hv=>(World.cell?_of_block (a:=⟨nb,0+i,none⟩) (Below.heap_setCell _ _ _ _ (show nb≠b2 from by have h1:=a6.o;omega))).trans (g8.o i v hv));have d9:Hid (Below N.heap.size N (N0.setCell ⟨b2,2,none⟩ (.slice (some ⟨nn,0,none⟩) 1 1))):=I (g1.o.setCell (p:=⟨b2,2,none⟩) f8.o.2.1 _);have f4:Hid (nb <(N0.setCell ⟨b2,2,none⟩ (.slice (some ⟨nn,0,none⟩) 1 1)).heap.size):=I (by have h1:=b0.o;have h2:=a0.o;simp[World.setCell];omega);generalize N0.setCell ⟨b2,2,none⟩ (.slice (some ⟨nn,0,none⟩) 1 1)= M3 at*;clear g6 g8 g1 e9 b0;go_upto_region 5 with (first|(go_at_call 17;refine(z6W M3).mono ?_;rintro e W4 ⟨a4,b4,h1,h2,h3,rfl,h4,h5,h6⟩;have i0:=I (And.intro h1 (And.intro h2 h3));have i3:=I h4;have a3:=I h5;have c5:=I h6;clear h1 h2 h3 h4 h5 h6)|((with_reducible refine zi 27 _ _ rfl rfl ?_ (Whole.new W4 [.int .i64 0,.slice none 0 0,.slice none 0 0,.slice none 0 0,.slice none 0 0,.slice none 0 0] 27) (plC (sl1 b4 2)) ?_ ?_ ?_ ?_ ?_ ?_);exact wA rfl;rfl;rfl;rfl;kernel_rfl;exact(z6Q _ rfl);intro M4 K G;have e0:=I G.o;have e3:=I ((zc W4 (.cells ⟨[.int .i64 0,.slice none 0 0,.slice none 0 0,.slice none 0 0,.slice none 0 0,.slice none 0 0]⟩ 27)).trans (G.o.below (by simp) (Nat.le_refl _) (Nat.le_refl _)))));have G:Hid (Below M3.heap.size M3 M4):=I (c5.o.trans ((e3.o.mono c5.o.size)));have b6:=I (a3.o.keep ((zc W4 (.cells ⟨[.int .i64 0,.slice none 0 0,.slice none 0 0,.slice none 0 0,.slice none 0 0,.slice none 0 0]⟩ 27)).block _ a3.o.lt));have e2:Hid (Whole 49 M4 b4 (ndC 1 (sl1 a4 1) ++ ndC 2 (.slice none 0 0))):=I (b6.o.keep (e0.o.block _ b6.o.lt (Nat.ne_of_lt a3.o.lt) (Nat.ne_of_lt a3.o.lt)));have a7:=I a3.o.lt;obtain⟨ob,d8⟩:∃ q,W4.heap.size= q:=⟨_,rfl⟩;have i8:Hid (M3.heap.size<=ob):=I (d8▸c5.o.size);rw[d8] at K a7;rw[d8];clear d8 a3 b6 e0 e3 i3;have d5:M4.cell? ⟨ob,5,none⟩= some (.slice (some ⟨b4,0,none⟩) 2 2):=K.o.range 5 _ rfl;have f5:M4.frozen? ⟨ob,5,none⟩= false:=K.o.frozV (j:=5) (by simp[plC]);have f7:Hid (Whole 27 (M4.setCell ⟨ob,5,none⟩ (.slice (some ⟨b4,29,none⟩) 1 1)) ob (plC (.slice (some ⟨b4,29,none⟩) 1 1))):=I (Whole.put14 K.o 5 _);have f3:Hid (Whole 49 (M4.setCell ⟨ob,5,none⟩ (.slice (some ⟨b4,29,none⟩) 1 1)) b4 (ndC 1 (sl1 a4 1) ++ ndC 2 (.slice none 0 0))):=I (e2.o.keep (Below.heap_setCell _ _ _ _ (Nat.ne_of_lt a7.o)));have Y:Hid (Below M3.heap.size M3 (M4.setCell ⟨ob,5,none⟩ (.slice (some ⟨b4,29,none⟩) 1 1))):=I (G.o.setCell (p:=⟨ob,5,none⟩) i8.o _);go_upto_region 6 with (fail);clear d5 f5;generalize M4.setCell ⟨ob,5,none⟩ (.slice (some ⟨b4,29,none⟩) 1 1)= M5 at*;have X:Hid (Below N.heap.size N M5):=I (beT d9.o Y.o);have e1:Hid (Below w.heap.size w M5):=I (beT g2.o X.o);have i9:Hid (∀ z,Below M5.heap.size M5 z->z.rangeAt mb 0 (plC (sl1 b1 2))):=I fun z hz=>zb (zb e5.o X.o e4.o) hz (Nat.lt_of_lt_of_le e4.o X.o.size);have j0:Hid (∀ z,Below M5.heap.size M5 z->z.rangeAt nb 0 (plC (sl1 b2 2))):=I fun z hz=>zb (zb g9.o Y.o f4.o) hz (Nat.lt_of_lt_of_le f4.o Y.o.size);have j1:Hid (∀ z,Below M5.heap.size M5 z->z.rangeAt ob 0 (plC (.slice (some ⟨b4,29,none⟩) 1 1))):=I fun z hz=>(f7.o.keep (hz.block _ f7.o.lt)).range;have f6:Hid (∀ z,Below M5.heap.size M5 z->TabP z):=I fun z hz=>j2.o.next (beT e1.o hz);have g3:Hid (∀ z,Below M5.heap.size M5 z->Calls Tryz.prog 8 #[.agg (plC (sl1 b1 2)).toArray] z fun e w'=>∃ lv,e= .returned lv/\OwnSl 68 2 encF w' z.heap.size lv []/\Below z.heap.size z w'):=I fun z hz=>by
  have g:=(beT X.o hz);have h1:=a9.o.keep (g.block _ a9.o.lt);have h2:=b3.o.keep (g.block _ b3.o.lt);have h:=z33 (m14 [nd14 1 [1],nd14 2 []]) (plC (sl1 b1 2)) z (z8I (two14 h2.range h2.lt rfl rfl (z3r (zH 1 (by decide +kernel)) (one14 (zH 1 (by decide +kernel)) h1.range h1.lt)) (z3r (zH 2 (by decide +kernel)) (SlAt.nil _ _ _ _)))) (f6.o z hz);rw[zgE] at h;exact h
 have g4:Hid (∀ z,Below M5.heap.size M5 z->Calls Tryz.prog 8 #[.agg (plC (sl1 b2 2)).toArray] z fun e w'=>∃ lv,e= .returned lv/\OwnSl 68 2 encF w' z.heap.size lv [(5,0)]/\Below z.heap.size z w'):=I fun z hz=>by
  have g:=(beT Y.o hz);have h1:=f0.o.keep (g.block _ f0.o.lt);have h2:=f1.o.keep (g.block _ f1.o.lt);have h:=z33 (m14 [nd14 1 [0],nd14 2 []]) (plC (sl1 b2 2)) z (z8I (two14 h2.range h2.lt rfl rfl (z3r (zH 1 (by decide +kernel)) (one14 (zH 0 (by decide +kernel)) h1.range h1.lt)) (z3r (zH 2 (by decide +kernel)) (SlAt.nil _ _ _ _)))) (f6.o z hz);rw[zgF] at h;exact h
 have g5:Hid (∀ z,Below M5.heap.size M5 z->Calls Tryz.prog 8 #[.agg (plC (.slice (some ⟨b4,29,none⟩) 1 1)).toArray] z fun e w'=>∃ lv,e= .returned lv/\OwnSl 68 2 encF w' z.heap.size lv [(7, -1)]/\Below z.heap.size z w'):=I fun z hz=>by
  have h2:=f3.o.keep (hz.block _ f3.o.lt);have h:=z33 (m14 [nd14 2 []]) (plC (.slice (some ⟨b4,29,none⟩) 1 1)) z (z8I (zhb h2.range h2.lt rfl rfl (z3r (zH 2 (by decide +kernel)) (SlAt.nil _ _ _ _)))) (f6.o z hz);rw[zgG] at h;exact h
 have i1:Hid (∀ z,Calls Tryz.prog 19 #[.agg ⟨[.int .i64 2,.slice none 0 0,.slice none 0 0]⟩] z fun e w'=>e= .returned (.bool true)/\Below z.heap.size z w'):=I fun z=>by
  have h:=z1B (pT 2) (tyC 2 (.slice none 0 0) (.slice none 0 0)) z (z0I (p:=fun _=>True) (zH 2 (by decide +kernel))).typ;rw[zck] at h;exact h
 have i2:Hid (∀ z,Calls Tryz.prog 19 #[.agg ⟨[.int .i64 7,.slice none 0 0,.slice none 0 0]⟩] z fun e w'=>e= .returned (.bool false)/\Below z.heap.size z w'):=I fun z=>by
  have h:=z1B (pT 7) (tyC 7 (.slice none 0 0) (.slice none 0 0)) z (z0I (p:=fun _=>True) (zH 7 (by decide +kernel))).typ;rw[zcl] at h;exact h
 clear g9 f4 f1 f0 f3 f7 e2 K G d9 e5 b8 a9 b3 c7 c6 c8 g7 b5 h9 f8 i0 f9 e7 c5 C b7 a8 a6 i4 i5 a7;go_wp2_with (first|((with_reducible refine za tyK27 _ rfl ?_ (i9.o _ (Below.refl _ _)) rfl ?_ ?_);exact wA rfl;rfl)|(go_at_call 8;(with_reducible refine(g3.o M5 (Below.refl M5.heap.size M5)).mono ?_);rintro e y1 ⟨lv1,rfl,ho,g⟩;obtain⟨A1,c1,rfl⟩:∃ A c,lv1= .slice A 0 c:=z0s ho;have k1:=I ho;have d1:=I (((Below.refl M5.heap.size M5)).trans (g.mono ((Below.refl M5.heap.size M5)).size));clear ho g)|((with_reducible refine za tyK27 _ rfl ?_ (j0.o _ d1.o) rfl ?_ ?_);exact wA rfl;rfl)|(go_at_call 8;(with_reducible refine(g4.o y1 d1.o).mono ?_);rintro e y2 ⟨k2,rfl,ho,g⟩;have i6:=I ho;have j3:=I ((d1.o).trans (g.mono (d1.o).size));clear ho g)|(go_at_call 18;(with_reducible refine(zav i6.o).mono ?_);rintro e y3 ⟨rfl,g⟩;have d2:=I (beT j3.o g);clear g)|((with_reducible refine za tyK27 _ rfl ?_ (j1.o _ d2.o) rfl ?_ ?_);exact wA rfl;rfl)|(go_at_call 8;(with_reducible refine(g5.o y3 d2.o).mono ?_);rintro e y4 ⟨k3,rfl,ho,g⟩;have i7:=I ho;have j4:=I ((d2.o).trans (g.mono (d2.o).size));clear ho g)|(go_at_call 18;(with_reducible refine(zav i7.o).mono ?_);rintro e y5 ⟨rfl,g⟩;have j7:=I (beT j4.o g);clear g)|(go_at_call 19;(with_reducible refine(i1.o _).mono ?_);rintro e z6 ⟨rfl,g⟩;have j6:=I (beT j7.o g);clear g)|(go_at_call 19;(with_reducible refine(i2.o _).mono ?_);rintro e y6 ⟨rfl,g⟩;have j5:=I (beT j6.o g);clear g));go_ret;exact⟨rfl,(beT e1.o j5.o)⟩
end
section
open Go Go.RowKit P
theorem zgz {w:World} {B:Nat} {cs:List Value} {x:VarT} (h:VarAt w B cs x):∃ c0 c1 ct ci,cs= c0::c1::(ct ++ ci)/\ct.length= 3/\ci.length= 6/\TypAt w B ct x.type/\ValAt w B ci x.init:=by
 obtain⟨⟨ct,ci,rfl,h1,h2,h3,h4⟩,_,_⟩:=h;exact⟨.string x.name,.int .i64 x.label,ct,ci,by simp,h1,h2,h3,h4⟩
theorem zfx {w:World} {b:Nat} {c0 c1:Value} {ct ci:List Value} (h:w.rangeAt b 0 (c0::c1::(ct ++ ci))) (hl:ct.length= 3):w.rangeAt b 5 ci:=fun i v hv=>by
 have:=h (5+i) v (by
  rw[show 5+i=(3+i)+1+1 by omega,List.getElem?_cons_succ,List.getElem?_cons_succ,List.getElem?_append_right (by omega),hl,show 3+i - 3= i by omega]
  exact hv)
 rwa [Nat.zero_add] at this
theorem zgA {w:World} {b:Nat} {c0 c1:Value} {ct ci:List Value} (h:w.rangeAt b 0 (c0::c1::(ct ++ ci))):w.rangeAt b 2 ct:=fun i v hv=>by
 have:=h (2+i) v (by
  rw[show 2+i= i+1+1 by omega,List.getElem?_cons_succ,List.getElem?_cons_succ,List.getElem?_append_left (List.getElem?_eq_some_iff.1 hv).1]
  exact hv)
 rwa [Nat.zero_add] at this
section
variable {P:Program} {ops:Array Oper} {S:World->Prop} {Q:Exit->Act->World->Prop} {i:Nat} {r:List (Nat × Bool)} {a:Act} {w:World} {o:Oper}
theorem z05 (d:Option Tmp) {o:Oper} (hS:S w) (h:wpOrd P ops S Q r (a.put d undef) w) (hi:ops[i]?= some o:=by rfl) (hd:o.dst= d:=by rfl) (hw:Region.wanted o (yielded ops a.tmps)= false:=by exact zd rfl rfl rfl rfl (by decide)):wpOrd P ops S Q ((i,true)::r) a w:=by subst hd;exact z8S o hi hw hS h
theorem z4B (d:Option Tmp) {o:Oper} (hS:S w) (h:wpOrd P ops S Q r (a.put d undef) w) (hi:ops[i]?= some o:=by rfl) (hd:o.dst= d:=by rfl) (hw:Region.wanted o (yielded ops a.tmps)= false:=by exact zd rfl rfl rfl rfl (by decide)):wpOrd P ops S Q ((i,false)::r) a w:=by
 subst hd;show wpOp P ops Q i _ a w;unfold wpOp;simp only[hi,hw];exact⟨hS,h⟩
end
theorem zhk (m:ModelT) (tb:NodeT->Bool):(wellM m tb).length<=200:=by
 unfold wellM;split
 ·unfold z0n
  split
  ·rename_i hs
   unfold sizeB at hs;simp only[Bool.and_eq_true,decide_eq_true_eq] at hs;have h1:=z0M (z5I m.labels.toNat (ordOf m.labels.toNat m.order) m) m.vars.length;have h2:=z0M (z5y m.labels.toNat (ordOf m.labels.toNat m.order) m) m.msgs.length;have h3:=z0M (z62 m.labels.toNat (ordOf m.labels.toNat m.order) m) m.grants.length;have h4:=z0M (z7A m.labels.toNat (ordOf m.labels.toNat m.order) m tb) m.nodes.length;have h5:=z2W (z1C m) 7 (-1);simp only[List.length_append];omega
  ·simp
 ·simp
theorem wellSound_walk (W:World) (htab:TabP W) (mcs:List Value) (m:ModelT) (hm:ModelAt W W.heap.size mcs m) (vo:Value) (O:List VT) (hO:SlAt W W.heap.size 6 (ValAt W W.heap.size) vo O) (hOl:O.length<=maxLen):
  Calls Tryz.prog 3 #[.agg ⟨mcs⟩,vo] W fun e W'=>e= .returned (.bool true)/\Below W.heap.size W W':=by
 have a6:Hid (∀ z,Below W.heap.size W z->Calls Tryz.prog 6 #[] z fun e w'=>e= .returned (.bool true)/\Below z.heap.size z w'):=I fun z hz=>zfJ z (htab.next hz);have m8:=I htab;obtain⟨OA,GA,VA,MA,NA,oc,gc,vc,mc,nc,rfl, -, -,f9, -,f7⟩:=z1b hm;obtain⟨A9,XA,xc,rfl,p8⟩:=hO;obtain⟨-,u1,w4,e1,f9⟩:=f9;injection e1 with e1 _ e3;subst e1 e3;obtain⟨-,t9,w2,e1,f7⟩:=f7;injection e1 with e1 _ e3;subst e1 e3;have n3:=I p8;have t2:=I f9;have r9:=I f7;have HM:=I hm;have HB:=I (zc W (.cells ⟨zQ m OA GA VA MA NA oc gc vc mc nc⟩ 27));have HW:=I (Whole.new W (zQ m OA GA VA MA NA oc gc vc mc nc) 27);have c8:Hid ((zQ m OA GA VA MA NA oc gc vc mc nc).length= 6):=I rfl;clear hm htab p8 f9 f7 hOl;go_enter Tryz.func3,Tryz.ntmps3;go_upto_region 1 with (fail);generalize W.alloc (.cells ⟨zQ m OA GA VA MA NA oc gc vc mc nc⟩ 27)= V at*;obtain⟨mb,j8⟩:∃ q,W.heap.size= q:=⟨_,rfl⟩;rw[j8] at HW
 (try rw[j8])
 have HR:Hid (∀ z,Below V.heap.size V z->z.rangeAt mb 0 (zQ m OA GA VA MA NA oc gc vc mc nc)):=I fun z hz=>(HW.o.keep (hz.block _ HW.o.lt)).range;have a1:Hid (∀ z,Below V.heap.size V z->Below W.heap.size W z):=I fun z hz=>HB.o.trans (hz.mono HB.o.size);have h9:Hid (∀ z,Below V.heap.size V z->ModelAt z z.heap.size (zQ m OA GA VA MA NA oc gc vc mc nc) m):=I fun z hz=>(HM.o.under (a1.o z hz)).more (a1.o z hz).size;clear j8;have f3:=I (fun z (hz:Below V.heap.size V z)=>zh2 m (zQ m OA GA VA MA NA oc gc vc mc nc) z (h9.o z hz));have d0:=I (fun z (hz:Below V.heap.size V z)=>z33 m (zQ m OA GA VA MA NA oc gc vc mc nc) z (h9.o z hz) (m8.o.next (a1.o z hz)));have d2:=I (zhk m (zP m));obtain⟨L,hL⟩:∃ L,wellM m (zP m)= L:=⟨_,rfl⟩;have l5:=I hL;rw[hL] at d2 d0;clear hL;have o8:(L.length:Int)<=200:=by have:=d2.o;omega
 have x8:(O.length:Int)<=9223372036854775807:=by omega
 by_cases hE:L.length=0/\O.length<=40;case neg=>
  by_cases hL0:0 < L.length
  case' pos=>have t0:(0:Int) <(L.length:Int):=by omega
  case' neg=>
   have t0: ¬ (0:Int) <(L.length:Int):=by omega
   have hO0:(40:Int) <(O.length:Int):=by omega
  all_goals
   clear hE;go_wp2_with (first|(go_at_call 6;(with_reducible refine(a6.o _ (a1.o V (Below.refl _ _))).k44 ?_);intro y1 a5)|(go_at_call 6;(with_reducible refine(a6.o _ (a1.o _ a7.o)).k44 ?_);intro y4 a8)|(go_at_call 6;(with_reducible refine(a6.o _ (a1.o _ a3.o)).k44 ?_);intro y4 a8)|((with_reducible refine za tyK27 _ rfl ?_ (HR.o _ a5.o) rfl c8.o ?_);exact wA rfl)|((with_reducible refine za tyK27 _ rfl ?_ (HR.o _ a3.o) rfl c8.o ?_);exact wA rfl)|(go_at_call 7;refine(f3.o _ a5.o).mono ?_;rintro e y2 ⟨b,rfl,hb,K⟩;have a3:=I (beT a5.o hb);have HS:=I K;clear hb K;cases b)|(go_at_call 8;refine(d0.o _ a3.o).mono ?_;rintro e y3 ⟨lv,rfl,ho,hb⟩;obtain⟨FA,fc,rfl⟩:∃ A c,lv= .slice A L.length c:=z0s ho;have HO:=I ho;have a7:=I (beT a3.o hb);clear ho hb));all_goals
    go_ret;first|exact⟨rfl,a1.o _ (beT a7.o a8.o)⟩|exact⟨rfl,a1.o _ (beT a3.o a8.o)⟩
 have t0: ¬ (0:Int) <(L.length:Int):=by omega
 have hO0: ¬ (40:Int) <(O.length:Int):=by omega
 have hL0: ¬0 < L.length:=by omega
 clear hE
 go_upto_region 3 with (first|(go_at_call 6;(with_reducible refine(a6.o _ (a1.o V (Below.refl _ _))).k44 ?_);intro y1 a5)|(go_at_call 6;(with_reducible refine(a6.o _ (a1.o _ a3.o)).k44 ?_);intro y4 a8)|((with_reducible refine za tyK27 _ rfl ?_ (HR.o _ a5.o) rfl c8.o ?_);exact wA rfl)|((with_reducible refine za tyK27 _ rfl ?_ (HR.o _ a3.o) rfl c8.o ?_);exact wA rfl)|(go_at_call 7;refine(f3.o _ a5.o).mono ?_;rintro e y2 ⟨b,rfl,hb,K⟩;have a3:=I (beT a5.o hb);have HS:=I K;clear hb K;cases b)|(go_at_call 8;refine(d0.o _ a3.o).mono ?_;rintro e y3 ⟨lv,rfl,ho,hb⟩;obtain⟨FA,fc,rfl⟩:∃ A c,lv= .slice A L.length c:=z0s ho;have HO:=I ho;have a7:=I (beT a3.o hb);clear ho hb))
 ·go_ret
  exact⟨rfl,a1.o _ (beT a3.o a8.o)⟩
 have l7:Hid (WellOk m (zP m)):=I (zfD (by rw[l5.o];exact List.eq_nil_of_length_eq_zero (by omega)));have c5:=I (HS.o (by first|rfl|trivial));have x7:(O.length:Int)<=40:=by omega
 clear l5 d2 d0 hL0 hO0 t0 o8 f3 a6 HO HS;obtain⟨G,hG⟩:∃ z,z= y3:=⟨_,rfl⟩;subst hG;have l4:=I a7.o;have f0:=I (a1.o _ a7.o);clear a5 a3 a7;obtain⟨j0,hi,q3,q4,e6⟩:=zX z1Y;have h7:=I hi;have i6:=I q3;have i7:=I q4;have m7:=I e6;clear hi q3 q4 e6;have d3:G.cell? ⟨mb,3,none⟩= some (.slice VA m.vars.length vc):=by have:=HR.o _ l4.o 3 _ rfl;simpa using this
 have B0:(m.vars.length:Int)<=40:=by have:=c5.o.vars;omega
 go_wp2;clear d3;go_loopg [5,37] m.vars.length (fun q x1 i u=>∃ (j:Nat) (F:List VT) (KL:List zT),j+q= m.vars.length/\i= .int .i64 j/\GInv sndP 39 G u x1 m.vars F j KL);case atStart=>exact⟨0,[],[],by omega,rfl,GInv.start⟩
 case round=>
  obtain⟨j,F,KL,hj,rfl,e4⟩:=hrel;have HI:=I e4;obtain⟨UA,uc,rfl⟩:=z0s e4.own;clear e4;obtain⟨Y,hY⟩:∃ z,z= wr:=⟨_,rfl⟩;subst hY;have j2:Hid (Below V.heap.size V Y):=I (beT l4.o HI.o.bel);have a4:Hid (Below W.heap.size W Y):=I (a1.o _ j2.o);cases gk with
  |succ g=>
   have v6:(j:Int) <(m.vars.length:Int):=by omega
   obtain⟨y,hy⟩:∃ y,m.vars[j]?= some y:=⟨_,List.getElem?_eq_getElem (by omega)⟩;obtain⟨b2,ob,rfl,e2,hc⟩:=t2.o (by omega);obtain⟨ks,b8,b6,b9⟩:=hc j y hy;obtain⟨c0,c1,ct,ci,rfl,o0,n7,o7,p5⟩:=zgz b9;have d6:=I (zb b6 a4.o e2);have c9:=I n7;have k8:=I o0;have j1:Hid (ValAt G G.heap.size ci y.init):=I ((p5.under f0.o).more f0.o.size);have s8:Hid (∀ z,Below Y.heap.size Y z->TypAt z z.heap.size ct y.type):=I fun z hz=>(o7.under (beT a4.o hz)).more (beT a4.o hz).size;have i1:=I b9.one;have t8:=I hy;have k7:=I b8;clear hc b8 b6 b9 n7 p5 hy o0 o7 e2;go_upto_region 7 with (first|((with_reducible refine za tyK41 _ rfl ?_ d6.o rfl k7.o ?_);exact wA rfl)|((with_reducible refine zN tyK41 _ _ rfl ?_ Y k7.o i1.o rfl ?_ ?_ ?_ ?_);exact wA rfl;rfl;rfl;rfl;intro Z HX));have j5:=I HX.o.below;have i3:Hid (Z.rangeAt Y.heap.size 5 ci):=I (zfx HX.o.range k8.o);have c4:Hid (Y.heap.size < Z.heap.size):=I HX.o.size;obtain⟨vb,e5⟩:∃ q,Y.heap.size= q:=⟨_,rfl⟩;have y9:=I e5;have m2:=I (e5▸HX.o.range);rw[e5] at i3 c4
   (try rw[e5])
   clear e5 HX d6;go_upto_region 8 with (first|((with_reducible refine za tyK39 _ rfl ?_ i3.o rfl c9.o ?_);exact wA rfl)|((with_reducible refine zi 39 _ _ rfl rfl ?_ (Whole.new Z [.int .i64 0,.int .i64 0,.float .f64 0,.string { data:= #[] },.slice none 0 0,.slice none 0 0] 39) (ci) ?_ ?_ ?_ ?_ ?_ ?_);exact wA rfl;rw[c9.o];rfl;rfl;rfl;rw[c9.o];kernel_rfl;exact(zm j1.o).2;intro Z1 g6 g1));have f1:Hid (Below Z.heap.size Z Z1):=I (by have h:=zc Z (.cells ⟨[.int .i64 0,.int .i64 0,.float .f64 0,.string { data:= #[] },.slice none 0 0,.slice none 0 0]⟩ 39);exact h.trans (g1.o.below h.size (Nat.le_refl _) (Nat.le_refl _)));have d4:Hid (Below Y.heap.size Y Z1):=I (beT j5.o f1.o);have d8:Hid (Whole 39 Z1 Z.heap.size ci):=I g6.o;have f4:Hid (Y.heap.size<=Z.heap.size):=I j5.o.size;have m3:Hid (∀ z,Below Z1.heap.size Z1 z->z.rangeAt vb 0 (c0::c1::(ct ++ ci))):=I fun z hz=>zb (zb m2.o f1.o c4.o) hz (Nat.lt_of_lt_of_le c4.o f1.o.size);obtain⟨X,hX⟩:∃ q,Z.heap.size= q:=⟨_,rfl⟩;rw[hX] at d8 f4
   (try rw[hX])
   clear hX g6 g1 j5 f1 i3 m2 c4;obtain⟨N,hN⟩:∃ z,z= Z1:=⟨_,rfl⟩;subst hN;go_cut [63] (fun v z=>∃ bb:Bool,v= .bool bb/\Below N.heap.size N z/\(bb= true->∃ (b3 o3:Nat) (co:List Value) (z2:VT),XA= some ⟨b3,o3,none⟩/\j < O.length/\co.length= 6/\(∀ q,Below N.heap.size N q->q.rangeAt b3 (o3+j*6) co)/\ValAt G G.heap.size co z2/\fitT z2 y.type= true));case first=>
    have K:Below N.heap.size N N.drew:=(Below.refl _ _).drew;by_cases o5:(j:Int) <(O.length:Int);case neg=>
     refine zo [(0,true),(1,true),(2,true),(3,true),(4,true),(5,true),(6,true),(7,true),(8,true),(9,false),(10,true),(11,true),(12,true),(13,true),(14,true),(15,true),(16,true),(17,true),(18,false),(19,true)] (fun z=>Below N.heap.size N z) (by kernel_rfl) (by intro c a d v w h;cases d<;>exact h) ?_;refine zf 44 (.int .i64 j) rfl rfl rfl rfl K rfl ?_;go_frame;refine zf 45 (.slice XA O.length xc) rfl rfl rfl rfl K rfl ?_;go_frame;refine z7 46 (.int .i64 O.length) rfl rfl rfl K (fun z hz=>by go_simp) ?_;go_frame;refine z7 47 (.bool false) rfl rfl rfl K (fun z hz=>by go_simp) ?_;go_frame;refine zf 48 (.bool false) rfl rfl rfl rfl K rfl ?_;go_frame;refine z05 (some 49) K ?_;go_frame;refine z05 (some 50) K ?_;go_frame;refine z05 (some 51) K ?_;go_frame;refine z05 (some 52) K ?_;go_frame;refine z4B (some 53) K ?_;go_frame;refine zE (some 54) (.bool false) _ _ _ _ false rfl rfl rfl rfl (by exact wA rfl) K rfl ?_;go_frame;refine zf 55 (.bool false) rfl rfl rfl rfl K rfl ?_;go_frame;refine z05 (some 56) K ?_;go_frame;refine z05 (some 57) K ?_;go_frame;refine z05 (some 58) K ?_;go_frame;refine z05 (some 59) K ?_;go_frame;refine z05 (some 60) K ?_;go_frame;refine z05 (some 61) K ?_;go_frame;refine z4B (some 62) K ?_;go_frame;refine zE (some 63) (.bool false) _ _ _ _ false rfl rfl rfl rfl (by exact wA rfl) K rfl ?_;go_frame;refine zD ?_;go_wp2;go_meet;case rel=>exact⟨false,rfl,K,fun h=>by cases h⟩
    obtain⟨z2,e6⟩:∃ y,O[j]?= some y:=⟨_,List.getElem?_eq_getElem (by omega)⟩;obtain⟨b3,o3,rfl,n5,n9⟩:=n3.o (by omega);obtain⟨co,h0,p0,j9⟩:=n9 j z2 e6;have b1:=I h0;have b5:Hid (∀ q,Below N.heap.size N q->q.rangeAt b3 (o3+j*6) co):=I fun q hq=>zb p0 (a4.o.trans ((beT d4.o hq).mono a4.o.size)) n5;have d7:Hid (∀ q,Below N.heap.size N q->ValAt q q.heap.size co z2):=I fun q hq=>(j9.under (a4.o.trans ((beT d4.o hq).mono a4.o.size))).more (a4.o.trans ((beT d4.o hq).mono a4.o.size)).size;have t3:Hid (ValAt G G.heap.size co z2):=I ((j9.under f0.o).more f0.o.size);have s9:Hid (∀ q,Below N.heap.size N q->TypAt q q.heap.size ct y.type):=I fun q hq=>s8.o q (beT d4.o hq);have s6:Hid (∀ q,Below N.heap.size N q->q.rangeAt vb 2 ct):=I fun q hq=>zgA (m3.o q hq);have o6:(0:Int)<=(j:Int):=by omega
    clear e6 n5 n9 h0 p0 j9;have m6:=I (fun q (hq:Below N.heap.size N q)=>z9j z2 co q (d7.o q hq));have l3:=I (fun q (hq:Below N.heap.size N q)=>zd0 z2 y.type co ct q (d7.o q hq) (s9.o q hq));refine zo [(0,true),(1,true),(2,true),(3,true),(4,true),(5,true),(6,true),(7,true),(8,true),(9,false),(10,true),(11,true),(12,true),(13,true),(14,true),(15,true),(16,true),(17,true),(18,false),(19,true)] (fun z=>Below N.heap.size N z) (by kernel_rfl) (by intro c a d v w h;cases d<;>exact h) ?_;refine zf 44 (.int .i64 j) rfl rfl rfl rfl K rfl ?_;go_frame;refine zf 45 (.slice (some ⟨b3,o3,none⟩) O.length xc) rfl rfl rfl rfl K rfl ?_;go_frame;refine z7 46 (.int .i64 O.length) rfl rfl rfl K (fun z hz=>by go_simp) ?_;go_frame;refine z7 47 (.bool true) rfl rfl rfl K (fun z hz=>by go_simp) ?_;go_frame;refine zf 48 (.bool true) rfl rfl rfl rfl K rfl ?_;go_frame;refine zf 49 (.slice (some ⟨b3,o3,none⟩) O.length xc) rfl rfl rfl rfl K rfl ?_;go_frame;refine zf 50 (.int .i64 j) rfl rfl rfl rfl K rfl ?_;go_frame;refine z7 51 (.pointer (some ⟨b3,o3+j*6,none⟩)) rfl rfl rfl K (fun z hz=>by go_simp) ?_;go_frame;refine z7 52 (.agg ⟨co⟩) rfl rfl rfl K (fun z hz=>zp 39 rfl b3 (o3+j*6) co _ rfl (b5.o z hz) Tryz.underlying39 rfl (by rw[b1.o];kernel_rfl)) ?_;go_frame;refine zA 53 9 Tryz.func9 (by kernel_rfl) [.agg ⟨co⟩] rfl rfl rfl rfl rfl ?_;refine(m6.o _ K).mono ?_;rintro e w7 ⟨q,rfl,hb⟩;have K:Below N.heap.size N w7:=(beT K hb);refine⟨_,rfl,K,?_⟩;clear hb;go_frame;cases q with
    |false=>
     refine zE (some 54) (.bool false) _ _ _ _ true rfl rfl rfl rfl (by exact wA rfl) K rfl ?_;go_frame;refine zf 55 (.bool false) rfl rfl rfl rfl K rfl ?_;go_frame;refine z05 (some 56) K ?_;go_frame;refine z05 (some 57) K ?_;go_frame;refine z05 (some 58) K ?_;go_frame;refine z05 (some 59) K ?_;go_frame;refine z05 (some 60) K ?_;go_frame;refine z05 (some 61) K ?_;go_frame;refine z4B (some 62) K ?_;go_frame;refine zE (some 63) (.bool false) _ _ _ _ false rfl rfl rfl rfl (by exact wA rfl) K rfl ?_;go_frame;refine zD ?_;go_wp2;go_meet;case rel=>exact⟨false,rfl,K,fun h=>by cases h⟩
    |true=>
     refine zE (some 54) (.bool true) _ _ _ _ true rfl rfl rfl rfl (by exact wA rfl) K rfl ?_;go_frame;refine zf 55 (.bool true) rfl rfl rfl rfl K rfl ?_;go_frame;refine zf 56 (.slice (some ⟨b3,o3,none⟩) O.length xc) rfl rfl rfl rfl K rfl ?_;go_frame;refine zf 57 (.int .i64 j) rfl rfl rfl rfl K rfl ?_;go_frame;refine z7 58 (.pointer (some ⟨b3,o3+j*6,none⟩)) rfl rfl rfl K (fun z hz=>by go_simp) ?_;go_frame;refine z7 59 (.agg ⟨co⟩) rfl rfl rfl K (fun z hz=>zp 39 rfl b3 (o3+j*6) co _ rfl (b5.o z hz) Tryz.underlying39 rfl (by rw[b1.o];kernel_rfl)) ?_;go_frame;refine z7 60 (.pointer (some ⟨vb,2,none⟩)) rfl rfl rfl K (fun z hz=>by go_simp) ?_;go_frame;refine z7 61 (.agg ⟨ct⟩) rfl rfl rfl K (fun z hz=>zp 36 rfl vb 2 ct _ rfl (s6.o z hz) Tryz.underlying36 rfl (by rw[k8.o];kernel_rfl)) ?_;go_frame;refine zA 62 10 Tryz.func10 (by kernel_rfl) [.agg ⟨co⟩,.agg ⟨ct⟩] rfl rfl rfl rfl rfl ?_;refine(l3.o _ K).mono ?_;rintro e w7 ⟨rfl,hb⟩;have K:Below N.heap.size N w7:=(beT K hb);refine⟨_,rfl,K,?_⟩;clear hb;go_frame;obtain⟨qf,k0⟩:∃ b,fitT z2 y.type= b:=⟨_,rfl⟩;rw[k0];have s4:=I k0;clear k0;refine zE (some 63) (.bool qf) _ _ _ _ true rfl rfl rfl rfl (by exact wA rfl) K rfl ?_;go_frame;refine zD ?_;go_wp2;go_meet;case rel=>exact⟨qf,rfl,K,fun h=>⟨b3,o3,co,z2,rfl,by omega,b1.o,b5.o,t3.o,s4.o.trans h⟩⟩
   case rest=>
   obtain⟨bb,rfl,f6,c6⟩:=hcut;have k6:=I f6;have HF:=I c6;have j3:Hid (Whole 39 wc X ci):=I (d8.o.keep (f6.block _ d8.o.lt));have f5:Hid (Below Y.heap.size Y wc):=I (beT d4.o f6);clear f6 c6;obtain⟨C,hC⟩:∃ z,z= wc:=⟨_,rfl⟩;subst hC;cases bb
   case' false=>
    go_upto_region 10 with (fail);have j4:Hid (∃ cx xv,Whole 39 C X cx/\cx.length= 6/\(∀ v∈cx,v.oneCell'= true)/\ValAt G G.heap.size cx xv/\sndP xv y):=I ⟨ci,y.init,j3.o,c9.o,(zm j1.o).2,j1.o,.inl rfl⟩
   case' true=>
    obtain⟨b3,o3,co,z2,rfl,o5,n8,p3,k1,o2⟩:=HF.o rfl;have b1:=I n8;have b5:=I (p3 C k6.o);have i0:=I (zm k1).2;have d7:=I k1;have l2:=I o2;have x4:(j:Int) <(O.length:Int):=by omega
    have o6:(0:Int)<=(j:Int):=by omega
    clear n8 p3 k1 o2 o5;go_upto_region 10 with (first|((with_reducible refine za tyK39 _ rfl ?_ b5.o rfl b1.o ?_);exact wA rfl)|((with_reducible refine z0W 39 _ _ rfl rfl ?_ (X) (ci) (co) j3.o ?_ ?_ ?_ ?_ ?_ ?_);(exact wA rfl);rw[c9.o,b1.o];rfl;rfl;rw[b1.o];kernel_rfl;exact i0.o;intro Z2 hz hb;have g7:=I hz;have g3:=I hb;clear hz hb));have j4:Hid (∃ cx xv,Whole 39 Z2 X cx/\cx.length= 6/\(∀ v∈cx,v.oneCell'= true)/\ValAt G G.heap.size cx xv/\sndP xv y):=I ⟨co,z2,g7.o,b1.o,i0.o,d7.o,.inr l2.o⟩;have f5:Hid (Below Y.heap.size Y Z2):=I (f5.o.trans (g3.o.below f5.o.size f4.o f4.o));clear g7 g3 l2 d7 i0 b5 b1 j3 k6;obtain⟨C,hC⟩:∃ z,z= Z2:=⟨_,rfl⟩;subst hC
   all_goals
    obtain⟨cx,xv,p6,q1,p7,p9,p4⟩:=j4.o;have t7:=I p6.range;have b7:=I q1;have d8:=I p7;have t6:=I p9;have s7:=I p4;clear p6 q1 p7 p9 p4 j4 HF m3 f4;have r0:=I (zc C (.cells ⟨cx⟩ 39));have i8:Hid (Below Y.heap.size Y (C.alloc (.cells ⟨cx⟩ 39))):=I (beT f5.o r0.o);have r3:Hid (∀ i u,(enc6 ⟨cx,b7.o⟩)[i]?= some u->(C.alloc (.cells ⟨cx⟩ 39)).cell? ⟨C.heap.size,i,none⟩= some u):=I (z0r C cx 39);have r8:Hid (G.heap.size<=(C.alloc (.cells ⟨cx⟩ 39)).heap.size):=I (Nat.le_trans HI.o.bel.size i8.o.size);have s3:Hid (OwnSl 39 6 enc6 (C.alloc (.cells ⟨cx⟩ 39)) G.heap.size (.slice UA KL.length uc) KL):=I (HI.o.own.below i8.o);have r6:Hid (KL.length+1<=maxLen):=I (by have h2:=HI.o.len;unfold maxLen;omega);have r7:Hid ((KL.length+1) *88<=140737488355328):=I (by have h2:=HI.o.len;omega);go_wp2_with (first|((with_reducible refine za tyK39 _ rfl ?_ t7.o rfl b7.o ?_);exact wA rfl)|((with_reducible refine z0z 28 _ rfl ?_ 39 j0 _ cx ?_ Tryz.underlying28 h7.o i6.o ?_ ?_ ?_ ?_);(exact wA rfl);rfl;rw[b7.o];exact i7.o;rw[b7.o];decide;rw[b7.o];decide)|(at_builtin;(refine z2a rfl _ _ 28 rfl G.heap.size 39 j0 _ 6 88 enc6 Tryz.underlying28 h7.o i6.o i7.o m7.o rfl (by decide) z0D (.slice UA KL.length uc) KL rfl s3.o C.heap.size 1 ⟨cx,b7.o⟩ d8.o rfl r3.o r6.o r7.o r8.o ?_;intro xa u8 h1 hg n4;have l6:=I (HI.o.snoc (k:=⟨cx,b7.o⟩) i8.o t8.o t6.o s7.o h1 hg);clear h1 hg n4)));go_roundg g;case measure=>omega
    case rel=>exact⟨j+1,_,_,by omega,by go_num,l6.o⟩
  |zero=>
   obtain rfl:j= m.vars.length:=by omega
   have o4: ¬ ((m.vars.length:Int) <(m.vars.length:Int)):=by omega
   have m0:=I (fun z (hz:Below Y.heap.size Y z)=>HI.o.row (by omega) hz);have r5:Hid (F.length<=10000):=I (by have:=HI.o.flen;omega);have g0:=I (zgn l7.o HI.o.flen HI.o.rel);have d5:Y.cell? ⟨mb,5,none⟩= some (.slice NA m.nodes.length nc):=by have:=HR.o _ j2.o 5 _ rfl;simpa using this
   have A8:(m.nodes.length:Int)<=100:=by have:=c5.o.nodes;omega
   generalize KL.length= kn at*;clear HI n3 h7 i6 i7 m7;go_wp2;clear d5;go_loopg [76] m.nodes.length (fun q i u=>∃ j:Nat,j+q= m.nodes.length/\i= .int .i64 j/\Below Y.heap.size Y u);case atStart=>exact⟨0,by omega,rfl,Below.refl _ _⟩
   case round=>
    obtain⟨i,hi,rfl,hb⟩:=hrel;have h5:=I hb;clear hb;obtain⟨U,hU⟩:∃ z,z= wr:=⟨_,rfl⟩;subst hU;cases gk with
    |zero=>
     obtain rfl:i= m.nodes.length:=by omega
     have o4: ¬ ((m.nodes.length:Int) <(m.nodes.length:Int)):=by omega
     go_wp2;go_ret;exact⟨rfl,(beT a4.o h5.o)⟩
    |succ g=>
     have v6:(i:Int) <(m.nodes.length:Int):=by omega
     have v8:i < m.nodes.length:=by omega
     obtain⟨nd,f8⟩:∃ y,m.nodes[i]?= some y:=⟨_,List.getElem?_eq_getElem v8⟩;obtain⟨b2,ob,rfl,e2,hc⟩:=r9.o (by omega);obtain⟨ks,b8,b6,b9⟩:=hc i nd f8;have n1:Hid (Below W.heap.size W U):=I (beT a4.o h5.o);have i1:=I b9.one;obtain⟨v0,v1,v2,vq,Q,ce,cb,t,rfl,u4,hq,o9,o1⟩:=zf6 b9;have d6:=I (zb b6 n1.o e2);have h8:=I b8;have HQ:Hid (Q.length<=40):=I (by have:=(c5.o.next i nd f8).2;omega);have l8:=I (fun(z:World) (hz:Below W.heap.size W z)=>(hq.below hz fun _ _ _ h=>h).more hz.size);have g4:=I o9;have l1:=I o1;have s0:=I (List.mem_of_getElem? f8);clear hc f8 b8 b6 b9 u4 hq o9 o1 e2;go_upto_region 15 with (first|((with_reducible refine za tyK49 _ rfl ?_ d6.o rfl h8.o ?_);exact wA rfl)|((with_reducible refine zN tyK49 _ _ rfl ?_ U h8.o i1.o rfl ?_ ?_ ?_ ?_);exact wA rfl;rfl;rfl;rfl;intro Z HX));have t1:=I (beT h5.o HX.o.below);have n2:=I (beT n1.o HX.o.below);have m5:=I HX.o.range;obtain⟨eb,j6⟩:∃ eb,U.heap.size= eb:=⟨_,rfl⟩;rw[j6] at m5
     (try rw[j6])
     have l0:=I (zcd Q ce cb v0 v1 v2 vq t Z (l8.o Z n2.o) g4.o HQ.o);have i4:Hid (((Q ++ [ce,cb]).filter nzC).length<=42):=I (z4m (by rw[List.length_append];have:=HQ.o;simp;omega));clear j6 HX d6 l8 g4;obtain⟨R,hR⟩:∃ R,(Q ++ [ce,cb]).filter nzC= R:=⟨_,rfl⟩;rw[hR] at l0 i4 l1;clear hR;go_upto_region 16 with (first|((with_reducible refine za tyK49 _ rfl ?_ m5.o rfl h8.o ?_);exact wA rfl)|(go_at_call 11;refine l0.o.mono ?_;rintro e z1 ⟨lv,rfl,ho,hb⟩;obtain⟨-,EA,ec,rfl,h4⟩:=ho.at z2j (by have:=i4.o;omega);have q8:=I hb;clear ho hb));have s5:=I h4;have x9:(R.length:Int)<=42:=by have:=i4.o;omega
     have r4:Hid (Below Y.heap.size Y z1):=I (beT t1.o q8.o);clear h4;go_loopg [83] R.length (fun q i u=>∃ j:Nat,j+q= R.length/\i= .int .i64 j/\Below z1.heap.size z1 u);case atStart=>exact⟨0,by omega,rfl,Below.refl _ _⟩
     case round=>
      obtain⟨l,hl,rfl,hb⟩:=hrel;have e8:=I hb;clear hb;obtain⟨U2,hU⟩:∃ z,z= wr:=⟨_,rfl⟩;subst hU;have h6:Hid (Below Y.heap.size Y U2):=I (beT r4.o e8.o);cases gk with
      |zero=>
       obtain rfl:l= R.length:=by omega
       have o4: ¬ ((R.length:Int) <(R.length:Int)):=by omega
       go_wp2;go_roundg g;case measure=>omega
       case rel=>exact⟨i+1,by omega,by go_num,h6.o⟩
      |succ g2=>
       have x5:(l:Int) <(R.length:Int):=by omega
       obtain⟨q,hq⟩:∃ y,R[l]?= some y:=⟨_,List.getElem?_eq_getElem (by omega)⟩;obtain⟨rb,ro,rfl,p1,p2⟩:=s5.o (by omega);obtain⟨ks,b8,b6,j7⟩:=p2 l q hq;have j7:ks= q.cs:=j7;subst j7;obtain⟨x,q2,q0,k3⟩:=l1.o q (List.mem_of_getElem? hq);have n0:Hid (Below W.heap.size W U2):=I (beT a4.o h6.o);have t5:Hid (∀ z,Below U2.heap.size U2 z->ExpAt z z.heap.size q.cs x):=I fun z hz=>(k3.under (beT n0.o hz)).more (beT n0.o hz).size;have s2:=I k3.one;have m1:=I (zb b6 e8.o p1);have i2:=I q.len;have i5:=I (zgo (zfE l7.o g0.o.1 g0.o.2 s0.o q2 q0));clear hq p2 b8 b6 q2 q0 k3 p1;go_upto_region 18 with (first|((with_reducible refine za tyK47 _ rfl ?_ m1.o rfl i2.o ?_);exact wA rfl)|((with_reducible refine zN tyK47 _ _ rfl ?_ U2 i2.o s2.o rfl ?_ ?_ ?_ ?_);exact wA rfl;rfl;rfl;rfl;intro Z3 d9));have r2:=I d9.o.below;have k9:Hid (Below Y.heap.size Y Z3):=I (beT h6.o d9.o.below);have i9:Hid (Below V.heap.size V Z3):=I (beT j2.o k9.o);have m4:=I d9.o.range;have g5:=I (t5.o Z3 d9.o.below);have d3:Z3.cell? ⟨mb,3,none⟩= some (.slice VA m.vars.length vc):=by have:=HR.o _ i9.o 3 _ rfl;simpa using this
       obtain⟨xb,k2⟩:∃ eb,U2.heap.size= eb:=⟨_,rfl⟩;rw[k2] at m4
       (try rw[k2])
       have m9:Hid (SlAt Z3 Z3.heap.size 11 (VarAt Z3 Z3.heap.size) (.slice VA m.vars.length vc) m.vars):=I (by
        have:=(h9.o Z3 i9.o);obtain⟨A2,y6,u1,A1,t9,B3,A4,w4,B1,w2,he, -, -,h3, -⟩:=z1b this;unfold zQ at he;simp only[List.cons.injEq,Value.slice.injEq] at he;obtain⟨-, -, -,⟨rfl, -,rfl⟩, -⟩:=he;exact h3)
       have e9:=I (zcb x m.vars F q.cs (.slice VA m.vars.length vc) (.slice UA kn uc) Z3 g5.o m9.o (m0.o Z3 k9.o) (by have:=c5.o.vars;omega) r5.o (m8.o.next (a1.o _ i9.o)));clear k2 d9 m1 m9 g5;generalize evalT x m.vars F= r at e9 i5;obtain⟨n,hn⟩:∃ n,(resV r).2= n:=⟨_,rfl⟩;unfold EvC at e9;rw[hn] at e9 i5;clear hn;go_upto_region 19 with (first|((with_reducible refine za tyK47 _ rfl ?_ m4.o rfl i2.o ?_);exact wA rfl)|(go_at_call 12;refine e9.o.mono ?_;rintro e z5 ⟨rc,rfl,hk, -,hb⟩;have l9:=I (zm hk.val).1;have b5:=I (zm hk.val).2;have y7:=I hb;have q9:Hid (Below z1.heap.size z1 z5):=I (e8.o.trans ((beT r2.o hb).mono e8.o.size));clear hk hb)|((with_reducible refine z1f 39 _ _ rfl ?hwx16 z5 ?zz16 (rc) ?hwld16 ?hz16 ?hx16 ?hy16 ?hi16 ?h116 ?_);(case hwld16=>rfl);(case hx16=>rfl);(case hy16=>rfl);(case hwx16=>(exact wA rfl));(case hz16=>rw[l9.o];rfl);(case hi16=>rw[l9.o];kernel_rfl);(case h116=>exact b5.o);intro Z6 hZ;have A0:=I hZ;have r1:Hid (Below z1.heap.size z1 Z6):=I (beT q9.o hZ.below);clear hZ));clear d3;rcases i5.o with rfl|rfl|rfl|rfl|rfl;all_goals
        go_wp2;go_roundg g2;case measure=>omega
        case rel=>exact⟨l+1,by omega,by go_num,r1.o⟩
end
end Go.Proofs.YtpmjcbjdcjjplaaGreatDoor
