/- Parts of a proof: WV, WNd, WLa, WM, WCk, Sm14, Aw14, WGrW. -/
import Derived.Maps.OwnOps
import Derived.Maps.Views
import Derived.Test.YtdjfpcmlffekkaaGreatDoorPackG12
import Derived.Test.YtdjfpcmlffekkaaGreatDoorPackG17
import Derived.Test.YtdjfpcmlffekkaaGreatDoorPackG41
import Derived.Test.YtdjfpcmlffekkaaGreatDoorPackG43
import Derived.Test.YtdjfpcmlffekkaaGreatDoorPackG44
set_option maxHeartbeats 8000000
set_option maxRecDepth 100000
set_option linter.unusedVariables false
set_option linter.unusedSimpArgs false
theorem Go.Calls.k45 {P:Go.Program} {f:Go.FuncId} {args:Array Go.Value} {w:Go.World} {v:Go.Ending} {R:Go.World->Prop} {Q:Go.Ending->Go.World->Prop} (h:Go.Calls P f args w fun e w'=>e= v/\R w') (k:∀ w',Go.RowKit.Hid (R w')->Q v w'):Go.Calls P f args w Q:=Go.Proofs.YtdjfpcmlffekkaaGreatDoor.zi h k
theorem Go.Calls.e45 {P:Go.Program} {f:Go.FuncId} {args:Array Go.Value} {w:Go.World} {v:Go.Ending} {Q:Go.Ending->Go.World->Prop} (h:Go.Calls P f args w fun e w'=>e= v/\w'= w) (k:Q v w):Go.Calls P f args w Q:=Go.Proofs.YtdjfpcmlffekkaaGreatDoor.zd h k
namespace Go.Proofs.YtdjfpcmlffekkaaGreatDoor
section
open Go Go.RowKit P
def CntMap (D:DataW Unit) (l:List (List UInt8)):Prop:=Go.Maps.IsMap D/\∀ s,D.atKey (.string s) (.lit (.int .i64 0))= .lit (.int .i64 (cntN l s))
theorem z66:CntMap (.map []) []:=⟨⟨[],rfl⟩,fun s=>rfl⟩
theorem CntMap.put {D:DataW Unit} {l:List (List UInt8)} (h:CntMap D l) (a:List UInt8) (c:Int) (hc:c=(cntN l a:Int)+1):CntMap (D.put (.string a) (.lit (.int .i64 c))) (l ++ [a]):=by
 refine⟨Go.Maps.IsMap.put h.1 _ _,fun s=> ?_⟩;by_cases hs:s= a
 ·subst hs
  rw[Go.Maps.atKey_put_same h.1 (show Go.WideAt.IsKeyLit (.string s) from trivial),z1l,if_pos rfl,hc];rfl
 ·rw[Go.Maps.atKey_put_other (by intro e;injection e with e;exact hs e),h.2 s,z1l,if_neg (fun e=>hs e.symm)]
  rfl
section
open Go.Maps
variable {P:Program} {ops:Array Oper} {rest:List Oper} {o:Oper} {a:Act} {w:World} {Q:Exit->Act->World->Prop} {H:Type}
theorem z19 (m x:Operand) (t:TypeId) (ho:o.op= .lookup t m x false) (hw:Region.wanted o (yielded ops a.tmps)= true) (k e:TypeId) (K:Keyed P k) (ht:P.underlying t= some (.map k e)) (he:P.underlying e= some (.int .i64))
  (hz:(zeroValue e).run P w= .ok (.int .i64 0) w) (b n:Nat) (D:DataW H) (hm:a.eval m= .map (some b)) (hown:w.ownsMap P k (plainElem P e) b n D) (key:Value) (kl:Lit) (hx:a.eval x= key) (hkey:keyOf P k key= some kl)
  (c:Int) (hc:D.atKey kl (.lit (.int .i64 0))= .lit (.int .i64 c)) (h:wpList P ops Q rest (a.put o.dst (.int .i64 c)) w):wpList P ops Q (o::rest) a w:=
 wpList_step fun K' hK=>by
  rw[if_pos hw]
  obtain⟨c',hrun,hat,_⟩:=hown.lookup_int K ht he hz hkey
  have:c'= c:=by
   rw[hc] at hat
   simpa using hat.symm
  subst this;unfold Oper.wp;simp[execOp,ho,hm,hx,hrun,Result.andThen];exact hK _ _ h
theorem z2K {k:TypeId} {R:Value->Option (DataW H × List MemPlace)} {b n:Nat} {D:DataW H} {w w':World} (h:w.ownsMap P k R b n D) (hb:w'.heap[b]?= w.heap[b]?):w'.ownsMap P k R b n D:=by
 obtain⟨es,clock,h1,F,hs,hD⟩:=h;exact⟨es,clock,hb.trans h1,F,hs,hD⟩
end
theorem lawSt:Go.Maps.Keyed Tryz.prog 9:=Go.Maps.string_keyed Tryz.underlying9
theorem z2Q (w:World):(zeroValue 3).run Tryz.prog w= .ok (.int .i64 0) w:=by kernel_rfl
theorem keySt (s:ByteArray) (hs:s.size<=maxLen):keyOf Tryz.prog 9 (.string s)= some (.string s.data.toList):=by simp[keyOf,Tryz.underlying9,mapKey,hs]
theorem z2C {w w':World} {b o:Nat} {l:List Value} (h:w.rangeAt b o l) (hb:w'.heap[b]?= w.heap[b]?):w'.rangeAt b o l:=fun i v hv=>(World.cell?_of_block (a:=⟨b,o+i,none⟩) hb).trans (h i v hv)
theorem z27 {w:World} {b:Nat} {l a p r:List Value} (h:w.rangeAt b 0 l) (he:l= a ++ p ++ r) (k:Nat) (hk:a.length= k):w.rangeAt b k p:=fun i v hv=>by
 have:=h (k+i) v (by subst hk;rw[he,List.append_assoc,List.getElem?_append_right (by omega),show a.length+i - a.length= i by omega,List.getElem?_append_left (List.getElem?_eq_some_iff.1 hv).1];exact hv)
 rwa [show 0+ (k+i)= k+i by omega] at this
section
variable {TC TF:TypeId} {W u z Z1 Z2:World} {cb mb':Nat} {mp lp lv lv0:Value} {L:List z00}
theorem CkStep.map (h:CkStep cb u z lv0 lv) (hb:Below z.heap.size z Z1) (hg:Z1.grownBy Z2 (some mb')) (hm:u.heap.size<=mb'):CkStep cb u Z2 lv0 lv:=
 ⟨hg.os.trans (hb.os.trans h.os),hg.tape.trans (hb.tape.trans h.tape),hg.output.trans (hb.output.trans h.output),Nat.le_trans h.size (Nat.le_trans hb.size hg.size),fun b h1 h2 h3=>(hg.block b (Nat.lt_of_lt_of_le h1 (Nat.le_trans h.size hb.size)) (by intro e;injection e with e;omega)).trans ((hb.block b (Nat.lt_of_lt_of_le h1 h.size)).trans (h.block b h1 h2 h3)),h.next⟩
theorem Ck.map (h:Ck TC TF W z cb mp lp lv L) (hb:Below z.heap.size z Z1) (hg:Z1.grownBy Z2 (some mb')) (hm:W.heap.size<=mb') (hne:lv.ownBlock≠some mb'):Ck TC TF W Z2 cb mp lp lv L:=by
 have h1:=h.on hb;refine⟨(hg.block cb (Nat.lt_of_lt_of_le h.lt h1.step.size) (by intro e;injection e with e;have:=h.lt;omega)).trans h1.box,World.ownsRow.kept h1.own hg (.inr hne),h.step.map hb hg hm,h.lt⟩
theorem CkD.of {mb lb:Nat} {w0:World} (h:Ck TC TF W u cb (.pointer (some ⟨mb,0,none⟩)) (.pointer (some ⟨lb,0,none⟩)) lv L) (hw:Below w0.heap.size w0 W) (hcb:w0.heap.size<=cb):CkD mb lb w0 cb u:=
 ⟨hw.trans ((h.below hcb)),h.cells.1 0 _ rfl,h.cells.1 1 _ rfl,h.cells.2.1⟩
theorem CkStep.fresh (h:CkStep cb u z lv0 lv) {b:Nat} (hb:b < u.heap.size) (hl:lv0.ownBlock≠some b):lv.ownBlock≠some b:=by
 rcases h.next with e|⟨g,e,hg⟩
 ·rw[e];exact hl
 ·rw[e];intro e2;injection e2 with e2;omega
end
theorem zcb {m:ModelT} {mb lb n:Nat} {R:Rel} {w0 W u:World} {OA GA VA MA NA:Option Addr} {oc gc vc mc nc cb:Nat} {lv:Value} {L:List z00} (hs:CkS m mb lb n R w0 OA GA VA MA NA oc gc vc mc nc) (hck:Ck 71 37 W u cb (.pointer (some ⟨mb,0,none⟩)) (.pointer (some ⟨lb,0,none⟩)) lv L) (hw:Below w0.heap.size w0 W) (hcb:w0.heap.size<=cb) (hL:L.length<=500) (hfew:m.vars.length<=100):
  Calls Tryz.prog 22 #[.pointer (some ⟨cb,0,none⟩)] u fun e u'=>e= .returned (.tuple #[])/\∃ lv',Ck 71 37 W u' cb (.pointer (some ⟨mb,0,none⟩)) (.pointer (some ⟨lb,0,none⟩)) lv' (L ++ upto (varF n R m) m.vars.length)/\CkStep cb u u' lv lv':=by
 have HS:=I hs;have f2:=I hw;have e5:=I hcb;have k4:=I hL;have m3:(m.vars.length:Int)<=100:=by omega
 obtain⟨-,m6,n3,e1,e0⟩:=id hs.vars;injection e1 with e1 e2 e3;subst e1 e3;have i2:=I e0;have f0:Hid (lv.ownBlock≠some u.heap.size):=I fun e=>by have:=z0z hck.own e;omega
 have i6:Hid (W.heap.size<=u.heap.size):=I hck.step.size;have g4:=I (zc u (.map #[] 0));have k5:Hid ((u.alloc (.map #[] 0)).ownsMap Tryz.prog 9 (Go.plainElem Tryz.prog 3) u.heap.size 0 (.map []:DataW Unit)):=I (World.ownsMap_made u _ _ _);have d2:=I (hck.on g4.o);have i4:Hid (CkStep cb u (u.alloc (.map #[] 0)) lv lv):=I (CkStep.of g4.o cb lv);have l4:Hid ((u.alloc (.map #[] 0)).heap.size= u.heap.size+1):=I (by simp);have m9:= @run_makeMap Tryz.prog;clear hs hw hcb hL hck e0 e2;go_enter Tryz.func22,Tryz.ntmps22;go_upto_region 1 with (fail);generalize u.alloc (.map #[] 0)= U at*;have g6:=I (CkD.of d2.o f2.o e5.o);have d0:=g6.o.c0;have d3:=HS.o.cell g6.o.bel (j:=3) rfl;go_wp2;clear d0 d3;go_loopg [14] m.vars.length (fun q y z=>∃ (j:Nat) (lv1:Value) (D:DataW Unit),j+q= m.vars.length/\y= .int .i64 j/\Ck 71 37 W z cb (.pointer (some ⟨mb,0,none⟩)) (.pointer (some ⟨lb,0,none⟩)) lv1 (L ++ upto (varF n R m) j)/\CkStep cb u z lv lv1/\z.ownsMap Tryz.prog 9 (Go.plainElem Tryz.prog 3) u.heap.size j D/\CntMap D ((m.vars.take j).map (·.name.data.toList))/\lv1.ownBlock≠some u.heap.size/\u.heap.size < z.heap.size);case atStart=>exact⟨0,lv,_,by omega,rfl,by rw[z2F,List.append_nil];exact d2.o,i4.o,k5.o,by simpa using z66,f0.o,by have:=l4.o;omega⟩
 case round=>
  obtain⟨j,lv1,D,hj,rfl,hck,O,j3,i9,j4,d9⟩:=hrel;have c4:=I hck;have i3:=I O;have k7:=I j3;have g5:=I i9;have e9:=I j4;have e8:=I d9;clear hck O j3 i9 j4 d9;obtain⟨z,hz⟩:∃ z,z= wr:=⟨_,rfl⟩;subst hz;cases gk with
  |zero=>
   obtain rfl:j= m.vars.length:=by omega
   have m7: ¬ ((m.vars.length:Int) <(m.vars.length:Int)):=by omega
   go_wp2;refine bodyPost_end (results_none rfl _ _ _) rfl ?_;exact⟨rfl,lv1,c4.o,i3.o⟩
  |succ g=>
   have m8:(j:Int) <(m.vars.length:Int):=by omega
   have m0:j < m.vars.length:=by omega
   obtain⟨x,hx⟩:∃ x,m.vars[j]?= some x:=⟨_,List.getElem?_eq_getElem m0⟩;obtain⟨rb,ro,rfl,j6,hc⟩:=i2.o (by omega);obtain⟨ks,j1,j2,f9⟩:=hc j x hx;have HD:=I (CkD.of c4.o f2.o e5.o);have k1:Hid (z.rangeAt rb (ro+j*11) ks):=I (zb j2 HD.o.bel j6);have h0:=I j1;obtain⟨ct,ci,rfl,d8,d6,g1,g0⟩:=f9.ex;have k8:=I f9.name;have j9:Hid (([.string x.name,.int .i64 x.label] ++ ct ++ ci:List Value)[0]?= some (.string x.name)):=I rfl;have k0:Hid (∀ v∈([.string x.name,.int .i64 x.label] ++ ct ++ ci:List Value),v.oneCell'= true):=I (by
    intro v hv;rcases List.mem_append.1 hv with hv|hv
    ·rcases List.mem_append.1 hv with hv|hv
     ·simp only[List.mem_cons,List.not_mem_nil,or_false] at hv
      rcases hv with rfl|rfl<;>rfl
     ·exact(zl g1).2 v hv
    ·exact(zp g0).2 v hv)
   have e7:=I d8;have k3:=I d6;have i5:=I g1;have l3:=I g0;clear d8 d6 g1 g0;have HX:=I hx;clear hc j1 j2 f9 j6 hx;go_upto_region 4 with (first|((with_reducible refine za tyK62 _ rfl ?_ k1.o rfl h0.o ?_);exact wA rfl)|((with_reducible refine zW tyK62 _ _ rfl ?_ z h0.o k0.o rfl ?_ ?_ ?_ ?_);exact wA rfl;rfl;rfl;rfl;intro Z1 f3));have b8:=I f3.o.below;have f1:=I f3.o.range;have i0:=I f3.o.size;obtain⟨q4,c9⟩:∃ q,z.heap.size= q:=⟨_,rfl⟩;have l0:=I c9;rw[c9] at f1 i0;rw[c9];clear c9;have h7:=I (z2K k7.o (b8.o.block u.heap.size e8.o));have g3:=I (g5.o.2 x.name.data.toList);obtain⟨c,hc⟩:∃ c:Nat,cntN ((m.vars.take j).map (·.name.data.toList)) x.name.data.toList= c:=⟨_,rfl⟩;have m4:=I hc;have m2:c<=100:=by have h:=z8E ((m.vars.take j).map (·.name.data.toList)) x.name.data.toList;rw[List.length_map,List.length_take] at h;omega
   have j8:Hid (j < maxLen):=I (by unfold maxLen;omega);rw[hc] at g3;have G:=I (g5.o.put x.name.data.toList ((c:Int)+1) (by rw[hc]));have a6:varB n R m j x=(decide (cntN ((m.vars.take (j+1)).map (·.name.data.toList)) x.name.data.toList= 1) && (nameW x.name && (lqI n R x.label x.label && (z08 x.type && fitT x.init x.type)))):=rfl;have j0:cntN ((m.vars.take (j+1)).map (·.name.data.toList)) x.name.data.toList= c+1:=by
    rw[List.take_add_one,HX.o,List.map_append];show cntN (_ ++ [x.name.data.toList]) _= _;rw[z1l,if_pos rfl,hc]
   have l8:IntKind.i64.wrap ((c:Int)+1)=(c:Int)+1:=by rw[IntKind.wrap_i64];omega
   have a9:(Lit.int .i64 ((c:Int)+1)).wf= true:=by
    have:=wrap64_wf ((c+1:Nat):Int);rw[Go.IntWalk.wrap64_in _ (by omega)] at this;exact this
   rw[j0] at a6;have d7:decide (c+1= 1)= decide ((c:Int)+1= 1):=decide_eq_decide.2 ⟨fun h=>by omega,fun h=>by omega⟩;rw[d7] at a6;obtain⟨C,hC⟩:∃ C:Int,(c:Int)+1= C:=⟨_,rfl⟩;rw[hC] at l8 a9 a6 G;have j5:Go.plainElem Tryz.prog 3 (.int .i64 C)= some ((.lit (.int .i64 C):DataW Unit),[]):=plainElem_int Tryz.underlying3 a9;have k9:=I j5;have c5:Hid (keyOf Tryz.prog 9 (.string x.name)= some (.string x.name.data.toList)):=I (keySt x.name k8.o);have a1:Hid ((D.put (.string x.name.data.toList) (.lit (.int .i64 C))).atKey (.string x.name.data.toList) (.lit (.int .i64 0))= .lit (.int .i64 C)):=I (by
    rw[G.o.2,z1l,if_pos rfl,hc,← hC];rfl)
   have d4:Hid (CntMap (D.put (.string x.name.data.toList) (.lit (.int .i64 C))) ((m.vars.take (j+1)).map (·.name.data.toList))):=I (by
    rw[List.take_add_one,HX.o,List.map_append];exact G.o)
   obtain⟨D2,f4⟩:∃ D2,D.put (.string x.name.data.toList) (.lit (.int .i64 C))= D2:=⟨_,rfl⟩;have g7:=I f4;rw[f4] at a1 d4;have s0:Z1.cell? ⟨q4,0,none⟩= some (.string x.name):=f1.o 0 _ j9.o;clear hc j5 a9 f4 j0 d7 G;go_upto_region 5 with (first|((with_reducible refine z19 _ _ 97 rfl ?_ 9 3 lawSt Tryz.underlying97 Tryz.underlying3 (z2Q _) u.heap.size j D rfl h7.o (.string x.name) (.string x.name.data.toList) rfl c5.o c g3.o ?_);(exact wA rfl))|(at_mapUpdate;refine wpList_mapUpdate_own _ rfl _ _ _ 97 rfl 9 3 lawSt Tryz.underlying97 _ u.heap.size j _ rfl h7.o j8.o _ _ _ rfl rfl c5.o _ [] k9.o ?_;intro Z2 a8 Y;have k6:=I a8;have a2:=I Y;clear a8 Y));clear s0;have a4:Hid (Z2.ownsMap Tryz.prog 9 (Go.plainElem Tryz.prog 3) u.heap.size (j+1) D2):=I (by have h:=k6.o;rw[g7.o] at h;exact h);have e4:=I (c4.o.map b8.o a2.o i6.o e9.o);have l2:=I (i3.o.map b8.o a2.o (Nat.le_refl _));have h8:Hid (u.heap.size < Z2.heap.size):=I (by have h1:=e8.o;have h2:=b8.o.size;have h3:=a2.o.size;omega);have c7:Hid (∀ y,Below Z2.heap.size Z2 y->y.rangeAt q4 0 ([.string x.name,.int .i64 x.label] ++ ct ++ ci)):=I fun y hy=>by
    have h1:=i0.o;have h2:=a2.o.size;have h3:=e8.o;have h4:=l0.o;exact z2C (z2C f1.o (a2.o.block q4 h1 (by intro e;injection e with e;omega))) (hy.block q4 (by omega))
   have i1:Hid (∀ y,Below Z2.heap.size Z2 y->y.rangeAt q4 2 ct):=I fun y hy=>z27 (c7.o y hy) rfl 2 rfl;have l1:Hid (∀ y,Below Z2.heap.size Z2 y->y.rangeAt q4 5 ci):=I fun y hy=>z27 (r:=[]) (c7.o y hy) (List.append_nil _).symm 5 (by simp[e7.o]);have K:Hid (∀ y,Below Z2.heap.size Z2 y->CkD mb lb w0 cb y):=I fun y hy=>CkD.of (e4.o.on hy) f2.o e5.o;have g9:=I (fun y (hy:Below Z2.heap.size Z2 y)=>z0Z x.type ct y ((i5.o.under (K.o y hy).bel).more (K.o y hy).bel.size));have g8:=I (fun y (hy:Below Z2.heap.size Z2 y)=>z7e x.init x.type ci ct y ((l3.o.under (K.o y hy).bel).more (K.o y hy).bel.size) ((i5.o.under (K.o y hy).bel).more (K.o y hy).bel.size));have h9:=I (z6I x.name Z2);have h6:=I (fun y (hy:Below Z2.heap.size Z2 y)=>z1a HS.o (K.o y hy) x.label);obtain⟨B,hB⟩:∃ B,varB n R m j x= B:=⟨_,rfl⟩;have k2:Hid ((L ++ upto (varF n R m) j).length<=1000):=I (by
    have h1:=z1j (z7Y n R m) j;have h2:=k4.o;rw[List.length_append];omega)
   have j7:Hid (L ++ upto (varF n R m) j ++ putF B 2 j= L ++ upto (varF n R m) (j+1)):=I (by
    have:varF n R m j= putF B 2 j:=by
     show(match m.vars[j]? with|none=>[]|some v=>putF (varB n R m j v) 2 j)= _;rw[HX.o,← hB]
    rw[z21,List.append_assoc,this])
   have c6:Hid (∀ y,Below Z2.heap.size Z2 y->Calls Tryz.prog 21 #[.pointer (some ⟨cb,0,none⟩),.bool B,.int .i64 2,.int .i64 j] y fun e u'=>e= .returned (.tuple #[])/\∃ lv',Ck 71 37 W u' cb (.pointer (some ⟨mb,0,none⟩)) (.pointer (some ⟨lb,0,none⟩)) lv' (L ++ upto (varF n R m) (j+1))/\CkStep cb y u' lv1 lv'):=I fun y hy=>by
    rw[← j7.o];cases B with
    |false=>exact z3L (e4.o.on hy) k2.o 2 j
    |true=>
     refine(z5T cb 2 j y).mono ?_;rintro e u' ⟨rfl,rfl⟩;exact⟨rfl,lv1,by show Ck _ _ _ _ _ _ _ _ (L ++ upto (varF n R m) j ++ []);rw[List.append_nil];exact e4.o.on hy,CkStep.refl _ _ _⟩
   have X:Hid (∀ y u' lv',Below Z2.heap.size Z2 y->Ck 71 37 W u' cb (.pointer (some ⟨mb,0,none⟩)) (.pointer (some ⟨lb,0,none⟩)) lv' (L ++ upto (varF n R m) (j+1))->CkStep cb y u' lv1 lv'->CkStep cb u u' lv lv'/\u'.ownsMap Tryz.prog 9 (Go.plainElem Tryz.prog 3) u.heap.size (j+1) D2/\CntMap D2 ((m.vars.take (j+1)).map (·.name.data.toList))/\lv'.ownBlock≠some u.heap.size/\u.heap.size < u'.heap.size):=I fun y u' lv' hy hck O=>by
    have h1:=h8.o;have h2:=hy.size;have h3:=O.size;have h4:=c4.o.lt;have h5:=i6.o;exact⟨(l2.o.trans (CkStep.of hy cb lv1)).trans O,z2K (z2K a4.o (hy.block _ h1)) (O.block _ (by omega) (by omega) (fun e=>e9.o e.symm)),d4.o,O.fresh (by omega) e9.o,by omega⟩
   have b9:Hid (B=(decide (C= 1) && (nameW x.name && (lqI n R x.label x.label && (z08 x.type && fitT x.init x.type))))):=I (by rw[← hB,a6]);clear hB a6 hC;obtain⟨b0,a7⟩:∃ b,decide (C= 1)= b:=⟨_,rfl⟩;obtain⟨b1,f5⟩:∃ b,nameW x.name= b:=⟨_,rfl⟩;obtain⟨b2,f6⟩:∃ b,lqI n R x.label x.label= b:=⟨_,rfl⟩;obtain⟨b3,f7⟩:∃ b,z08 x.type= b:=⟨_,rfl⟩;obtain⟨b4,f8⟩:∃ b,fitT x.init x.type= b:=⟨_,rfl⟩;rw[a7,f5,f6,f7,f8] at b9;rw[f5] at h9;rw[f6] at h6;rw[f7] at g9;rw[f8] at g8;clear f5 f6 f7 f8;have s0:Z2.cell? ⟨q4,0,none⟩= some (.string x.name):=c7.o Z2 (Below.refl _ _) 0 _ rfl;cases b0 with
   |false=>
    have q1:(C ==1)= false:=by rw[beq_eq_false_iff_ne];exact of_decide_eq_false a7
    obtain rfl:B= false:=b9.o;clear a7;go_wp2_with (first|((with_reducible refine z19 _ _ 97 rfl ?_ 9 3 lawSt Tryz.underlying97 Tryz.underlying3 (z2Q _) u.heap.size (j+1) D2 rfl a4.o (.string x.name) (.string x.name.data.toList) rfl c5.o _ a1.o ?_);(exact wA rfl))|(go_at_call 21;(with_reducible refine(c6.o _ (Below.refl _ _)).mono ?_);rintro e y9 ⟨rfl,b5,A,F⟩;have a3:=I A;have e6:=I F;have a5:=I (X.o _ _ _ (Below.refl _ _) A F);clear A F));go_roundg g;case measure=>omega
    case rel=>exact⟨j+1,b5,D2,by omega,by go_num,a3.o,a5.o⟩
   |true=>
   obtain rfl:C= 1:=of_decide_eq_true a7;clear a7;rcases sc3 b1 b2 b3 with rfl|⟨rfl,rfl⟩|⟨rfl,rfl,rfl⟩|⟨rfl,rfl,rfl⟩;all_goals
    first|obtain rfl:B= false:=b9.o|obtain rfl:B= b4:=b9.o
    go_wp2_with (first|((with_reducible refine z19 _ _ 97 rfl ?_ 9 3 lawSt Tryz.underlying97 Tryz.underlying3 (z2Q _) u.heap.size (j+1) D2 rfl a4.o (.string x.name) (.string x.name.data.toList) rfl c5.o _ a1.o ?_);(exact wA rfl))|(go_at_call 42;refine(h9.o).mono ?_;rintro e y1 ⟨rfl,hb⟩;have N:=I hb;have d1:=c7.o _ N.o 1 _ rfl;clear hb)|(go_at_call 24;refine(h6.o _ N.o).e45 ?_)|((with_reducible refine za tyK41 _ rfl ?_ (i1.o _ N.o) rfl e7.o ?_);exact wA rfl)|((with_reducible refine za tyK41 _ rfl ?_ (i1.o _ a0.o) rfl e7.o ?_);exact wA rfl)|((with_reducible refine za tyK52 _ rfl ?_ (l1.o _ a0.o) rfl k3.o ?_);exact wA rfl)|(go_at_call 11;with_reducible refine(g9.o _ N.o).mono ?_;rintro e y2 ⟨rfl,hb⟩;have a0:=I (beT N.o hb);clear hb)|(go_at_call 43;with_reducible refine(g8.o _ a0.o).mono ?_;rintro e y3 ⟨rfl,hb⟩;have i7:=I (beT a0.o hb);clear hb)|(go_at_call 21;(with_reducible refine(c6.o _ i7.o).mono ?_);rintro e y9 ⟨rfl,b5,A,F⟩;have a3:=I A;have e6:=I F;have a5:=I (X.o _ _ _ i7.o A F);clear A F)|(go_at_call 21;(with_reducible refine(c6.o _ a0.o).mono ?_);rintro e y9 ⟨rfl,b5,A,F⟩;have a3:=I A;have e6:=I F;have a5:=I (X.o _ _ _ a0.o A F);clear A F)|(go_at_call 21;(with_reducible refine(c6.o _ N.o).mono ?_);rintro e y9 ⟨rfl,b5,A,F⟩;have a3:=I A;have e6:=I F;have a5:=I (X.o _ _ _ N.o A F);clear A F));go_roundg g;case measure=>omega
    case rel=>exact⟨j+1,b5,D2,by omega,by go_num,a3.o,a5.o⟩
end
section
open Go Go.RowKit P
theorem z5S {W u:World} {cb:Nat} {mp lp lv:Value} {L:List z00} (h:Ck 71 37 W u cb mp lp lv L) (hL:L.length<=1000) (B:Bool) (r a:Int):
  Calls Tryz.prog 21 #[.pointer (some ⟨cb,0,none⟩),.bool B,.int .i64 r,.int .i64 a] u fun e u'=>e= .returned (.tuple #[])/\∃ lv',Ck 71 37 W u' cb mp lp lv' (L ++ putF B r a)/\CkStep cb u u' lv lv':=by
 cases B with
 |false=>exact z3L h hL r a
 |true=>
  refine(z5T cb r a u).mono ?_;rintro e u' ⟨rfl,rfl⟩;exact⟨rfl,lv,by show Ck _ _ _ _ _ _ _ _ (L ++ []);rw[List.append_nil];exact h,CkStep.refl _ _ _⟩
def isSt (x:NodeT):Bool:=x.kind ==1
theorem z9G (m:ModelT):z1X m= decide (0 < m.nodes.countP isSt):=by
 unfold z1X;rw[show(fun x:NodeT=>x.kind ==1)= isSt from rfl];rcases h:m.nodes.any isSt with _|_
 ·have:m.nodes.countP isSt= 0:=List.countP_eq_zero.2 fun x g=>by
   have:=List.any_eq_false.1 h x g;exact this
  rw[this];rfl
 ·obtain⟨x,g,A⟩:=List.any_eq_true.1 h
  have:=List.countP_pos_iff.2 ⟨x,g,A⟩;rw[decide_eq_true this]
theorem za5 {m:ModelT} {mb lb n:Nat} {R:Rel} {w0 W u:World} {OA GA VA MA NA:Option Addr} {oc gc vc mc nc cb:Nat} {lv:Value} {L:List z00} (hs:CkS m mb lb n R w0 OA GA VA MA NA oc gc vc mc nc) (hck:Ck 71 37 W u cb (.pointer (some ⟨mb,0,none⟩)) (.pointer (some ⟨lb,0,none⟩)) lv L) (hw:Below w0.heap.size w0 W) (hcb:w0.heap.size<=cb) (hL:L.length<=500) (hfew:m.nodes.length<=100):
  Calls Tryz.prog 25 #[.pointer (some ⟨cb,0,none⟩)] u fun e u'=>e= .returned (.tuple #[])/\∃ lv',Ck 71 37 W u' cb (.pointer (some ⟨mb,0,none⟩)) (.pointer (some ⟨lb,0,none⟩)) lv' (L ++ upto (nodeF n R m (zQ m)) m.nodes.length ++ putF (z1X m) 7 (-1))/\CkStep cb u u' lv lv':=by
 have HS:=I hs;have d8:=I hw;have d4:=I hcb;have d7:=I hL;have e8:=I hfew;have f3:(m.nodes.length:Int)<=100:=by omega
 obtain⟨-,f5,g5,e1,a7⟩:=id hs.nodes;injection e1 with e1 e2 e3;subst e1 e3;have b6:=I a7;have b2:=I hck;have b5:=I (CkD.of hck hw hcb);have b7:Hid (z1X m= decide (0 < m.nodes.countP isSt)):=I (z9G m);have d0:=b5.o.c0;have d5:=HS.o.cell b5.o.bel (j:=5) rfl;clear hs hw hcb hL hck a7 e2;go_enter Tryz.func25,Tryz.ntmps25;go_wp2;clear d0 d5;go_loopg [2,13] m.nodes.length (fun q s2 y z=>∃ (j s:Nat) (lv1:Value),j+q= m.nodes.length/\s2= .int .i64 s/\y= .int .i64 j/\Ck 71 37 W z cb (.pointer (some ⟨mb,0,none⟩)) (.pointer (some ⟨lb,0,none⟩)) lv1 (L ++ upto (nodeF n R m (zQ m)) j)/\CkStep cb u z lv lv1/\s=(m.nodes.take j).countP isSt);case atStart=>exact⟨0,0,lv,by omega,rfl,rfl,by rw[z2F,List.append_nil];exact b2.o,CkStep.refl _ _ _,rfl⟩
 case round=>
  obtain⟨j,s,lv1,hj,rfl,rfl,hck,c9,b1⟩:=hrel;have a8:=I hck;have a1:=I c9;have b3:=I b1;have g1:s<=j:=by
   rw[b1];exact Nat.le_trans List.countP_le_length (by rw[List.length_take];omega)
  clear hck c9 b1;obtain⟨z,hz⟩:∃ z,z= wr:=⟨_,rfl⟩;subst hz;have a9:Hid ((L ++ upto (nodeF n R m (zQ m)) j).length<=1000):=I (by
   have h1:=z1j (zb1 n R m (zQ m)) j;have h2:=d7.o;rw[List.length_append];omega)
  cases gk with
  |zero=>
   obtain rfl:j= m.nodes.length:=by omega
   have f7: ¬ ((m.nodes.length:Int) <(m.nodes.length:Int)):=by omega
   have HP:Hid (Calls Tryz.prog 21 #[.pointer (some ⟨cb,0,none⟩),.bool (decide (0 <(s:Int))),.int .i64 7,.int .i64 (-1)] z fun e u'=>e= .returned (.tuple #[])/\∃ lv',Ck 71 37 W u' cb (.pointer (some ⟨mb,0,none⟩)) (.pointer (some ⟨lb,0,none⟩)) lv' (L ++ upto (nodeF n R m (zQ m)) m.nodes.length ++ putF (z1X m) 7 (-1))/\CkStep cb z u' lv1 lv'):=I (by
    have he:z1X m= decide (0 <(s:Int)):=by
     rw[b7.o];have h:=b3.o;rw[List.take_length] at h;rw[← h];exact decide_eq_decide.2 ⟨fun h=>by omega,fun h=>by omega⟩
    rw[he];exact z5S a8.o a9.o _ 7 (-1))
   have f4:=a9.o;by_cases h0:0 < s
   ·obtain⟨s1,rfl⟩:∃ s1,s= s1+1:=⟨s - 1,by omega⟩
    have hd:decide ((0:Int) <((s1+1:Nat):Int))= true:=decide_eq_true (by omega);have e4:decide (((s1+1:Nat):Int) > 0)= true:=decide_eq_true (by omega);rw[hd] at HP;obtain⟨S0,b9⟩:∃ S0:Int,((s1+1:Nat):Int)= S0:=⟨_,rfl⟩;have g0:(0:Int) < S0:=by omega
    rw[b9] at*;clear hd e4 b9 h0;go_wp2_with (go_at_call 21;with_reducible refine HP.o.mono ?_;rintro e y9 ⟨rfl,O,A,C⟩;have G:=I A;have K:=I C;clear A C);refine bodyPost_end (results_none rfl _ _ _) rfl ?_;exact⟨rfl,O,G.o,a1.o.trans K.o⟩
   ·obtain rfl:s= 0:=by omega
    have hd:decide ((0:Int) <((0:Nat):Int))= false:=rfl;rw[hd] at HP;go_wp2_with (go_at_call 21;with_reducible refine HP.o.mono ?_;rintro e y9 ⟨rfl,O,A,C⟩;have G:=I A;have K:=I C;clear A C);refine bodyPost_end (results_none rfl _ _ _) rfl ?_;exact⟨rfl,O,G.o,a1.o.trans K.o⟩
  |succ g=>
   have f9:(j:Int) <(m.nodes.length:Int):=by omega
   have f8:(0:Int)<=(j:Int):=by omega
   have e7:j < m.nodes.length:=by omega
   obtain⟨x,hx⟩:∃ x,m.nodes[j]?= some x:=⟨_,List.getElem?_eq_getElem e7⟩;obtain⟨rb,ro,rfl,c8,hc⟩:=b6.o (by omega);obtain⟨ks,e5,c5,c6⟩:=hc j x hx;obtain⟨XA,CA,xc,cc,ce,f6,c7⟩:=zb2 c5 c6 c8;have b0:=I c7;have HX:=I hx;have HD:=I (CkD.of a8.o d8.o d4.o);clear hc e5 c5 c6 c8 hx c7;have d0:=HD.o.c0;have d5:=HS.o.cell HD.o.bel (j:=5) rfl;have d6:=b0.o.c0 HD.o.bel;have a3:=I (za7 HS.o HD.o b0.o);have g2:IntKind.i64.wrap ((s:Int)+1)=(s:Int)+1:=by rw[IntKind.wrap_i64];omega
   have a6:Hid ((nodeF n R m (zQ m)) j= if z0O n R m x then putF (zQ m x) 6 j else[(5,j)]):=I (by
    show(match m.nodes[j]? with|none=>[]|some x=>if z0O n R m x then putF (zQ m x) 6 j else[(5,j)])= _;rw[HX.o])
   have a5:Hid ((m.nodes.take (j+1)).countP isSt= s+if x.kind= 1 then 1 else 0):=I (by
    rw[List.take_add_one,HX.o,List.countP_append,← b3.o]
    congr 1
    show List.countP isSt [x]= _;rw[List.countP_singleton];unfold isSt;by_cases h:x.kind= 1<;>simp[h])
   have X:Hid (z0O n R m x= true->∀ y,Below z.heap.size z y->Calls Tryz.prog 46 #[.pointer (some ⟨cb,0,none⟩),.pointer (some ⟨rb,ro+j*29,none⟩)] y fun e u'=>e= .returned (.bool (zQ m x))/\Below y.heap.size y u'):=I fun h y hy=>za8 HS.o (HD.o.next hy) b0.o (zbp h);obtain⟨S,hS⟩:∃ S,z0O n R m x= S:=⟨_,rfl⟩;obtain⟨B,hB⟩:∃ B,zQ m x= B:=⟨_,rfl⟩;rw[hS] at a3 X a6;rw[hB] at X a6;have a0:Hid (∀ y,Below z.heap.size z y->∀ (B:Bool) (r:Int),(nodeF n R m (zQ m)) j= putF B r j->Calls Tryz.prog 21 #[.pointer (some ⟨cb,0,none⟩),.bool B,.int .i64 r,.int .i64 j] y fun e u'=>e= .returned (.tuple #[])/\∃ lv',Ck 71 37 W u' cb (.pointer (some ⟨mb,0,none⟩)) (.pointer (some ⟨lb,0,none⟩)) lv' (L ++ upto (nodeF n R m (zQ m)) (j+1))/\CkStep cb y u' lv1 lv'):=I fun y hy B r he=>by
    rw[z21,he,← List.append_assoc];exact z5S (a8.o.on hy) a9.o B r j
   clear hS hB;cases S with
   |false=>
    have a2:Hid (∀ y,Below z.heap.size z y->Calls Tryz.prog 21 #[.pointer (some ⟨cb,0,none⟩),.bool false,.int .i64 5,.int .i64 j] y fun e u'=>e= .returned (.tuple #[])/\∃ lv',Ck 71 37 W u' cb (.pointer (some ⟨mb,0,none⟩)) (.pointer (some ⟨lb,0,none⟩)) lv' (L ++ upto (nodeF n R m (zQ m)) (j+1))/\CkStep cb y u' lv1 lv'):=I fun y hy=>a0.o y hy false 5 a6.o;clear a0 X;by_cases k1:x.kind= 1
    ·have F:Hid (s+1=(m.nodes.take (j+1)).countP isSt):=I (by rw[a5.o,if_pos k1])
     have Y:((s+1:Nat):Int)=(s:Int)+1:=by omega
     rw[k1] at d6;clear k1;go_wp2_with (first|(go_at_call 45;refine(a3.o).k45 ?_;intro y1 N)|(go_at_call 21;refine(a2.o _ N.o).mono ?_;rintro e y9 ⟨rfl,O,A,C⟩;have G:=I A;have K:=I C;clear A C));go_roundg g;case measure=>omega
     case rel=>exact⟨j+1,s+1,O,by omega,by first|rfl|(rw[Y];go_num),by go_num,G.o,(a1.o.trans (CkStep.of N.o cb lv1)).trans K.o,F.o⟩
    ·have F:Hid (s=(m.nodes.take (j+1)).countP isSt):=I (by rw[a5.o,if_neg k1,Nat.add_zero])
     have Y:((s:Nat):Int)=(s:Int):=rfl;have q1:(x.kind ==1)= false:=by rw[beq_eq_false_iff_ne];exact k1
     go_wp2_with (first|(go_at_call 45;refine(a3.o).k45 ?_;intro y1 N)|(go_at_call 21;refine(a2.o _ N.o).mono ?_;rintro e y9 ⟨rfl,O,A,C⟩;have G:=I A;have K:=I C;clear A C));go_roundg g;case measure=>omega
     case rel=>exact⟨j+1,s,O,by omega,by first|rfl|(rw[Y];go_num),by go_num,G.o,(a1.o.trans (CkStep.of N.o cb lv1)).trans K.o,F.o⟩
   |true=>
    have b8:=I (X.o rfl);have a2:Hid (∀ y,Below z.heap.size z y->Calls Tryz.prog 21 #[.pointer (some ⟨cb,0,none⟩),.bool B,.int .i64 6,.int .i64 j] y fun e u'=>e= .returned (.tuple #[])/\∃ lv',Ck 71 37 W u' cb (.pointer (some ⟨mb,0,none⟩)) (.pointer (some ⟨lb,0,none⟩)) lv' (L ++ upto (nodeF n R m (zQ m)) (j+1))/\CkStep cb y u' lv1 lv'):=I fun y hy=>a0.o y hy B 6 a6.o;clear a0 X;by_cases k1:x.kind= 1
    ·have F:Hid (s+1=(m.nodes.take (j+1)).countP isSt):=I (by rw[a5.o,if_pos k1])
     have Y:((s+1:Nat):Int)=(s:Int)+1:=by omega
     rw[k1] at d6;clear k1;go_wp2_with (first|(go_at_call 45;refine(a3.o).k45 ?_;intro y1 N)|(go_at_call 46;refine(b8.o _ N.o).mono ?_;rintro e y2 ⟨rfl,hb⟩;have a4:=I (beT N.o hb);clear hb)|(go_at_call 21;refine(a2.o _ a4.o).mono ?_;rintro e y9 ⟨rfl,O,A,C⟩;have G:=I A;have K:=I C;clear A C));go_roundg g;case measure=>omega
     case rel=>exact⟨j+1,s+1,O,by omega,by first|rfl|(rw[Y];go_num),by go_num,G.o,(a1.o.trans (CkStep.of a4.o cb lv1)).trans K.o,F.o⟩
    ·have F:Hid (s=(m.nodes.take (j+1)).countP isSt):=I (by rw[a5.o,if_neg k1,Nat.add_zero])
     have Y:((s:Nat):Int)=(s:Int):=rfl;have q1:(x.kind ==1)= false:=by rw[beq_eq_false_iff_ne];exact k1
     go_wp2_with (first|(go_at_call 45;refine(a3.o).k45 ?_;intro y1 N)|(go_at_call 46;refine(b8.o _ N.o).mono ?_;rintro e y2 ⟨rfl,hb⟩;have a4:=I (beT N.o hb);clear hb)|(go_at_call 21;refine(a2.o _ a4.o).mono ?_;rintro e y9 ⟨rfl,O,A,C⟩;have G:=I A;have K:=I C;clear A C));go_roundg g;case measure=>omega
     case rel=>exact⟨j+1,s,O,by omega,by first|rfl|(rw[Y];go_num),by go_num,G.o,(a1.o.trans (CkStep.of a4.o cb lv1)).trans K.o,F.o⟩
end
section
open Go Go.RowKit P
theorem z7D {w:World} {B:Nat} {A:Option Addr} {c:Nat} {l:List (Int × Int)} (h:SlAt w B 2 PairR (.slice A l.length c) l):Pairs w B A l:=by
 obtain⟨h0,N,O,e,h1⟩:=h;injection e with e1 e2 e3;subst e1 e3;refine⟨h0,fun hp=> ?_⟩;obtain⟨b,o,rfl,G,K⟩:=h1 hp;refine⟨b,o,rfl,G,fun i p hi=> ?_⟩;obtain⟨cs,_,F,rfl,g,C⟩:=K i p hi;exact⟨F 0 _ rfl,F 1 _ rfl,g,C⟩
def z03 (m:ModelT) (OA GA VA MA NA:Option Addr) (oc gc vc mc nc:Nat):List Value:=[.int .i64 m.labels,.slice OA m.order.length oc,.slice GA m.grants.length gc,.slice VA m.vars.length vc,.slice MA m.msgs.length mc,.slice NA m.nodes.length nc]
theorem z1N {w:World} {B:Nat} {cs:List Value} {m:ModelT} (h:ModelAt w B cs m):∃ OA GA VA MA NA oc gc vc mc nc,cs= z03 m OA GA VA MA NA oc gc vc mc nc/\
  SlAt w B 2 PairR (.slice OA m.order.length oc) m.order/\SlAt w B 2 PairR (.slice GA m.grants.length gc) m.grants/\SlAt w B 11 (VarAt w B) (.slice VA m.vars.length vc) m.vars/\SlAt w B 8 (MsgAt w B) (.slice MA m.msgs.length mc) m.msgs/\SlAt w B 29 (NodeAt w B) (.slice NA m.nodes.length nc) m.nodes:=by
 obtain⟨⟨v1,v2,v3,v4,v5,rfl,h1,h2,h3,h4,h5⟩,_⟩:=h;obtain⟨-,g,c1,rfl, -⟩:=id h1;obtain⟨-,A,c2,rfl, -⟩:=id h2;obtain⟨-,C,c3,rfl, -⟩:=id h3;obtain⟨-,F,c4,rfl, -⟩:=id h4;obtain⟨-,G,c5,rfl, -⟩:=id h5;exact⟨_,_,_,_,_,_,_,_,_,_,rfl,h1,h2,h3,h4,h5⟩
theorem z5c (m:ModelT) (OA GA VA MA NA:Option Addr) (oc gc vc mc nc:Nat):∀ v∈z03 m OA GA VA MA NA oc gc vc mc nc,v.oneCell'= true:=by
 intro v hv;simp only[z03,List.mem_cons,List.not_mem_nil,or_false] at hv;rcases hv with rfl|rfl|rfl|rfl|rfl|rfl<;>rfl
theorem zeB (m:ModelT) (mcs:List Value) (w:World) (hm:ModelAt w w.heap.size mcs m) (h:makeE m.labels m.order≠0):
  Calls Tryz.prog 20 #[.agg ⟨mcs⟩] w fun e w'=>e= .returned (.tuple #[.pointer none,.int .i64 (makeE m.labels m.order)])/\Below w.heap.size w w':=by
 obtain⟨OA,GA,VA,MA,NA,oc,gc,vc,mc,nc,rfl,Y, -⟩:=z1N hm;have X:=I (z7D Y);have O:=I (zc w (.cells ⟨z03 m OA GA VA MA NA oc gc vc mc nc⟩ 27));have G:=I (Whole.new w (z03 m OA GA VA MA NA oc gc vc mc nc) 27);have HZ:Hid ((w.alloc (.cells ⟨z03 m OA GA VA MA NA oc gc vc mc nc⟩ 27)).heap.size= w.heap.size+1):=I (by simp);have H:=I h;clear hm Y h;go_enter Tryz.func20,Tryz.ntmps20;go_upto_region 1 with (fail);generalize w.alloc (.cells ⟨z03 m OA GA VA MA NA oc gc vc mc nc⟩ 27)= W at*;obtain⟨q,A⟩:∃ q,w.heap.size= q:=⟨_,rfl⟩;have HQ:=I A;rw[A] at G HZ;rw[A];clear A;have d0:W.cell? ⟨q,0,none⟩= some (.int .i64 m.labels):=G.o.range 0 _ rfl;have d1:W.cell? ⟨q,1,none⟩= some (.slice OA m.order.length oc):=G.o.range 1 _ rfl;have F:Hid (Pairs W W.heap.size OA m.order):=I (by
  have g:=O.o;refine⟨X.o.1,fun hp=> ?_⟩;obtain⟨b,o,e,N,hc⟩:=X.o.2 hp;refine⟨b,o,e,Nat.lt_of_lt_of_le N g.size,fun i p hi=> ?_⟩;obtain⟨h1,h2,h3⟩:=hc i p hi;exact⟨(g.cell (p:=⟨b,o+i*2,none⟩) N).trans h1,(g.cell (p:=⟨b,o+i*2+1,none⟩) N).trans h2,h3⟩)
 have C:=I (z7t m.labels OA m.order.length oc m.order W rfl F.o);go_wp2_with (go_at_call 9;refine C.o.mono ?_;rintro e y ⟨g,K⟩;have HY:=I (beT O.o g);clear g;obtain⟨-,rfl⟩:makeE m.labels m.order≠0/\e= .returned (.tuple #[.pointer none,.int .i64 (makeE m.labels m.order)]):=K.resolve_right (fun h=>H.o h.1));go_ret2;exact⟨rfl,HY.o⟩
theorem zeC (m:ModelT) (mcs:List Value) (w:World) (hm:ModelAt w w.heap.size mcs m) (h:makeE m.labels m.order= 0):
  Calls Tryz.prog 20 #[.agg ⟨mcs⟩] w fun e w'=>e= .returned (.tuple #[.pointer (some ⟨w.heap.size+1,0,none⟩),.int .i64 0])/\LatR w' (w.heap.size+1) m.labels.toNat (ordOf m.labels.toNat m.order)/\Below w.heap.size w w':=by
 obtain⟨OA,GA,VA,MA,NA,oc,gc,vc,mc,nc,rfl,ho, -⟩:=z1N hm;have HP:=I (z7D ho);have Y:=I (zc w (.cells ⟨z03 m OA GA VA MA NA oc gc vc mc nc⟩ 27));have O:=I (Whole.new w (z03 m OA GA VA MA NA oc gc vc mc nc) 27);have X:Hid ((w.alloc (.cells ⟨z03 m OA GA VA MA NA oc gc vc mc nc⟩ 27)).heap.size= w.heap.size+1):=I (by simp);have H:=I h;clear hm ho h;go_enter Tryz.func20,Tryz.ntmps20;go_upto_region 1 with (fail);generalize w.alloc (.cells ⟨z03 m OA GA VA MA NA oc gc vc mc nc⟩ 27)= W at*;obtain⟨q,G⟩:∃ q,w.heap.size= q:=⟨_,rfl⟩;have HQ:=I G;rw[G] at O X;rw[G];clear G;have d0:W.cell? ⟨q,0,none⟩= some (.int .i64 m.labels):=O.o.range 0 _ rfl;have d1:W.cell? ⟨q,1,none⟩= some (.slice OA m.order.length oc):=O.o.range 1 _ rfl;have N:Hid (Pairs W W.heap.size OA m.order):=I (by
  have g:=Y.o;refine⟨HP.o.1,fun hp=> ?_⟩;obtain⟨b,o,e,A,hc⟩:=HP.o.2 hp;refine⟨b,o,e,Nat.lt_of_lt_of_le A g.size,fun i p hi=> ?_⟩;obtain⟨h1,h2,h3⟩:=hc i p hi;exact⟨(g.cell (p:=⟨b,o+i*2,none⟩) A).trans h1,(g.cell (p:=⟨b,o+i*2+1,none⟩) A).trans h2,h3⟩)
 have K:=I (z7t m.labels OA m.order.length oc m.order W rfl N.o);go_wp2_with (go_at_call 9;refine K.o.mono ?_;rintro e y ⟨g,C⟩;have HY:=I (beT Y.o g);clear g;obtain⟨-,k,F,rfl,A⟩:=C.resolve_left (fun h=>h.1 H.o);have HL:=I A;have HK:=I F;clear A F C);go_ret2;refine⟨by rw[HQ.o,← X.o];rfl,?_,HY.o⟩;have F:=HK.o;rw[F];show LatR _ _ k (ordOf k m.order);rw[HQ.o,← X.o];exact HL.o
end
section
open Go Go.RowKit P
theorem zca {m:ModelT} {mb lb n:Nat} {R:Rel} {w0 W u:World} {OA GA VA MA NA:Option Addr} {oc gc vc mc nc cb:Nat} {lv:Value} {L:List z00} (hs:CkS m mb lb n R w0 OA GA VA MA NA oc gc vc mc nc) (hck:Ck 71 37 W u cb (.pointer (some ⟨mb,0,none⟩)) (.pointer (some ⟨lb,0,none⟩)) lv L) (hw:Below w0.heap.size w0 W) (hcb:w0.heap.size<=cb) (hL:L.length<=500) (hfew:m.msgs.length<=100):
  Calls Tryz.prog 23 #[.pointer (some ⟨cb,0,none⟩)] u fun e u'=>e= .returned (.tuple #[])/\∃ lv',Ck 71 37 W u' cb (.pointer (some ⟨mb,0,none⟩)) (.pointer (some ⟨lb,0,none⟩)) lv' (L ++ upto (msgF n R m) m.msgs.length)/\CkStep cb u u' lv lv':=by
 have HS:=I hs;have f2:=I hw;have e5:=I hcb;have k3:=I hL;have m3:(m.msgs.length:Int)<=100:=by omega
 obtain⟨-,m6,n3,e1,e0⟩:=id hs.msgs;injection e1 with e1 e2 e3;subst e1 e3;have i1:=I e0;have f0:Hid (lv.ownBlock≠some u.heap.size):=I fun e=>by have:=z0z hck.own e;omega
 have i4:Hid (W.heap.size<=u.heap.size):=I hck.step.size;have g3:=I (zc u (.map #[] 0));have k4:Hid ((u.alloc (.map #[] 0)).ownsMap Tryz.prog 9 (Go.plainElem Tryz.prog 3) u.heap.size 0 (.map []:DataW Unit)):=I (World.ownsMap_made u _ _ _);have d2:=I (hck.on g3.o);have i3:Hid (CkStep cb u (u.alloc (.map #[] 0)) lv lv):=I (CkStep.of g3.o cb lv);have l4:Hid ((u.alloc (.map #[] 0)).heap.size= u.heap.size+1):=I (by simp);have m9:= @run_makeMap Tryz.prog;clear hs hw hcb hL hck e0 e2;go_enter Tryz.func23,Tryz.ntmps23;go_upto_region 1 with (fail);generalize u.alloc (.map #[] 0)= U at*;have g5:=I (CkD.of d2.o f2.o e5.o);have d0:=g5.o.c0;have d3:=HS.o.cell g5.o.bel (j:=4) rfl;go_wp2;clear d0 d3;go_loopg [14] m.msgs.length (fun q y z=>∃ (j:Nat) (lv1:Value) (D:DataW Unit),j+q= m.msgs.length/\y= .int .i64 j/\Ck 71 37 W z cb (.pointer (some ⟨mb,0,none⟩)) (.pointer (some ⟨lb,0,none⟩)) lv1 (L ++ upto (msgF n R m) j)/\CkStep cb u z lv lv1/\z.ownsMap Tryz.prog 9 (Go.plainElem Tryz.prog 3) u.heap.size j D/\CntMap D ((m.msgs.take j).map (·.name.data.toList))/\lv1.ownBlock≠some u.heap.size/\u.heap.size < z.heap.size);case atStart=>exact⟨0,lv,_,by omega,rfl,by rw[z2F,List.append_nil];exact d2.o,i3.o,k4.o,by simpa using z66,f0.o,by have:=l4.o;omega⟩
 case round=>
  obtain⟨j,lv1,D,hj,rfl,hck,N,j2,i8,j3,d9⟩:=hrel;have c4:=I hck;have i2:=I N;have k6:=I j2;have g4:=I i8;have e9:=I j3;have e8:=I d9;clear hck N j2 i8 j3 d9;obtain⟨z,hz⟩:∃ z,z= wr:=⟨_,rfl⟩;subst hz;cases gk with
  |zero=>
   obtain rfl:j= m.msgs.length:=by omega
   have m7: ¬ ((m.msgs.length:Int) <(m.msgs.length:Int)):=by omega
   go_wp2;refine bodyPost_end (results_none rfl _ _ _) rfl ?_;exact⟨rfl,lv1,c4.o,i2.o⟩
  |succ g=>
   have m8:(j:Int) <(m.msgs.length:Int):=by omega
   have m0:j < m.msgs.length:=by omega
   obtain⟨x,hx⟩:∃ x,m.msgs[j]?= some x:=⟨_,List.getElem?_eq_getElem m0⟩;obtain⟨rb,ro,rfl,j5,hc⟩:=i1.o (by omega);obtain⟨ks,j0,j1,f9⟩:=hc j x hx;have HD:=I (CkD.of c4.o f2.o e5.o);have k0:Hid (z.rangeAt rb (ro+j*8) ks):=I (zb j1 HD.o.bel j5);have g9:=I j0;obtain⟨ct,cd,rfl,d8,d6,g1,g0⟩:=f9.ex;have k7:=I f9.name;have j8:Hid (([.string x.name,.int .i64 x.label] ++ ct ++ cd:List Value)[0]?= some (.string x.name)):=I rfl;have j9:Hid (∀ v∈([.string x.name,.int .i64 x.label] ++ ct ++ cd:List Value),v.oneCell'= true):=I (by
    intro v hv;rcases List.mem_append.1 hv with hv|hv
    ·rcases List.mem_append.1 hv with hv|hv
     ·simp only[List.mem_cons,List.not_mem_nil,or_false] at hv
      rcases hv with rfl|rfl<;>rfl
     ·exact(zl g1).2 v hv
    ·exact(zl g0).2 v hv)
   have e7:=I d8;have k2:=I d6;have l3:=I g1;have l2:=I g0;clear d8 d6 g1 g0;have HX:=I hx;clear hc j0 j1 f9 j5 hx;go_upto_region 4 with (first|((with_reducible refine za tyK65 _ rfl ?_ k0.o rfl g9.o ?_);exact wA rfl)|((with_reducible refine zW tyK65 _ _ rfl ?_ z g9.o j9.o rfl ?_ ?_ ?_ ?_);exact wA rfl;rfl;rfl;rfl;intro Z1 f3));have b8:=I f3.o.below;have f1:=I f3.o.range;have h9:=I f3.o.size;obtain⟨q4,c9⟩:∃ q,z.heap.size= q:=⟨_,rfl⟩;have k9:=I c9;rw[c9] at f1 h9;rw[c9];clear c9;have h6:=I (z2K k6.o (b8.o.block u.heap.size e8.o));have g2:=I (g4.o.2 x.name.data.toList);obtain⟨c,hc⟩:∃ c:Nat,cntN ((m.msgs.take j).map (·.name.data.toList)) x.name.data.toList= c:=⟨_,rfl⟩;have m4:=I hc;have m2:c<=100:=by have h:=z8E ((m.msgs.take j).map (·.name.data.toList)) x.name.data.toList;rw[List.length_map,List.length_take] at h;omega
   have j7:Hid (j < maxLen):=I (by unfold maxLen;omega);rw[hc] at g2;have G:=I (g4.o.put x.name.data.toList ((c:Int)+1) (by rw[hc]));have a6:msgB n R m j x=(decide (cntN ((m.msgs.take (j+1)).map (·.name.data.toList)) x.name.data.toList= 1) && (nameW x.name && (lqI n R x.label x.label && (z08 x.key && z08 x.body)))):=rfl;have i9:cntN ((m.msgs.take (j+1)).map (·.name.data.toList)) x.name.data.toList= c+1:=by
    rw[List.take_add_one,HX.o,List.map_append];show cntN (_ ++ [x.name.data.toList]) _= _;rw[z1l,if_pos rfl,hc]
   have l8:IntKind.i64.wrap ((c:Int)+1)=(c:Int)+1:=by rw[IntKind.wrap_i64];omega
   have a9:(Lit.int .i64 ((c:Int)+1)).wf= true:=by
    have:=wrap64_wf ((c+1:Nat):Int);rw[Go.IntWalk.wrap64_in _ (by omega)] at this;exact this
   rw[i9] at a6;have d7:decide (c+1= 1)= decide ((c:Int)+1= 1):=decide_eq_decide.2 ⟨fun h=>by omega,fun h=>by omega⟩;rw[d7] at a6;obtain⟨C,hC⟩:∃ C:Int,(c:Int)+1= C:=⟨_,rfl⟩;rw[hC] at l8 a9 a6 G;have j4:Go.plainElem Tryz.prog 3 (.int .i64 C)= some ((.lit (.int .i64 C):DataW Unit),[]):=plainElem_int Tryz.underlying3 a9;have k8:=I j4;have c5:Hid (keyOf Tryz.prog 9 (.string x.name)= some (.string x.name.data.toList)):=I (keySt x.name k7.o);have a0:Hid ((D.put (.string x.name.data.toList) (.lit (.int .i64 C))).atKey (.string x.name.data.toList) (.lit (.int .i64 0))= .lit (.int .i64 C)):=I (by
    rw[G.o.2,z1l,if_pos rfl,hc,← hC];rfl)
   have d4:Hid (CntMap (D.put (.string x.name.data.toList) (.lit (.int .i64 C))) ((m.msgs.take (j+1)).map (·.name.data.toList))):=I (by
    rw[List.take_add_one,HX.o,List.map_append];exact G.o)
   obtain⟨D2,f4⟩:∃ D2,D.put (.string x.name.data.toList) (.lit (.int .i64 C))= D2:=⟨_,rfl⟩;have g6:=I f4;rw[f4] at a0 d4;have s0:Z1.cell? ⟨q4,0,none⟩= some (.string x.name):=f1.o 0 _ j8.o;clear hc j4 a9 f4 i9 d7 G;go_upto_region 5 with (first|((with_reducible refine z19 _ _ 97 rfl ?_ 9 3 lawSt Tryz.underlying97 Tryz.underlying3 (z2Q _) u.heap.size j D rfl h6.o (.string x.name) (.string x.name.data.toList) rfl c5.o c g2.o ?_);(exact wA rfl))|(at_mapUpdate;refine wpList_mapUpdate_own _ rfl _ _ _ 97 rfl 9 3 lawSt Tryz.underlying97 _ u.heap.size j _ rfl h6.o j7.o _ _ _ rfl rfl c5.o _ [] k8.o ?_;intro Z2 a8 X;have k5:=I a8;have a2:=I X;clear a8 X));clear s0;have a4:Hid (Z2.ownsMap Tryz.prog 9 (Go.plainElem Tryz.prog 3) u.heap.size (j+1) D2):=I (by have h:=k5.o;rw[g6.o] at h;exact h);have e4:=I (c4.o.map b8.o a2.o i4.o e9.o);have l1:=I (i2.o.map b8.o a2.o (Nat.le_refl _));have h7:Hid (u.heap.size < Z2.heap.size):=I (by have h1:=e8.o;have h2:=b8.o.size;have h3:=a2.o.size;omega);have c7:Hid (∀ y,Below Z2.heap.size Z2 y->y.rangeAt q4 0 ([.string x.name,.int .i64 x.label] ++ ct ++ cd)):=I fun y hy=>by
    have h1:=h9.o;have h2:=a2.o.size;have h3:=e8.o;have h4:=k9.o;exact z2C (z2C f1.o (a2.o.block q4 h1 (by intro e;injection e with e;omega))) (hy.block q4 (by omega))
   have i0:Hid (∀ y,Below Z2.heap.size Z2 y->y.rangeAt q4 2 ct):=I fun y hy=>z27 (c7.o y hy) rfl 2 rfl;have l0:Hid (∀ y,Below Z2.heap.size Z2 y->y.rangeAt q4 5 cd):=I fun y hy=>z27 (r:=[]) (c7.o y hy) (List.append_nil _).symm 5 (by simp[e7.o]);have a1:Hid (∀ y,Below Z2.heap.size Z2 y->CkD mb lb w0 cb y):=I fun y hy=>CkD.of (e4.o.on hy) f2.o e5.o;have g8:=I (fun y (hy:Below Z2.heap.size Z2 y)=>z0Z x.key ct y ((l3.o.under (a1.o y hy).bel).more (a1.o y hy).bel.size));have g7:=I (fun y (hy:Below Z2.heap.size Z2 y)=>z0Z x.body cd y ((l2.o.under (a1.o y hy).bel).more (a1.o y hy).bel.size));have h8:=I (z6I x.name Z2);have h0:=I (fun y (hy:Below Z2.heap.size Z2 y)=>z1a HS.o (a1.o y hy) x.label);obtain⟨B,hB⟩:∃ B,msgB n R m j x= B:=⟨_,rfl⟩;have k1:Hid ((L ++ upto (msgF n R m) j).length<=1000):=I (by
    have h1:=z1j (z7w n R m) j;have h2:=k3.o;rw[List.length_append];omega)
   have j6:Hid (L ++ upto (msgF n R m) j ++ putF B 3 j= L ++ upto (msgF n R m) (j+1)):=I (by
    have:msgF n R m j= putF B 3 j:=by
     show(match m.msgs[j]? with|none=>[]|some v=>putF (msgB n R m j v) 3 j)= _;rw[HX.o,← hB]
    rw[z21,List.append_assoc,this])
   have c6:Hid (∀ y,Below Z2.heap.size Z2 y->Calls Tryz.prog 21 #[.pointer (some ⟨cb,0,none⟩),.bool B,.int .i64 3,.int .i64 j] y fun e u'=>e= .returned (.tuple #[])/\∃ lv',Ck 71 37 W u' cb (.pointer (some ⟨mb,0,none⟩)) (.pointer (some ⟨lb,0,none⟩)) lv' (L ++ upto (msgF n R m) (j+1))/\CkStep cb y u' lv1 lv'):=I fun y hy=>by
    rw[← j6.o];cases B with
    |false=>exact z3L (e4.o.on hy) k1.o 3 j
    |true=>
     refine(z5T cb 3 j y).mono ?_;rintro e u' ⟨rfl,rfl⟩;exact⟨rfl,lv1,by show Ck _ _ _ _ _ _ _ _ (L ++ upto (msgF n R m) j ++ []);rw[List.append_nil];exact e4.o.on hy,CkStep.refl _ _ _⟩
   have O:Hid (∀ y u' lv',Below Z2.heap.size Z2 y->Ck 71 37 W u' cb (.pointer (some ⟨mb,0,none⟩)) (.pointer (some ⟨lb,0,none⟩)) lv' (L ++ upto (msgF n R m) (j+1))->CkStep cb y u' lv1 lv'->CkStep cb u u' lv lv'/\u'.ownsMap Tryz.prog 9 (Go.plainElem Tryz.prog 3) u.heap.size (j+1) D2/\CntMap D2 ((m.msgs.take (j+1)).map (·.name.data.toList))/\lv'.ownBlock≠some u.heap.size/\u.heap.size < u'.heap.size):=I fun y u' lv' hy hck N=>by
    have h1:=h7.o;have h2:=hy.size;have h3:=N.size;have h4:=c4.o.lt;have h5:=i4.o;exact⟨(l1.o.trans (CkStep.of hy cb lv1)).trans N,z2K (z2K a4.o (hy.block _ h1)) (N.block _ (by omega) (by omega) (fun e=>e9.o e.symm)),d4.o,N.fresh (by omega) e9.o,by omega⟩
   have b9:Hid (B=(decide (C= 1) && (nameW x.name && (lqI n R x.label x.label && (z08 x.key && z08 x.body))))):=I (by rw[← hB,a6]);clear hB a6 hC;obtain⟨b0,a7⟩:∃ b,decide (C= 1)= b:=⟨_,rfl⟩;obtain⟨b1,f5⟩:∃ b,nameW x.name= b:=⟨_,rfl⟩;obtain⟨b2,f6⟩:∃ b,lqI n R x.label x.label= b:=⟨_,rfl⟩;obtain⟨b3,f7⟩:∃ b,z08 x.key= b:=⟨_,rfl⟩;obtain⟨b4,f8⟩:∃ b,z08 x.body= b:=⟨_,rfl⟩;rw[a7,f5,f6,f7,f8] at b9;rw[f5] at h8;rw[f6] at h0;rw[f7] at g8;rw[f8] at g7;clear f5 f6 f7 f8;have s0:Z2.cell? ⟨q4,0,none⟩= some (.string x.name):=c7.o Z2 (Below.refl _ _) 0 _ rfl;cases b0 with
   |false=>
    have q1:(C ==1)= false:=by rw[beq_eq_false_iff_ne];exact of_decide_eq_false a7
    obtain rfl:B= false:=b9.o;clear a7;go_wp2_with (first|((with_reducible refine z19 _ _ 97 rfl ?_ 9 3 lawSt Tryz.underlying97 Tryz.underlying3 (z2Q _) u.heap.size (j+1) D2 rfl a4.o (.string x.name) (.string x.name.data.toList) rfl c5.o _ a0.o ?_);(exact wA rfl))|(go_at_call 21;(with_reducible refine(c6.o _ (Below.refl _ _)).mono ?_);rintro e y9 ⟨rfl,b5,A,F⟩;have a3:=I A;have e6:=I F;have a5:=I (O.o _ _ _ (Below.refl _ _) A F);clear A F));go_roundg g;case measure=>omega
    case rel=>exact⟨j+1,b5,D2,by omega,by go_num,a3.o,a5.o⟩
   |true=>
   obtain rfl:C= 1:=of_decide_eq_true a7;clear a7;rcases sc3 b1 b2 b3 with rfl|⟨rfl,rfl⟩|⟨rfl,rfl,rfl⟩|⟨rfl,rfl,rfl⟩;all_goals
    first|obtain rfl:B= false:=b9.o|obtain rfl:B= b4:=b9.o
    go_wp2_with (first|((with_reducible refine z19 _ _ 97 rfl ?_ 9 3 lawSt Tryz.underlying97 Tryz.underlying3 (z2Q _) u.heap.size (j+1) D2 rfl a4.o (.string x.name) (.string x.name.data.toList) rfl c5.o _ a0.o ?_);(exact wA rfl))|(go_at_call 42;refine(h8.o).mono ?_;rintro e y1 ⟨rfl,hb⟩;have K:=I hb;have d1:=c7.o _ K.o 1 _ rfl;clear hb)|(go_at_call 24;refine(h0.o _ K.o).e45 ?_)|((with_reducible refine za tyK41 _ rfl ?_ (i0.o _ K.o) rfl e7.o ?_);exact wA rfl)|((with_reducible refine za tyK41 _ rfl ?_ (i0.o _ Y.o) rfl e7.o ?_);exact wA rfl)|((with_reducible refine za tyK41 _ rfl ?_ (l0.o _ Y.o) rfl k2.o ?_);exact wA rfl)|(go_at_call 11;with_reducible refine(g8.o _ K.o).mono ?_;rintro e y2 ⟨rfl,hb⟩;have Y:=I (beT K.o hb);clear hb)|(go_at_call 11;with_reducible refine(g7.o _ Y.o).mono ?_;rintro e y3 ⟨rfl,hb⟩;have i5:=I (beT Y.o hb);clear hb)|(go_at_call 21;(with_reducible refine(c6.o _ i5.o).mono ?_);rintro e y9 ⟨rfl,b5,A,F⟩;have a3:=I A;have e6:=I F;have a5:=I (O.o _ _ _ i5.o A F);clear A F)|(go_at_call 21;(with_reducible refine(c6.o _ Y.o).mono ?_);rintro e y9 ⟨rfl,b5,A,F⟩;have a3:=I A;have e6:=I F;have a5:=I (O.o _ _ _ Y.o A F);clear A F)|(go_at_call 21;(with_reducible refine(c6.o _ K.o).mono ?_);rintro e y9 ⟨rfl,b5,A,F⟩;have a3:=I A;have e6:=I F;have a5:=I (O.o _ _ _ K.o A F);clear A F));go_roundg g;case measure=>omega
    case rel=>exact⟨j+1,b5,D2,by omega,by go_num,a3.o,a5.o⟩
end
section
open Go Go.RowKit P
theorem zck (m:ModelT) (mcs:List Value) (w:World) (hm:ModelAt w w.heap.size mcs m) (htab:TabP w) (h:makeE m.labels m.order≠0):
  Calls Tryz.prog 8 #[.agg ⟨mcs⟩] w fun e w'=>∃ lv,e= .returned lv/\OwnSl 37 2 encF w' w.heap.size lv [(1, -1)]/\Below w.heap.size w w':=by
 obtain⟨OA,GA,VA,MA,NA,oc,gc,vc,mc,nc,rfl,ho,hg,hv,a3,hn⟩:=z1N hm;have HM:=I hm;have b1:=I (And.intro hg (And.intro hv (And.intro a3 hn)));have HB:=I (zc w (.cells ⟨z03 m OA GA VA MA NA oc gc vc mc nc⟩ 27));have HW:=I (Whole.new w (z03 m OA GA VA MA NA oc gc vc mc nc) 27);have HZ:Hid ((w.alloc (.cells ⟨z03 m OA GA VA MA NA oc gc vc mc nc⟩ 27)).heap.size= w.heap.size+1):=I (by simp);have H:=I h;have c6:=I htab;clear hm ho hg hv a3 hn h htab;go_enter Tryz.func8,Tryz.ntmps8;go_upto_region 1 with (fail);generalize w.alloc (.cells ⟨z03 m OA GA VA MA NA oc gc vc mc nc⟩ 27)= W at*;have a7:=I (zeB m (z03 m OA GA VA MA NA oc gc vc mc nc) W ((HM.o.under HB.o).more HB.o.size) H.o);have a8:Hid ((z03 m OA GA VA MA NA oc gc vc mc nc).length= 6):=I rfl;have c4:=I (z5c m OA GA VA MA NA oc gc vc mc nc);obtain⟨mb,A⟩:∃ q,w.heap.size= q:=⟨_,rfl⟩;have HQ:=I A;rw[A] at HW HZ;rw[A];clear A;have a9:=I HW.o.range;go_upto_region 2 with (first|((with_reducible refine za tyK27 _ rfl ?_ a9.o rfl a8.o ?_);exact wA rfl)|(go_at_call 20;refine(a7.o).k45 ?_;intro y HY));have a0:=I (zc y (.cells #[.pointer (some ⟨mb,0,none⟩),.pointer none,.slice none 0 0] 71));have F:Hid (Whole 71 (y.alloc (.cells #[.pointer (some ⟨mb,0,none⟩),.pointer none,.slice none 0 0] 71)) y.heap.size [.pointer (some ⟨mb,0,none⟩),.pointer none,.slice none 0 0]):=I (Whole.new y [.pointer (some ⟨mb,0,none⟩),.pointer none,.slice none 0 0] 71);go_upto_region 3 with (fail);generalize y.alloc (.cells #[.pointer (some ⟨mb,0,none⟩),.pointer none,.slice none 0 0] 71)= X at*;obtain⟨cb,g⟩:∃ q,y.heap.size= q:=⟨_,rfl⟩;have K:=F;have a5:=I g;rw[g] at K;rw[g];clear g F;have b7:=I (a0.o);have Y:Hid (Below w.heap.size w y):=I (beT HB.o HY.o);have O:Hid (Below w.heap.size w X):=I (beT Y.o a0.o);have N:Hid (w.heap.size<=cb):=I (a5.o▸Y.o.size);have a6:Hid (Ck 71 37 X X cb (.pointer (some ⟨mb,0,none⟩)) (.pointer none) (.slice none 0 0) []):=I ⟨K.o,OwnSl.nil _ _,CkStep.refl _ _ _,K.o.lt⟩;have C:Hid (∀ u' lv' L,Ck 71 37 X u' cb (.pointer (some ⟨mb,0,none⟩)) (.pointer none) lv' L->OwnSl 37 2 encF u' w.heap.size lv' L/\Below w.heap.size w u'):=I fun u' lv' L h=>⟨h.own.mono O.o.size,O.o.trans (h.below N.o)⟩;have HP:=I (z3L a6.o (by simp) 1 (-1));obtain⟨V,hV⟩:∃ V,makeE m.labels m.order= V:=⟨_,rfl⟩;rw[hV] at H
 (try rw[hV])
 have q0:(V ==0)= false:=by rw[beq_eq_false_iff_ne];exact H.o
 go_wp2_with (go_at_call 21;(with_reducible refine(HP.o).mono ?_);rintro e y9 ⟨rfl,b0,a1,a2⟩;have G:=I a1;have b8:=I a2;have dk:=G.o.cells.1 2 _ rfl;clear a1 a2);go_ret;exact⟨b0,rfl,(C.o _ _ _ G.o).1,(C.o _ _ _ G.o).2⟩
theorem zcl (m:ModelT) (mcs:List Value) (w:World) (hm:ModelAt w w.heap.size mcs m) (htab:TabP w) (h:makeE m.labels m.order= 0):
  Calls Tryz.prog 8 #[.agg ⟨mcs⟩] w fun e w'=>∃ lv,e= .returned lv/\OwnSl 37 2 encF w' w.heap.size lv (z0w m.labels.toNat (ordOf m.labels.toNat m.order) m (zQ m))/\Below w.heap.size w w':=by
 obtain⟨OA,GA,VA,MA,NA,oc,gc,vc,mc,nc,rfl,ho,hg,hv,a9,hn⟩:=z1N hm;have HM:=I hm;have d7:=I (And.intro hg (And.intro hv (And.intro a9 hn)));have HB:=I (zc w (.cells ⟨z03 m OA GA VA MA NA oc gc vc mc nc⟩ 27));have HW:=I (Whole.new w (z03 m OA GA VA MA NA oc gc vc mc nc) 27);have HZ:Hid ((w.alloc (.cells ⟨z03 m OA GA VA MA NA oc gc vc mc nc⟩ 27)).heap.size= w.heap.size+1):=I (by simp);have H:=I h;have i1:=I htab;clear hm ho hg hv a9 hn h htab;go_enter Tryz.func8,Tryz.ntmps8;go_upto_region 1 with (fail);generalize w.alloc (.cells ⟨z03 m OA GA VA MA NA oc gc vc mc nc⟩ 27)= W at*;have h7:=I (zeC m (z03 m OA GA VA MA NA oc gc vc mc nc) W ((HM.o.under HB.o).more HB.o.size) H.o);have h8:Hid ((z03 m OA GA VA MA NA oc gc vc mc nc).length= 6):=I rfl;have j9:=I (z5c m OA GA VA MA NA oc gc vc mc nc);obtain⟨mb,a8⟩:∃ q,w.heap.size= q:=⟨_,rfl⟩;have HQ:=I a8;rw[a8] at HW HZ;rw[a8];clear a8;have i2:=I HW.o.range;go_upto_region 2 with (first|((with_reducible refine za tyK27 _ rfl ?_ i2.o rfl h8.o ?_);exact wA rfl)|(go_at_call 20;refine h7.o.mono ?_;rintro e y ⟨rfl,hl,hb⟩;have HY:=I hb;have HL:=I hl;clear hl;clear hb));obtain⟨lb,c6⟩:∃ q,W.heap.size+1= q:=⟨_,rfl⟩;rw[c6] at HL;rw[c6];clear c6;have N:=I (zc y (.cells #[.pointer (some ⟨mb,0,none⟩),.pointer (some ⟨lb,0,none⟩),.slice none 0 0] 71));have b0:Hid (Whole 71 (y.alloc (.cells #[.pointer (some ⟨mb,0,none⟩),.pointer (some ⟨lb,0,none⟩),.slice none 0 0] 71)) y.heap.size [.pointer (some ⟨mb,0,none⟩),.pointer (some ⟨lb,0,none⟩),.slice none 0 0]):=I (Whole.new y [.pointer (some ⟨mb,0,none⟩),.pointer (some ⟨lb,0,none⟩),.slice none 0 0] 71);go_upto_region 3 with (fail);generalize y.alloc (.cells #[.pointer (some ⟨mb,0,none⟩),.pointer (some ⟨lb,0,none⟩),.slice none 0 0] 71)= X at*;obtain⟨cb,a7⟩:∃ q,y.heap.size= q:=⟨_,rfl⟩;have b8:=b0;have d9:=I a7;rw[a7] at b8;rw[a7];clear a7 b0;have j7:=I (N.o);have b7:Hid (Below w.heap.size w y):=I (beT HB.o HY.o);have f5:Hid (Below w.heap.size w X):=I (beT b7.o N.o);have d8:Hid (w.heap.size<=cb):=I (d9.o▸b7.o.size);have e0:Hid (Ck 71 37 X X cb (.pointer (some ⟨mb,0,none⟩)) (.pointer (some ⟨lb,0,none⟩)) (.slice none 0 0) []):=I ⟨b8.o,OwnSl.nil _ _,CkStep.refl _ _ _,b8.o.lt⟩;have G:Hid (∀ u' lv' L,Ck 71 37 X u' cb (.pointer (some ⟨mb,0,none⟩)) (.pointer (some ⟨lb,0,none⟩)) lv' L->OwnSl 37 2 encF u' w.heap.size lv' L/\Below w.heap.size w u'):=I fun u' lv' L h=>⟨h.own.mono f5.o.size,f5.o.trans (h.below d8.o)⟩;have a1:=I (z3L e0.o (by simp) 7 (-1));have a2:Hid (∀ z,Below y.heap.size y z->z.rangeAt mb 0 (z03 m OA GA VA MA NA oc gc vc mc nc)):=I fun z hz=>zb (zb HW.o.range HY.o HW.o.lt) hz (Nat.lt_of_lt_of_le HW.o.lt HY.o.size);have d2:X.cell? ⟨mb,2,none⟩= some (.slice GA m.grants.length gc):=a2.o X N.o 2 _ rfl;have d3:X.cell? ⟨mb,3,none⟩= some (.slice VA m.vars.length vc):=a2.o X N.o 3 _ rfl;have d4:X.cell? ⟨mb,4,none⟩= some (.slice MA m.msgs.length mc):=a2.o X N.o 4 _ rfl;have d5:X.cell? ⟨mb,5,none⟩= some (.slice NA m.nodes.length nc):=a2.o X N.o 5 _ rfl;have a3:Hid True:=I trivial
 (try rw[H.o])
 by_cases g1:16 < m.vars.length
 ·have t1:decide ((16:Int) <(m.vars.length:Int))= true:=decide_eq_true (by omega)
  have Y:Hid (z0w m.labels.toNat (ordOf m.labels.toNat m.order) m (zQ m)=[(7, -1)]):=I (by unfold z0w;rw[if_neg];unfold sizeB;simp;omega);clear a3;go_wp2_with (go_at_call 21;(with_reducible refine(a1.o).mono ?_);rintro e y9 ⟨rfl,K,A,F⟩;have C:=I A;have O:=I F;have dk:=C.o.cells.1 2 _ rfl;clear A F);go_ret;exact⟨K,rfl,by rw[Y.o];exact(G.o _ _ _ C.o).1,(G.o _ _ _ C.o).2⟩
 have t1:decide ((16:Int) <(m.vars.length:Int))= false:=decide_eq_false (by omega);by_cases g2:8 < m.msgs.length
 ·have t2:decide ((8:Int) <(m.msgs.length:Int))= true:=decide_eq_true (by omega)
  have Y:Hid (z0w m.labels.toNat (ordOf m.labels.toNat m.order) m (zQ m)=[(7, -1)]):=I (by unfold z0w;rw[if_neg];unfold sizeB;simp;omega);clear a3;go_wp2_with (go_at_call 21;(with_reducible refine(a1.o).mono ?_);rintro e y9 ⟨rfl,K,A,F⟩;have C:=I A;have O:=I F;have dk:=C.o.cells.1 2 _ rfl;clear A F);go_ret;exact⟨K,rfl,by rw[Y.o];exact(G.o _ _ _ C.o).1,(G.o _ _ _ C.o).2⟩
 have t2:decide ((8:Int) <(m.msgs.length:Int))= false:=decide_eq_false (by omega);by_cases g3:64 < m.grants.length
 ·have t3:decide ((64:Int) <(m.grants.length:Int))= true:=decide_eq_true (by omega)
  have Y:Hid (z0w m.labels.toNat (ordOf m.labels.toNat m.order) m (zQ m)=[(7, -1)]):=I (by unfold z0w;rw[if_neg];unfold sizeB;simp;omega);clear a3;go_wp2_with (go_at_call 21;(with_reducible refine(a1.o).mono ?_);rintro e y9 ⟨rfl,K,A,F⟩;have C:=I A;have O:=I F;have dk:=C.o.cells.1 2 _ rfl;clear A F);go_ret;exact⟨K,rfl,by rw[Y.o];exact(G.o _ _ _ C.o).1,(G.o _ _ _ C.o).2⟩
 have t3:decide ((64:Int) <(m.grants.length:Int))= false:=decide_eq_false (by omega);by_cases g4:m.nodes.length < 1
 ·have t4:decide ((m.nodes.length:Int) <(1:Int))= true:=decide_eq_true (by omega)
  have Y:Hid (z0w m.labels.toNat (ordOf m.labels.toNat m.order) m (zQ m)=[(7, -1)]):=I (by unfold z0w;rw[if_neg];unfold sizeB;simp;omega);clear a3;go_wp2_with (go_at_call 21;(with_reducible refine(a1.o).mono ?_);rintro e y9 ⟨rfl,K,A,F⟩;have C:=I A;have O:=I F;have dk:=C.o.cells.1 2 _ rfl;clear A F);go_ret;exact⟨K,rfl,by rw[Y.o];exact(G.o _ _ _ C.o).1,(G.o _ _ _ C.o).2⟩
 have t4:decide ((m.nodes.length:Int) <(1:Int))= false:=decide_eq_false (by omega);by_cases g5:40 < m.nodes.length
 ·have t5:decide ((40:Int) <(m.nodes.length:Int))= true:=decide_eq_true (by omega)
  have Y:Hid (z0w m.labels.toNat (ordOf m.labels.toNat m.order) m (zQ m)=[(7, -1)]):=I (by unfold z0w;rw[if_neg];unfold sizeB;simp;omega);clear a3;go_wp2_with (go_at_call 21;(with_reducible refine(a1.o).mono ?_);rintro e y9 ⟨rfl,K,A,F⟩;have C:=I A;have O:=I F;have dk:=C.o.cells.1 2 _ rfl;clear A F);go_ret;exact⟨K,rfl,by rw[Y.o];exact(G.o _ _ _ C.o).1,(G.o _ _ _ C.o).2⟩
 have t5:decide ((40:Int) <(m.nodes.length:Int))= false:=decide_eq_false (by omega);have i0:Hid (sizeB m= true):=I (by unfold sizeB;simp;omega);have HS:Hid (CkS m mb lb m.labels.toNat (ordOf m.labels.toNat m.order) y OA GA VA MA NA oc gc vc mc nc):=I (by
  have hb:=b7.o;have hs:=hb.size;obtain⟨hg,hv,a9,hn⟩:=d7.o;exact⟨a2.o y (Below.refl _ _),Nat.lt_of_lt_of_le HW.o.lt HY.o.size,(hg.below hb (fun _ _ _ h=>h)).more hs,((hv.below hb (fun _ _ _ h=>h.under hb)).weak fun _ _ h=>h.more hs).more hs,((a9.below hb (fun _ _ _ h=>h.under hb)).weak fun _ _ h=>h.more hs).more hs,((hn.below hb (fun _ _ _ h=>h.under hb)).weak fun _ _ h=>h.more hs).more hs,HL.o,i1.o.next hb,by omega,by omega,by omega,by omega⟩)
 have a0:Hid (y.heap.size<=cb):=I (Nat.le_of_eq d9.o);have f4:=I (zcb HS.o e0.o N.o a0.o (by simp) (by omega));have f0:Hid ((upto (varF m.labels.toNat (ordOf m.labels.toNat m.order) m) m.vars.length).length<=16):=I (Nat.le_trans (z1j (z7Y _ _ _) _) (by omega));have h6:Hid ((upto (msgF m.labels.toNat (ordOf m.labels.toNat m.order) m) m.msgs.length).length<=8):=I (Nat.le_trans (z1j (z7w _ _ _) _) (by omega));have e9:Hid (∀ j,j<=m.grants.length->(upto (z1R m.labels.toNat (ordOf m.labels.toNat m.order) m) j).length<=64):=I fun j hj=>Nat.le_trans (z1j (z9m _ _ _) _) (by omega);have f2:Hid (m.msgs.length<=100/\m.nodes.length<=100):=I (by omega);clear a3 a1;go_upto_region 11 with (first|(go_at_call 22;refine f4.o.mono ?_;rintro e u1 ⟨rfl,lv1,A,F⟩;have C:=I A;have f1:=I (zca HS.o C.o N.o a0.o (by have:=f0.o;simp only[List.nil_append];omega) f2.o.1);clear A F)|(go_at_call 23;refine f1.o.mono ?_;rintro e u2 ⟨rfl,i8,A,F⟩;have O:=I A;clear A F));obtain⟨L2,a6⟩:∃ L2,[] ++ upto (varF m.labels.toNat (ordOf m.labels.toNat m.order) m) m.vars.length ++ upto (msgF m.labels.toNat (ordOf m.labels.toNat m.order) m) m.msgs.length= L2:=⟨_,rfl⟩;have e8:=I a6;have e7:Hid (L2.length<=24):=I (by
  have h1:=f0.o;have h2:=h6.o;rw[← a6,List.nil_append,List.length_append];omega)
 rw[a6] at O;clear a6 f1 C f4;have h4:=I (CkD.of O.o N.o a0.o);have d2:u2.cell? ⟨mb,2,none⟩= some (.slice GA m.grants.length gc):=a2.o u2 h4.o.bel 2 _ rfl;go_wp2;clear d2;have j4:(m.grants.length:Int)<=64:=by omega
 obtain⟨-,j6,k2,e1,b3⟩:=id HS.o.grants;injection e1 with e1 e2 e3;subst e1 e3;have f3:=I b3;clear e2 b3;go_loopg [65] m.grants.length (fun q yv z=>∃ (j:Nat) (lv1:Value),j+q= m.grants.length/\yv= .int .i64 j/\Ck 71 37 X z cb (.pointer (some ⟨mb,0,none⟩)) (.pointer (some ⟨lb,0,none⟩)) lv1 (L2 ++ upto (z1R m.labels.toNat (ordOf m.labels.toNat m.order) m) j));case atStart=>exact⟨0,i8,by omega,rfl,by rw[z2F,List.append_nil];exact O.o⟩
 case round=>
  obtain⟨j,lv1,hj,rfl,f9⟩:=hrel;have b5:=I f9;clear f9;obtain⟨z,hz⟩:∃ z,z= wr:=⟨_,rfl⟩;subst hz;cases gk with
  |zero=>
   obtain rfl:j= m.grants.length:=by omega
   have k3: ¬ ((m.grants.length:Int) <(m.grants.length:Int)):=by omega
   have h9:=I (za5 HS.o b5.o N.o a0.o (by have h1:=e7.o;have h2:=e9.o m.grants.length (Nat.le_refl _);rw[List.length_append];omega) f2.o.2);have h5:Hid (L2 ++ upto (z1R m.labels.toNat (ordOf m.labels.toNat m.order) m) m.grants.length ++ upto (nodeF m.labels.toNat (ordOf m.labels.toNat m.order) m (zQ m)) m.nodes.length ++ putF (z1X m) 7 (-1)= z0w m.labels.toNat (ordOf m.labels.toNat m.order) m (zQ m)):=I (by
    unfold z0w;rw[if_pos i0.o,← e8.o];simp only[List.nil_append,List.append_assoc])
   go_wp2_with (go_at_call 25;refine h9.o.mono ?_;rintro e y9 ⟨rfl,K,A,F⟩;have e6:=I A;have dk:=e6.o.cells.1 2 _ rfl;clear A F);go_ret;have h:=G.o _ _ _ e6.o;rw[h5.o] at h;exact⟨K,rfl,h.1,h.2⟩
  |succ g=>
   have k6:(j:Int) <(m.grants.length:Int):=by omega
   have k5:(0:Int)<=(j:Int):=by omega
   have i7:j < m.grants.length:=by omega
   obtain⟨x,hx⟩:∃ x,m.grants[j]?= some x:=⟨_,List.getElem?_eq_getElem i7⟩;obtain⟨gb,go,rfl,c4,hc⟩:=f3.o (by omega);obtain⟨ks,_,c5,rfl,i3,i4⟩:=hc j x hx;have HX:=I hx;have HD:=I (CkD.of b5.o N.o a0.o);have g0:z.cell? ⟨gb,go+j*2,none⟩= some (.int .i64 x.1):=zb c5 HD.o.bel c4 0 _ rfl;have f6:z.cell? ⟨gb,go+j*2+1,none⟩= some (.int .i64 x.2):=zb c5 HD.o.bel c4 1 _ rfl;clear hc c5 hx c4;obtain⟨x1,x2⟩:=x;simp only at g0 f6 i3 i4;have h3:=I (zc z (.cells #[.int .i64 x1,.int .i64 x2] 73));have p0:(z.alloc (.cells #[.int .i64 x1,.int .i64 x2] 73)).cell? ⟨z.heap.size,0,none⟩= some (.int .i64 x1):=(Whole.new z [.int .i64 x1,.int .i64 x2] 73).range 0 _ rfl;have p1:(z.alloc (.cells #[.int .i64 x1,.int .i64 x2] 73)).cell? ⟨z.heap.size,1,none⟩= some (.int .i64 x2):=(Whole.new z [.int .i64 x1,.int .i64 x2] 73).range 1 _ rfl;go_upto_region 14 with (fail);generalize z.alloc (.cells #[.int .i64 x1,.int .i64 x2] 73)= Z at*;have e4:=I (b5.o.on h3.o);have e5:=I (CkD.of e4.o N.o a0.o);have b4:=I (z1a HS.o e5.o x1);have d6:=I (z1a HS.o e5.o x2);obtain⟨zq,c8⟩:∃ q,z.heap.size= q:=⟨_,rfl⟩;rw[c8] at p0 p1;rw[c8];clear c8;have b6:Hid ((z1R m.labels.toNat (ordOf m.labels.toNat m.order) m) j= putF (lqI m.labels.toNat (ordOf m.labels.toNat m.order) x1 x1 && lqI m.labels.toNat (ordOf m.labels.toNat m.order) x2 x2) 4 j):=I (by
    show(match m.grants[j]? with|none=>[]|some g=>putF (lqI m.labels.toNat (ordOf m.labels.toNat m.order) g.1 g.1 && lqI m.labels.toNat (ordOf m.labels.toNat m.order) g.2 g.2) 4 j)= _;rw[HX.o])
   obtain⟨b1,f7⟩:∃ b,lqI m.labels.toNat (ordOf m.labels.toNat m.order) x1 x1= b:=⟨_,rfl⟩;obtain⟨b2,f8⟩:∃ b,lqI m.labels.toNat (ordOf m.labels.toNat m.order) x2 x2= b:=⟨_,rfl⟩;rw[f7] at b4 b6;rw[f8] at d6 b6;have a5:Hid (Calls Tryz.prog 21 #[.pointer (some ⟨cb,0,none⟩),.bool (b1 && b2),.int .i64 4,.int .i64 j] Z fun e u'=>e= .returned (.tuple #[])/\∃ lv',Ck 71 37 X u' cb (.pointer (some ⟨mb,0,none⟩)) (.pointer (some ⟨lb,0,none⟩)) lv' (L2 ++ upto (z1R m.labels.toNat (ordOf m.labels.toNat m.order) m) (j+1))/\CkStep cb Z u' lv1 lv'):=I (by
    rw[z21,b6.o,← List.append_assoc];exact z5S e4.o (by have h1:=e7.o;have h2:=e9.o j (by omega);rw[List.length_append];omega) _ 4 j)
   clear f7 f8 g0 f6;cases b1 with
   |false=>
    rw[Bool.false_and] at a5;go_wp2_with (first|(go_at_call 24;(with_reducible refine(b4.o).e45 ?_))|(go_at_call 21;(with_reducible refine(a5.o).mono ?_);rintro e y9 ⟨rfl,K,A,F⟩;have C:=I A;have O:=I F;have dk:=C.o.cells.1 2 _ rfl;clear A F));go_roundg g;case measure=>omega
    case rel=>exact⟨j+1,K,by omega,by go_num,C.o⟩
   |true=>
    rw[Bool.true_and] at a5;go_wp2_with (first|(go_at_call 24;(with_reducible refine(b4.o).e45 ?_))|(go_at_call 24;(with_reducible refine(d6.o).e45 ?_))|(go_at_call 21;(with_reducible refine(a5.o).mono ?_);rintro e y9 ⟨rfl,K,A,F⟩;have C:=I A;have O:=I F;have dk:=C.o.cells.1 2 _ rfl;clear A F));go_roundg g;case measure=>omega
    case rel=>exact⟨j+1,K,by omega,by go_num,C.o⟩
theorem z3w (m:ModelT) (mcs:List Value) (w:World) (hm:ModelAt w w.heap.size mcs m) (htab:TabP w):
  Calls Tryz.prog 8 #[.agg ⟨mcs⟩] w fun e w'=>∃ lv,e= .returned lv/\OwnSl 37 2 encF w' w.heap.size lv (wellM m (zQ m))/\Below w.heap.size w w':=by
 unfold wellM;by_cases h:makeE m.labels m.order= 0
 ·rw[if_pos h];exact zcl m mcs w hm htab h
 ·rw[if_neg h];exact zck m mcs w hm htab h
end
section
open Go Go.RowKit P
def ezC:List Value:=[.int .i64 0,.string ⟨#[]⟩,.int .i64 0,.int .i64 0,.float .f64 0,.string ⟨#[]⟩,.slice none 0 0,.slice none 0 0,.slice none 0 0,.slice none 0 0]
def ndC (k:Int) (s:Value):List Value:=[.int .i64 k,.int .i64 0,s,.slice none 0 0] ++ ezC ++ ezC ++ [.int .i64 (-1),.int .i64 (-1),.int .i64 (-1),.int .i64 0,.int .i64 0]
def plC (v:Value):List Value:=[.int .i64 1,.slice none 0 0,.slice none 0 0,.slice none 0 0,.slice none 0 0,v]
def sl1 (b n:Nat):Value:= .slice (some ⟨b,0,none⟩) n n
def zab (w:World) (e:Ending) (w':World):Prop:=∃ b1 b2,w.heap.size<=b1/\w.heap.size<=b2/\b1≠b2/\e= .returned (.agg ⟨plC (sl1 b2 2)⟩)/\Whole 3 w' b1 [.int .i64 1]/\Whole 56 w' b2 (ndC 1 (sl1 b1 1) ++ ndC 2 (.slice none 0 0))/\Below w.heap.size w w'
def smW (w:World):World:=((w.alloc (.cells ⟨plC (sl1 (w.heap.size+1+1) 2)⟩ 27)).alloc (.cells ⟨[.int .i64 1]⟩ 3)).alloc (.cells ⟨ndC 1 (sl1 (w.heap.size+1) 1) ++ ndC 2 (.slice none 0 0)⟩ 56)
theorem zdl (w:World):(smW w).cell? ⟨w.heap.size,5,none⟩= some (sl1 (w.heap.size+1+1) 2)/\(smW w).rangeAt w.heap.size 0 (plC (sl1 (w.heap.size+1+1) 2)):=by
 have h1:=Whole.new w (plC (sl1 (w.heap.size+1+1) 2)) 27;have g2:=zc (w.alloc (.cells ⟨plC (sl1 (w.heap.size+1+1) 2)⟩ 27)) (.cells ⟨[.int .i64 1]⟩ 3);have g3:=zc ((w.alloc (.cells ⟨plC (sl1 (w.heap.size+1+1) 2)⟩ 27)).alloc (.cells ⟨[.int .i64 1]⟩ 3)) (.cells ⟨ndC 1 (sl1 (w.heap.size+1) 1) ++ ndC 2 (.slice none 0 0)⟩ 56);have h2:=h1.keep (g2.block _ h1.lt);have h3:=(h2.keep (g3.block _ h2.lt)).range;exact⟨h3 5 _ rfl,h3⟩
theorem zdm (w:World):zab w (.returned (.agg ⟨plC (sl1 (w.heap.size+1+1) 2)⟩)) (smW w):=by
 have g1:=zc w (.cells ⟨plC (sl1 (w.heap.size+1+1) 2)⟩ 27);have s1:(w.alloc (.cells ⟨plC (sl1 (w.heap.size+1+1) 2)⟩ 27)).heap.size= w.heap.size+1:=by simp
 unfold smW;generalize w.alloc (.cells ⟨plC (sl1 (w.heap.size+1+1) 2)⟩ 27)= A at*;have g2:=zc A (.cells ⟨[.int .i64 1]⟩ 3);have h2:=Whole.new A [.int .i64 1] 3;have s2:(A.alloc (.cells ⟨[.int .i64 1]⟩ 3)).heap.size= A.heap.size+1:=by simp
 generalize A.alloc (.cells ⟨[.int .i64 1]⟩ 3)= B at*;have g3:=zc B (.cells ⟨ndC 1 (sl1 (w.heap.size+1) 1) ++ ndC 2 (.slice none 0 0)⟩ 56);have h3:=Whole.new B (ndC 1 (sl1 (w.heap.size+1) 1) ++ ndC 2 (.slice none 0 0)) 56;generalize B.alloc (.cells ⟨ndC 1 (sl1 (w.heap.size+1) 1) ++ ndC 2 (.slice none 0 0)⟩ 56)= C at*;rw[s1] at h2;rw[s2,s1] at h3;refine⟨w.heap.size+1,w.heap.size+1+1,by omega,by omega,by omega,rfl,h2.keep (g3.block _ h2.lt),h3,g1.trans ((beT g2 g3).mono g1.size)⟩
theorem z5W (w:World):Calls Tryz.prog 16 #[] w (zab w):=by
 have A:=I (zdm w);have g:=I (zdl w);go_enter Tryz.func16,Tryz.ntmps16;go_upto_region 1 with (fail);go_wp2;show bodyPost _ _ _ _ _ (smW w);generalize smW w= Z at*;refine bodyPost_ret (zk rfl Tryz.underlying27 rfl _ _ w.heap.size (plC (sl1 (w.heap.size+1+1) 2)) (by kernel_rfl) rfl g.o.2) rfl ?_;exact A.o
theorem zeY (l:List z00) (v v':Value) (w:World) (hv:SlAt w w.heap.size 2 (Enc encF) v l) (hv':SlAt w w.heap.size 2 (Enc encF) v' l) (hl:l.length<=1000):
  Calls Tryz.prog 17 #[v,v'] w fun e w'=>e= .returned (.bool true)/\Below w.heap.size w w':=by
 obtain⟨-,A,c,rfl,h1⟩:=hv;obtain⟨-,A',c',rfl,h2⟩:=hv';have H1:=I h1;have H2:=I h2;have K:(l.length:Int)<=1000:=by omega
 clear h1 h2;go_enter Tryz.func17,Tryz.ntmps17;go_wp2;go_loopg [5] l.length (fun g i wr=>∃ k m:Nat,k+g= l.length/\i= .int .i64 k/\wr= w.drewN m);case atStart=>exact⟨0,0,by omega,rfl,rfl⟩
 case round=>
  obtain⟨k,m,hk,rfl,rfl⟩:=hrel;cases gk with
  |zero=>
   have a6: ¬ ((k:Int) <(l.length:Int)):=by omega
   go_wp2;go_ret;exact⟨rfl,zj (Below.refl _ w) m⟩
  |succ g=>
   have a7:(k:Int) <(l.length:Int):=by omega
   have a1:k < l.length:=by omega
   obtain⟨f,hf⟩:∃ f,l[k]?= some f:=⟨_,List.getElem?_eq_getElem a1⟩;obtain⟨b1,o1,rfl,X,c1⟩:=H1.o (by omega);obtain⟨b2,o2,rfl,K,c2⟩:=H2.o (by omega);obtain⟨k1,_,N,rfl⟩:=c1 k f hf;obtain⟨k2,_,O,rfl⟩:=c2 k f hf;obtain⟨f0,f1⟩:=f;obtain⟨G,F⟩:∃ G,w.drewN m= G:=⟨_,rfl⟩;have C:Hid (Below w.heap.size w G):=I (by rw[← F];exact zj (Below.refl _ w) m);have Y:Hid (∀ q,∃ m',G.drewN q= w.drewN m'):=I fun q=>⟨m+q,by rw[← F,World.drewN_drewN]⟩;rw[F];have d1:G.cell? ⟨b1,o1+k*2,none⟩= some (.int .i64 f0):=zb N C.o X 0 _ rfl;have d2:G.cell? ⟨b1,o1+k*2+1,none⟩= some (.int .i64 f1):=zb N C.o X 1 _ rfl;have d3:G.cell? ⟨b2,o2+k*2,none⟩= some (.int .i64 f0):=zb O C.o K 0 _ rfl;have d4:G.cell? ⟨b2,o2+k*2+1,none⟩= some (.int .i64 f1):=zb O C.o K 1 _ rfl;clear c1 c2 F N O hf;go_upto_region 6 with (fail);go_quiet (fail);obtain⟨m',a2⟩:=Y.o nq;rw[a2];go_wp2;go_roundg g;case measure=>omega
   case rel=>exact⟨k+1,_,by omega,by go_num,rfl⟩
end
section
open Go Go.RowKit P
theorem z5P (v:Value) (h:v.oneCell'= true):∀ u∈plC v,u.oneCell'= true:=by
 intro u hu;simp only[plC,List.mem_cons,List.not_mem_nil,or_false] at hu;rcases hu with rfl|rfl|rfl|rfl|rfl|rfl<;>first|rfl|exact h
theorem z2L {u:World} {k:Int} {s:Value} {nx:List Int} (hk:wfI k) (hs:SlAt u u.heap.size 1 IntR s nx):NodeAt u u.heap.size (ndC k s) (nd14 k nx):=
 ⟨⟨s,.slice none 0 0,ezC,ezC,rfl,rfl,rfl,hs,SlAt.nil _ _ _ _,Nat.zero_le _,ez_at _ _,ez_at _ _⟩,hk,zB 0 (by decide +kernel),zB (-1) (by decide +kernel),zB (-1) (by decide +kernel),zB (-1) (by decide +kernel),zB 0 (by decide +kernel),zB 0 (by decide +kernel)⟩
theorem one14 {u:World} {b:Nat} {x:Int} (hx:wfI x) (hr:u.rangeAt b 0 [.int .i64 x]) (hb:b < u.heap.size):SlAt u u.heap.size 1 IntR (sl1 b 1) [x]:=by
 refine⟨by simp,_,_,rfl,fun _=>⟨b,0,rfl,hb,fun i y hy=> ?_⟩⟩;have g:i= 0:=by have:=(List.getElem?_eq_some_iff.1 hy).1;simp at this;exact this
 subst g;injection hy with hy;subst hy;exact⟨[.int .i64 x],rfl,by rw[Nat.zero_mul];exact hr,rfl,hx⟩
theorem z7s {u:World} {l:List NodeT} {v:Value} (h:SlAt u u.heap.size 29 (NodeAt u u.heap.size) v l):ModelAt u u.heap.size (plC v) (m14 l):=
 ⟨⟨.slice none 0 0,.slice none 0 0,.slice none 0 0,.slice none 0 0,v,rfl,SlAt.nil _ _ _ _,SlAt.nil _ _ _ _,SlAt.nil _ _ _ _,SlAt.nil _ _ _ _,h⟩,zB 1 (by decide +kernel)⟩
theorem two14 {u:World} {b:Nat} {x y:NodeT} {cx cy:List Value} (hr:u.rangeAt b 0 (cx ++ cy)) (hb:b < u.heap.size) (h1:cx.length= 29) (h2:cy.length= 29) (hx:NodeAt u u.heap.size cx x) (hy:NodeAt u u.heap.size cy y):SlAt u u.heap.size 29 (NodeAt u u.heap.size) (sl1 b 2) [x,y]:=by
 refine⟨by simp,_,_,rfl,fun _=>⟨b,0,rfl,hb,fun i z hz=> ?_⟩⟩
 match i,hz with
 |0,hz=>
  injection hz with hz;subst hz;exact⟨cx,h1,fun j v hv=>by
   have:=hr j v (by rw[List.getElem?_append_left (List.getElem?_eq_some_iff.1 hv).1];exact hv);rwa [Nat.zero_mul,Nat.add_zero],hx⟩
 |1,hz=>
  injection hz with hz;subst hz;exact⟨cy,h2,fun j v hv=>by
   have:=hr (29+j) v (by rw[List.getElem?_append_right (by omega),h1,show 29+j - 29= j by omega];exact hv);rwa [show 0+ (29+j)= 0+1*29+j by omega] at this,hy⟩
 |i+2,hz=>simp at hz
theorem zeZ {u:World} {b:Nat} {y:NodeT} {cx cy:List Value} (hr:u.rangeAt b 0 (cx ++ cy)) (hb:b < u.heap.size) (h1:cx.length= 29) (h2:cy.length= 29) (hy:NodeAt u u.heap.size cy y):SlAt u u.heap.size 29 (NodeAt u u.heap.size) (.slice (some ⟨b,29,none⟩) 1 1) [y]:=by
 refine⟨by simp,_,_,rfl,fun _=>⟨b,29,rfl,hb,fun i z hz=> ?_⟩⟩;have g:i= 0:=by have:=(List.getElem?_eq_some_iff.1 hz).1;simp at this;exact this
 subst g;injection hz with hz;subst hz;exact⟨cy,h2,fun j v hv=>by
  have:=hr (29+j) v (by rw[List.getElem?_append_right (by omega),h1,show 29+j - 29= j by omega];exact hv);rwa [show 0+ (29+j)= 29+0*29+j by omega] at this,hy⟩
theorem Whole.put14 {T:TypeId} {w:World} {b:Nat} {cs:List Value} (h:Whole T w b cs) (i:Nat) (v:Value):Whole T (w.setCell ⟨b,i,none⟩ v) b (cs.set i v):=by
 unfold Whole at h ⊢;simp[World.setCell,Array.getElem?_modify,h]
theorem z8Z {y:World} {base:Nat} {lv:Value} {f0 f1:Int} (h:OwnSl 37 2 encF y base lv [(f0,f1)]):
  Calls Tryz.prog 17 #[lv,.slice (some ⟨y.heap.size,0,none⟩) 1 1] (y.alloc (.cells #[.int .i64 f0,.int .i64 f1] 37)) fun e w'=>e= .returned (.bool true)/\Below y.heap.size y w':=by
 have g:=zc y (.cells #[.int .i64 f0,.int .i64 f1] 37);have A:Whole 37 (y.alloc (.cells #[.int .i64 f0,.int .i64 f1] 37)) y.heap.size [.int .i64 f0,.int .i64 f1]:=Whole.new y [.int .i64 f0,.int .i64 f1] 37;refine(zeY [(f0,f1)] lv _ _ ((h.below g).at z78 (by simp)) ⟨by simp,_,_,rfl,fun _=>⟨_,0,rfl,A.lt,fun i x hx=> ?_⟩⟩ (by simp)).mono fun e w' h=>⟨h.1,g.trans (h.2.mono g.size)⟩;have C:i= 0:=by have:=(List.getElem?_eq_some_iff.1 hx).1;simp at this;exact this
 subst C;injection hx with hx;subst hx;exact⟨[.int .i64 f0,.int .i64 f1],rfl,by rw[Nat.zero_mul];exact A.range,rfl⟩
theorem zdI (w:World) (htab:TabP w):Calls Tryz.prog 6 #[] w fun e w'=>e= .returned (.bool true)/\Below w.heap.size w w':=by
 have j1:=I htab;clear htab;go_enter Tryz.func6,Tryz.ntmps6;go_upto_region 2 with (first|(go_at_call 16;refine(z5W w).mono ?_;rintro e W1 ⟨a1,b1,h1,h2,h3,rfl,h4,h5,h6⟩;have h8:=I (And.intro h1 (And.intro h2 h3));have c5:=I h4;have c6:=I h5;have f8:=I h6;clear h1 h2 h3 h4 h5 h6)|((with_reducible refine z1v 27 _ _ rfl ?hwx5 W1 ?zz5 ((plC (sl1 b1 2))) ?hwld5 ?hz5 ?hx5 ?hy5 ?hi5 ?h15 ?_);(case hwld5=>rfl);(case hx5=>rfl);(case hy5=>rfl);(case hwx5=>(exact wA rfl));(case hz5=>rfl);(case hi5=>kernel_rfl);(case h15=>exact(z5P _ rfl));intro K hZ;have c8:=I hZ;clear hZ));go_upto_region 3 with (first|(go_at_call 16;refine(z5W K).mono ?_;rintro e W2 ⟨a2,b2,h1,h2,h3,rfl,h4,h5,h6⟩;have f7:=I (And.intro h1 (And.intro h2 h3));have g6:=I h4;have c7:=I h5;have e6:=I h6;clear h1 h2 h3 h4 h5 h6)|((with_reducible refine z1v 27 _ _ rfl ?hwx6 W2 ?zz6 ((plC (sl1 b2 2))) ?hwld6 ?hz6 ?hx6 ?hy6 ?hi6 ?h16 ?_);(case hwld6=>rfl);(case hx6=>rfl);(case hy6=>rfl);(case hwx6=>(exact wA rfl));(case hz6=>rfl);(case hi6=>kernel_rfl);(case h16=>exact(z5P _ rfl));intro N hZ;have c9:=I hZ;clear hZ));obtain⟨mb,d2⟩:∃ q,W1.heap.size= q:=⟨_,rfl⟩;have e3:Hid (mb < K.heap.size):=I (d2▸c8.o.size);have e4:Hid (K.rangeAt mb 0 (plC (sl1 b1 2))):=I (d2▸c8.o.range);have C:=I c8.o.below;obtain⟨nb,a3⟩:∃ q,W2.heap.size= q:=⟨_,rfl⟩;have Y:Hid (nb < N.heap.size):=I (a3▸c9.o.size);have b7:Hid (N.rangeAt nb 0 (plC (sl1 b2 2))):=I (a3▸c9.o.range);have b6:=I c9.o.below;have j9:Hid (K.heap.size<=nb):=I (a3▸e6.o.size);have a5:Hid (b2 < nb/\a2 < nb):=I (a3▸ ⟨c7.o.lt,g6.o.lt⟩);rw[d2,a3];clear d2 a3 c8 c9;have i3:Hid (a1 < K.heap.size/\b1 < K.heap.size):=I ⟨Nat.lt_of_lt_of_le c5.o.lt C.o.size,Nat.lt_of_lt_of_le c6.o.lt C.o.size⟩;have a8:=I (c5.o.keep (C.o.block _ c5.o.lt));have b0:=I (c6.o.keep (C.o.block _ c6.o.lt));have b3:=I (c7.o.keep (b6.o.block _ c7.o.lt));have g1:Hid (Below w.heap.size w K):=I (beT f8.o C.o);have a7:Hid (Below K.heap.size K N):=I (beT e6.o b6.o);have g0:=zc N (.cells #[.int .i64 0] 3);have h0:Whole 3 (N.alloc (.cells #[.int .i64 0] 3)) N.heap.size [.int .i64 0]:=Whole.new N [.int .i64 0] 3;have d3:=b3.o.keep (g0.block _ b3.o.lt);have d5:N.cell? ⟨nb,5,none⟩= some (.slice (some ⟨b2,0,none⟩) 2 2):=b7.o 5 _ rfl;have c2:(N.alloc (.cells #[.int .i64 0] 3)).cell? ⟨b2,2,none⟩= some (.slice (some ⟨a2,0,none⟩) 1 1):=d3.range 2 _ rfl;have f2:(N.alloc (.cells #[.int .i64 0] 3)).frozen? ⟨b2,2,none⟩= false:=d3.frozV (j:=2) (by simp[ndC,ezC]);have e7:=I g0;have e8:=I h0;have g5:=I d3;clear g0 h0 d3;go_upto_region 4 with (fail);clear d5 c2 f2;have f9:Hid (Below K.heap.size K (N.alloc (.cells #[.int .i64 0] 3))):=I (beT a7.o e7.o);have a9:Hid ((N.alloc (.cells #[.int .i64 0] 3)).heap.size= N.heap.size+1):=I (by simp);have g7:Hid ((N.alloc (.cells #[.int .i64 0] 3)).rangeAt nb 0 (plC (sl1 b2 2))):=I (zb b7.o e7.o Y.o);generalize N.alloc (.cells #[.int .i64 0] 3)= N0 at*;obtain⟨nn,d4⟩:∃ q,N.heap.size= q:=⟨_,rfl⟩;rw[d4] at e8 a9 Y;rw[d4];have i4:Hid (K.heap.size<=nn):=I (d4▸a7.o.size);clear d4 e7;have f0:Hid (Whole 56 (N0.setCell ⟨b2,2,none⟩ (.slice (some ⟨nn,0,none⟩) 1 1)) b2 (ndC 1 (sl1 nn 1) ++ ndC 2 (.slice none 0 0))):=I (Whole.put14 g5.o 2 (sl1 nn 1));have e9:Hid (Whole 3 (N0.setCell ⟨b2,2,none⟩ (.slice (some ⟨nn,0,none⟩) 1 1)) nn [.int .i64 0]):=I (e8.o.keep (Below.heap_setCell _ _ _ _ (show nn≠b2 from by have h1:=a5.o;have h2:=Y.o;omega)));have g8:Hid ((N0.setCell ⟨b2,2,none⟩ (.slice (some ⟨nn,0,none⟩) 1 1)).rangeAt nb 0 (plC (sl1 b2 2))):=I (fun i v hv=>(World.cell?_of_block (a:=⟨nb,0+i,none⟩) (Below.heap_setCell _ _ _ _ (show nb≠b2 from by have h1:=a5.o;omega))).trans (g7.o i v hv));have d8:Hid (Below K.heap.size K (N0.setCell ⟨b2,2,none⟩ (.slice (some ⟨nn,0,none⟩) 1 1))):=I (f9.o.setCell (p:=⟨b2,2,none⟩) f7.o.2.1 _);have f3:Hid (nb <(N0.setCell ⟨b2,2,none⟩ (.slice (some ⟨nn,0,none⟩) 1 1)).heap.size):=I (by have h1:=a9.o;have h2:=Y.o;simp[World.setCell];omega);generalize N0.setCell ⟨b2,2,none⟩ (.slice (some ⟨nn,0,none⟩) 1 1)= M3 at*;clear g5 g7 f9 e8 a9;go_upto_region 5 with (first|(go_at_call 16;refine(z5W M3).mono ?_;rintro e W4 ⟨a4,b4,h1,h2,h3,rfl,h4,h5,h6⟩;have h9:=I (And.intro h1 (And.intro h2 h3));have i2:=I h4;have a0:=I h5;have c4:=I h6;clear h1 h2 h3 h4 h5 h6)|((with_reducible refine zg 27 _ _ rfl rfl ?_ (Whole.new W4 [.int .i64 0,.slice none 0 0,.slice none 0 0,.slice none 0 0,.slice none 0 0,.slice none 0 0] 27) (plC (sl1 b4 2)) ?_ ?_ ?_ ?_ ?_ ?_);exact wA rfl;rfl;rfl;rfl;kernel_rfl;exact(z5P _ rfl);intro M4 G F;have d9:=I F.o;have e2:=I ((zc W4 (.cells ⟨[.int .i64 0,.slice none 0 0,.slice none 0 0,.slice none 0 0,.slice none 0 0,.slice none 0 0]⟩ 27)).trans (F.o.below (by simp) (Nat.le_refl _) (Nat.le_refl _)))));have F:Hid (Below M3.heap.size M3 M4):=I (c4.o.trans ((e2.o.mono c4.o.size)));have b5:=I (a0.o.keep ((zc W4 (.cells ⟨[.int .i64 0,.slice none 0 0,.slice none 0 0,.slice none 0 0,.slice none 0 0,.slice none 0 0]⟩ 27)).block _ a0.o.lt));have e1:Hid (Whole 56 M4 b4 (ndC 1 (sl1 a4 1) ++ ndC 2 (.slice none 0 0))):=I (b5.o.keep (d9.o.block _ b5.o.lt (Nat.ne_of_lt a0.o.lt) (Nat.ne_of_lt a0.o.lt)));have a6:=I a0.o.lt;obtain⟨ob,d7⟩:∃ q,W4.heap.size= q:=⟨_,rfl⟩;have i7:Hid (M3.heap.size<=ob):=I (d7▸c4.o.size);rw[d7] at G a6;rw[d7];clear d7 a0 b5 d9 e2 i2;have d5:M4.cell? ⟨ob,5,none⟩= some (.slice (some ⟨b4,0,none⟩) 2 2):=G.o.range 5 _ rfl;have f5:M4.frozen? ⟨ob,5,none⟩= false:=G.o.frozV (j:=5) (by simp[plC]);have f6:Hid (Whole 27 (M4.setCell ⟨ob,5,none⟩ (.slice (some ⟨b4,29,none⟩) 1 1)) ob (plC (.slice (some ⟨b4,29,none⟩) 1 1))):=I (Whole.put14 G.o 5 _);have f1:Hid (Whole 56 (M4.setCell ⟨ob,5,none⟩ (.slice (some ⟨b4,29,none⟩) 1 1)) b4 (ndC 1 (sl1 a4 1) ++ ndC 2 (.slice none 0 0))):=I (e1.o.keep (Below.heap_setCell _ _ _ _ (Nat.ne_of_lt a6.o)));have X:Hid (Below M3.heap.size M3 (M4.setCell ⟨ob,5,none⟩ (.slice (some ⟨b4,29,none⟩) 1 1))):=I (F.o.setCell (p:=⟨ob,5,none⟩) i7.o _);go_upto_region 6 with (fail);clear d5 f5;generalize M4.setCell ⟨ob,5,none⟩ (.slice (some ⟨b4,29,none⟩) 1 1)= M5 at*;have O:Hid (Below K.heap.size K M5):=I (beT d8.o X.o);have e0:Hid (Below w.heap.size w M5):=I (beT g1.o O.o);have i8:Hid (∀ z,Below M5.heap.size M5 z->z.rangeAt mb 0 (plC (sl1 b1 2))):=I fun z hz=>zb (zb e4.o O.o e3.o) hz (Nat.lt_of_lt_of_le e3.o O.o.size);have i9:Hid (∀ z,Below M5.heap.size M5 z->z.rangeAt nb 0 (plC (sl1 b2 2))):=I fun z hz=>zb (zb g8.o X.o f3.o) hz (Nat.lt_of_lt_of_le f3.o X.o.size);have j0:Hid (∀ z,Below M5.heap.size M5 z->z.rangeAt ob 0 (plC (.slice (some ⟨b4,29,none⟩) 1 1))):=I fun z hz=>(f6.o.keep (hz.block _ f6.o.lt)).range;have f4:Hid (∀ z,Below M5.heap.size M5 z->TabP z):=I fun z hz=>j1.o.next (beT e0.o hz);have g2:Hid (∀ z,Below M5.heap.size M5 z->Calls Tryz.prog 8 #[.agg (plC (sl1 b1 2)).toArray] z fun e w'=>∃ lv,e= .returned lv/\OwnSl 37 2 encF w' z.heap.size lv []/\Below z.heap.size z w'):=I fun z hz=>by
  have g:=(beT O.o hz);have h1:=a8.o.keep (g.block _ a8.o.lt);have h2:=b0.o.keep (g.block _ b0.o.lt);have h:=z3w (m14 [nd14 1 [1],nd14 2 []]) (plC (sl1 b1 2)) z (z7s (two14 h2.range h2.lt rfl rfl (z2L (zB 1 (by decide +kernel)) (one14 (zB 1 (by decide +kernel)) h1.range h1.lt)) (z2L (zB 2 (by decide +kernel)) (SlAt.nil _ _ _ _)))) (f4.o z hz);rw[zey] at h;exact h
 have g3:Hid (∀ z,Below M5.heap.size M5 z->Calls Tryz.prog 8 #[.agg (plC (sl1 b2 2)).toArray] z fun e w'=>∃ lv,e= .returned lv/\OwnSl 37 2 encF w' z.heap.size lv [(5,0)]/\Below z.heap.size z w'):=I fun z hz=>by
  have g:=(beT X.o hz);have h1:=e9.o.keep (g.block _ e9.o.lt);have h2:=f0.o.keep (g.block _ f0.o.lt);have h:=z3w (m14 [nd14 1 [0],nd14 2 []]) (plC (sl1 b2 2)) z (z7s (two14 h2.range h2.lt rfl rfl (z2L (zB 1 (by decide +kernel)) (one14 (zB 0 (by decide +kernel)) h1.range h1.lt)) (z2L (zB 2 (by decide +kernel)) (SlAt.nil _ _ _ _)))) (f4.o z hz);rw[zez] at h;exact h
 have g4:Hid (∀ z,Below M5.heap.size M5 z->Calls Tryz.prog 8 #[.agg (plC (.slice (some ⟨b4,29,none⟩) 1 1)).toArray] z fun e w'=>∃ lv,e= .returned lv/\OwnSl 37 2 encF w' z.heap.size lv [(7, -1)]/\Below z.heap.size z w'):=I fun z hz=>by
  have h2:=f1.o.keep (hz.block _ f1.o.lt);have h:=z3w (m14 [nd14 2 []]) (plC (.slice (some ⟨b4,29,none⟩) 1 1)) z (z7s (zeZ h2.range h2.lt rfl rfl (z2L (zB 2 (by decide +kernel)) (SlAt.nil _ _ _ _)))) (f4.o z hz);rw[zeA] at h;exact h
 have i0:Hid (∀ z,Calls Tryz.prog 11 #[.agg ⟨[.int .i64 2,.slice none 0 0,.slice none 0 0]⟩] z fun e w'=>e= .returned (.bool true)/\Below z.heap.size z w'):=I fun z=>by
  have h:=z0Z (pT 2) (tyC 2 (.slice none 0 0) (.slice none 0 0)) z (z0A (p:=fun _=>True) (zB 2 (by decide +kernel))).typ;rw[zaF] at h;exact h
 have i1:Hid (∀ z,Calls Tryz.prog 11 #[.agg ⟨[.int .i64 7,.slice none 0 0,.slice none 0 0]⟩] z fun e w'=>e= .returned (.bool false)/\Below z.heap.size z w'):=I fun z=>by
  have h:=z0Z (pT 7) (tyC 7 (.slice none 0 0) (.slice none 0 0)) z (z0A (p:=fun _=>True) (zB 7 (by decide +kernel))).typ;rw[zaG] at h;exact h
 clear g8 f3 f0 e9 f1 f6 e1 G F d8 e4 b7 a8 b0 c6 c5 c7 g6 b3 h8 f7 h9 f8 e6 c4 C b6 a7 a5 i3 i4 a6;go_wp2_with (first|((with_reducible refine za tyK27 _ rfl ?_ (i8.o _ (Below.refl _ _)) rfl ?_ ?_);exact wA rfl;rfl)|(go_at_call 8;(with_reducible refine(g2.o M5 (Below.refl M5.heap.size M5)).mono ?_);rintro e y1 ⟨lv1,rfl,ho,g⟩;obtain⟨A1,c1,rfl⟩:∃ A c,lv1= .slice A 0 c:=z0S ho;have k0:=I ho;have d0:=I (((Below.refl M5.heap.size M5)).trans (g.mono ((Below.refl M5.heap.size M5)).size));clear ho g)|((with_reducible refine za tyK27 _ rfl ?_ (i9.o _ d0.o) rfl ?_ ?_);exact wA rfl;rfl)|(go_at_call 8;(with_reducible refine(g3.o y1 d0.o).mono ?_);rintro e y2 ⟨k1,rfl,ho,g⟩;have i5:=I ho;have j2:=I ((d0.o).trans (g.mono (d0.o).size));clear ho g)|(go_at_call 17;(with_reducible refine(z8Z i5.o).mono ?_);rintro e y3 ⟨rfl,g⟩;have d1:=I (beT j2.o g);clear g)|((with_reducible refine za tyK27 _ rfl ?_ (j0.o _ d1.o) rfl ?_ ?_);exact wA rfl;rfl)|(go_at_call 8;(with_reducible refine(g4.o y3 d1.o).mono ?_);rintro e y4 ⟨k2,rfl,ho,g⟩;have i6:=I ho;have j3:=I ((d1.o).trans (g.mono (d1.o).size));clear ho g)|(go_at_call 17;(with_reducible refine(z8Z i6.o).mono ?_);rintro e y5 ⟨rfl,g⟩;have j6:=I (beT j3.o g);clear g)|(go_at_call 11;(with_reducible refine(i0.o _).mono ?_);rintro e z6 ⟨rfl,g⟩;have j5:=I (beT j6.o g);clear g)|(go_at_call 11;(with_reducible refine(i1.o _).mono ?_);rintro e y6 ⟨rfl,g⟩;have j4:=I (beT j5.o g);clear g));go_ret;exact⟨rfl,(beT e0.o j4.o)⟩
end
section
open Go Go.RowKit P
theorem z4k:∀ l:List TT,z07 l= l.all zZ
 |[]=>by rw[z07];rfl
 |a::l=>by rw[z07,List.all_cons,z4k l]
theorem z8o:∀ (x:TT) (cs:List Value) (w:World),TypAt w w.heap.size cs x->Calls Tryz.prog 33 #[.agg ⟨cs⟩] w fun e w'=>e= .returned (.bool (zZ x))/\Below w.heap.size w w':=by
 intro x
 induction x using TT.ind with
 |h k ns its ih=>
  intro cs w hv;obtain⟨vn,vi,rfl,_,_,a8,hi⟩:=hv.inv;obtain⟨_,A,c,rfl,hA⟩:=hi;have HA:=I hA;have IH:=I ih;have HG:Hid (zZ (.mk k ns its)=(!(k ==7) && its.all zZ)):=I (by rw[zZ,z4k]);generalize zZ (.mk k ns its)= res at HG ⊢;unfold maxLen at a8;clear hA hv ih;go_enter Tryz.func33,Tryz.ntmps33;go_upto_region 1 with (fail);have a1:=zc w (.cells ⟨[.int .i64 k,vn,.slice A its.length c]⟩ 41);have F:=I (Whole.new w [.int .i64 k,vn,.slice A its.length c] 41);generalize w.alloc (.cells ⟨[.int .i64 k,vn,.slice A its.length c]⟩ 41)= W at*;have X:=I a1;clear a1;go_wp2;go_loopg [3] its.length (fun g i wr=>∃ j:Nat,j+g= its.length/\i= .int .i64 j/\Below W.heap.size W wr/\(its.take j).all zZ= true);case atStart=>exact⟨0,by omega,rfl,Below.refl _ _,rfl⟩
  case round=>
   obtain⟨j,hj,rfl,hb,a0⟩:=hrel;have C:=I hb;have O:=I a0;have d2:wr.cell? ⟨w.heap.size,2,none⟩= some (.slice A its.length c):=(F.o.keep (hb.block _ F.o.lt)).range 2 _ rfl;have d0:wr.cell? ⟨w.heap.size,0,none⟩= some (.int .i64 k):=(F.o.keep (hb.block _ F.o.lt)).range 0 _ rfl;clear hb a0;cases gk with
   |zero=>
    obtain rfl:j= its.length:=by omega
    have c6: ¬ ((its.length:Int) <(its.length:Int)):=by omega
    have N:Hid (res=!(k ==7)):=I (by
     have h:=O.o;rw[List.take_length] at h;rw[HG.o,h,Bool.and_true])
    by_cases h7:k= 7
    ·subst h7
     go_wp2;go_ret;exact⟨z8 N.o.symm,(beT X.o C.o)⟩
    ·have q7:(k ==7)= false:=by rw[beq_eq_false_iff_ne];exact h7
     have q8:(k !=7)= true:=by rw[bne,q7];rfl
     rw[q7] at N;go_wp2;go_ret;exact⟨z8 N.o.symm,(beT X.o C.o)⟩
   |succ g=>
    have c8:(j:Int) <(its.length:Int):=by omega
    obtain⟨y,hy⟩:∃ y,its[j]?= some y:=⟨_,List.getElem?_eq_getElem (by omega)⟩;obtain⟨b,o,rfl,a7,hc⟩:=HA.o (by omega);obtain⟨cs,a2,hr,hR⟩:=hc j y hy;have G:=(beT X.o C.o);have HR:=I (zb hr G a7);have HC:=I (IH.o y (List.mem_of_getElem? hy) cs wr ((hR.under G).more G.size));have Y:=I a2;have HY:=I hy;obtain⟨q,hq⟩:∃ q,zZ y= q:=⟨_,rfl⟩;have HQ:=I hq;rw[hq] at HC;clear hc hr hR G hy a2 hq d0;cases q with
    |false=>
     have HF:Hid (res= false):=I (by
      have:its.all zZ= false:=by
       rw[List.all_eq_false];exact⟨y,List.mem_of_getElem? HY.o,by rw[HQ.o];decide⟩
      rw[HG.o,this,Bool.and_false])
     go_wp2_with (first|((with_reducible refine za tyK41 _ rfl ?_ HR.o rfl Y.o ?_);exact wA rfl)|(go_at_call 33;refine(HC.o).k45 ?_;intro z K));go_ret;exact⟨z8 HF.o.symm,X.o.trans ((beT C.o K.o).mono X.o.size)⟩
    |true=>
     go_wp2_with (first|((with_reducible refine za tyK41 _ rfl ?_ HR.o rfl Y.o ?_);exact wA rfl)|(go_at_call 33;refine(HC.o).k45 ?_;intro z K));go_roundg g;case measure=>omega
     case rel=>exact⟨j+1,by omega,by go_num,(beT C.o K.o),by rw[List.take_add_one,HY.o,List.all_append,O.o];simp[HQ.o]⟩
theorem z8n (t:TT) (cs:List Value) (w:World) (hv:TypAt w w.heap.size cs t):Calls Tryz.prog 12 #[.agg ⟨cs⟩] w fun e w'=>e= .returned (.bool (z08 t))/\Below w.heap.size w w':=by
 have HV:=I hv;have C:=I (zl hv).1;clear hv;go_enter Tryz.func12,Tryz.ntmps12;go_upto_region 1 with (fail);have Y:=I (zc w (.cells ⟨cs⟩ 41));have HW:=I (Whole.new w cs 41);generalize w.alloc (.cells ⟨cs⟩ 41)= W at*;have O:=I (HV.o.next Y.o);have K:=I (fun z (hz:Below W.heap.size W z)=>z8o t cs z (O.o.next hz));have A:=I (z5U t cs W O.o);have N:Hid (∀ z,Below W.heap.size W z->z.rangeAt w.heap.size 0 cs):=I fun z hz=>(HW.o.keep (hz.block _ HW.o.lt)).range;have F:Hid (z08 t=((decide (cntT t 0<=200) && zE t 1) && zZ t)):=I rfl;obtain⟨bt,X⟩:∃ b,(decide (cntT t 0<=200) && zE t 1)= b:=⟨_,rfl⟩;rw[X] at A F;clear X;cases bt with
 |false=>
  go_wp2_with (first|((with_reducible refine za tyK41 _ rfl ?_ HW.o.range rfl C.o ?_);exact wA rfl)|((with_reducible refine za tyK41 _ rfl ?_ (N.o _ g.o) rfl C.o ?_);exact wA rfl)|(go_at_call 32;refine(A.o).k45 ?_;intro z g)|(go_at_call 33;refine(K.o _ g.o).k45 ?_;intro y G));go_ret;exact⟨z8 F.o.symm,(beT Y.o g.o)⟩
 |true=>
  go_wp2_with (first|((with_reducible refine za tyK41 _ rfl ?_ HW.o.range rfl C.o ?_);exact wA rfl)|((with_reducible refine za tyK41 _ rfl ?_ (N.o _ g.o) rfl C.o ?_);exact wA rfl)|(go_at_call 32;refine(A.o).k45 ?_;intro z g)|(go_at_call 33;refine(K.o _ g.o).k45 ?_;intro y G));go_ret;exact⟨z8 (by rw[F.o,Bool.true_and]),Y.o.trans ((beT g.o G.o).mono Y.o.size)⟩
theorem wellGround_walk (W:World) (htab:TabP W) (cs:List Value) (t:TT) (hm:TypAt W W.heap.size cs t):
  Calls Tryz.prog 4 #[.agg ⟨cs⟩] W fun e W'=>e= .returned (.bool true)/\Below W.heap.size W W':=by
 have a1:=I htab;have HV:=I hm;have C:=I (zl hm).1;clear hm htab;go_enter Tryz.func4,Tryz.ntmps4;go_upto_region 1 with (fail);have Y:=I (zc W (.cells ⟨cs⟩ 41));have HW:=I (Whole.new W cs 41);generalize W.alloc (.cells ⟨cs⟩ 41)= V at*;have G:Hid (∀ z,Below V.heap.size V z->TypAt z z.heap.size cs t):=I fun z hz=>(HV.o.next Y.o).next hz;have F:Hid (∀ z,Below V.heap.size V z->z.rangeAt W.heap.size 0 cs):=I fun z hz=>(HW.o.keep (hz.block _ HW.o.lt)).range;have a0:=I (fun z (hz:Below V.heap.size V z)=>zdI z (a1.o.next (beT Y.o hz)));have a2:=I (fun z (hz:Below V.heap.size V z)=>zf1 t cs z (G.o z hz));have N:=I (fun z (hz:Below V.heap.size V z)=>z0Z t cs z (G.o z hz));have O:=I (fun z (hz:Below V.heap.size V z)=>z8n t cs z (G.o z hz));obtain⟨bg,X⟩:∃ b,z08 t= b:=⟨_,rfl⟩;rw[X] at N O;clear X;have g:Below V.heap.size V V.drew:=(Below.refl _ _).drew;refine zr [(0,false),(1,true),(2,true),(3,false),(4,true),(5,true),(6,true),(8,true),(7,false),(9,false),(10,true),(11,true),(12,true),(13,true)] (fun z=>Below V.heap.size V z) (by kernel_rfl) (by intro c a d v w h;cases d<;>exact h) ?_;refine zv 3 6 Tryz.func6 (by kernel_rfl) [] rfl rfl rfl rfl rfl ?_;refine(a0.o _ g).mono ?_;rintro e v1 ⟨rfl,K⟩;have g:Below V.heap.size V v1:=(beT g K);refine⟨_,rfl,g,?_⟩;go_frame;refine zf 4 (.bool true) rfl rfl rfl rfl g rfl ?_;go_frame;refine z7 5 (.agg ⟨cs⟩) rfl rfl rfl g (fun z hz=>zt 41 rfl (W.heap.size) (0) (cs) _ rfl (F.o z hz) Tryz.underlying41 rfl (by rw[C.o];kernel_rfl)) ?_;go_frame;refine zv 6 10 Tryz.func10 (by kernel_rfl) [.agg ⟨cs⟩] rfl rfl rfl rfl rfl ?_;refine(a2.o _ g).mono ?_;rintro e v2 ⟨b,rfl,K⟩;have g:Below V.heap.size V v2:=(beT g K);refine⟨_,rfl,g,?_⟩;go_frame;cases b with
 |false=>
  refine z7 7 (.bool true) rfl rfl rfl g (fun z hz=>by go_simp) ?_;go_frame;refine zf 8 (.bool true) rfl rfl rfl rfl g rfl ?_;go_frame;refine zh (some 9) _ rfl rfl (ze rfl rfl rfl rfl (by decide)) g ?_;go_frame;refine zh (some 11) _ rfl rfl (ze rfl rfl rfl rfl (by decide)) g ?_;go_frame;refine z0h (some 10) _ rfl rfl (ze rfl rfl rfl rfl (by decide)) g ?_;go_frame;refine z0h (some 12) _ rfl rfl (ze rfl rfl rfl rfl (by decide)) g ?_;go_frame;refine zh (some 13) _ rfl rfl (ze rfl rfl rfl rfl (by decide)) g ?_;go_frame;refine zC (some 14) (.bool true) _ _ _ _ true rfl rfl rfl rfl (by exact wA rfl) g rfl ?_;go_frame;refine zC (some 15) (.bool true) _ _ _ _ true rfl rfl rfl rfl (by exact wA rfl) g rfl ?_;go_frame;refine zI 2 (.bool true) rfl rfl rfl rfl g rfl ?_;go_frame;refine zF ?_;have A:=I (beT Y.o g);go_wp2;go_ret;exact⟨rfl,A.o⟩
 |true=>
  refine z7 7 (.bool false) rfl rfl rfl g (fun z hz=>by go_simp) ?_;go_frame;refine zf 8 (.bool false) rfl rfl rfl rfl g rfl ?_;go_frame;refine z7 9 (.agg ⟨cs⟩) rfl rfl rfl g (fun z hz=>zt 41 rfl (W.heap.size) (0) (cs) _ rfl (F.o z hz) Tryz.underlying41 rfl (by rw[C.o];kernel_rfl)) ?_;go_frame;refine z7 11 (.agg ⟨cs⟩) rfl rfl rfl g (fun z hz=>zt 41 rfl (W.heap.size) (0) (cs) _ rfl (F.o z hz) Tryz.underlying41 rfl (by rw[C.o];kernel_rfl)) ?_;go_frame;refine zv 10 11 Tryz.func11 (by kernel_rfl) [.agg ⟨cs⟩] rfl rfl rfl rfl rfl ?_;refine(N.o _ g).mono ?_;rintro e v3 ⟨rfl,K⟩;have g:Below V.heap.size V v3:=(beT g K);refine⟨_,rfl,g,?_⟩;go_frame;refine zv 12 12 Tryz.func12 (by kernel_rfl) [.agg ⟨cs⟩] rfl rfl rfl rfl rfl ?_;refine(O.o _ g).mono ?_;rintro e v4 ⟨rfl,K⟩;have g:Below V.heap.size V v4:=(beT g K);refine⟨_,rfl,g,?_⟩;go_frame;refine z7 13 (.bool true) rfl rfl rfl g (fun z hz=>by go_simp) ?_;go_frame;refine zC (some 14) (.bool true) _ _ _ _ false rfl rfl rfl rfl (by exact wA rfl) g rfl ?_;go_frame;refine zC (some 15) (.bool true) _ _ _ _ true rfl rfl rfl rfl (by exact wA rfl) g rfl ?_;go_frame;refine zI 2 (.bool true) rfl rfl rfl rfl g rfl ?_;go_frame;refine zF ?_;have A:=I (beT Y.o g);go_wp2;go_ret;exact⟨rfl,A.o⟩
end
end Go.Proofs.YtdjfpcmlffekkaaGreatDoor
