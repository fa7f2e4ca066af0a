/- Parts of a proof: WV, WNd, WLa, WM, WCk, Sm14, Aw14, WLatW. -/
import Derived.Maps.OwnOps
import Derived.Maps.Views
import Derived.Test.YtdjfpcmlffekkaaGreatDoorPackL12
import Derived.Test.YtdjfpcmlffekkaaGreatDoorPackL17
import Derived.Test.YtdjfpcmlffekkaaGreatDoorPackL25
import Derived.Test.YtdjfpcmlffekkaaGreatDoorPackL41
import Derived.Test.YtdjfpcmlffekkaaGreatDoorPackL43
import Derived.Test.YtdjfpcmlffekkaaGreatDoorPackL44
set_option maxHeartbeats 8000000
set_option maxRecDepth 100000
set_option linter.unusedVariables false
set_option linter.unusedSimpArgs false
namespace Go.Proofs.YtdjfpcmlffekkaaGreatDoor
section
open Go Go.RowKit P
def CntMap (D:DataW Unit) (l:List (List UInt8)):Prop:=Go.Maps.IsMap D/\∀ s,D.atKey (.string s) (.lit (.int .i64 0))= .lit (.int .i64 (cntN l s))
theorem z6l:CntMap (.map []) []:=⟨⟨[],rfl⟩,fun s=>rfl⟩
theorem CntMap.put {D:DataW Unit} {l:List (List UInt8)} (h:CntMap D l) (a:List UInt8) (c:Int) (hc:c=(cntN l a:Int)+1):CntMap (D.put (.string a) (.lit (.int .i64 c))) (l ++ [a]):=by
 refine⟨Go.Maps.IsMap.put h.1 _ _,fun s=> ?_⟩
 by_cases hs:s= a
 ·subst hs
  rw[Go.Maps.atKey_put_same h.1 (show Go.WideAt.IsKeyLit (.string s) from trivial),z1A,if_pos rfl,hc]
  rfl
 ·rw[Go.Maps.atKey_put_other (by intro e;injection e with e;exact hs e),h.2 s,z1A,if_neg (fun e=>hs e.symm)]
  rfl
section
open Go.Maps
variable {P:Program} {ops:Array Oper} {rest:List Oper} {o:Oper} {a:Act} {w:World} {Q:Exit->Act->World->Prop} {H:Type}
theorem z1e (m x:Operand) (t:TypeId) (ho:o.op= .lookup t m x false) (hw:Region.wanted o (yielded ops a.tmps)= true) (k e:TypeId) (K:Keyed P k) (ht:P.underlying t= some (.map k e)) (he:P.underlying e= some (.int .i64))
  (hz:(zeroValue e).run P w= .ok (.int .i64 0) w) (b n:Nat) (D:DataW H) (hm:a.eval m= .map (some b)) (hown:w.ownsMap P k (plainElem P e) b n D) (key:Value) (kl:Lit) (hx:a.eval x= key) (hkey:keyOf P k key= some kl)
  (c:Int) (hc:D.atKey kl (.lit (.int .i64 0))= .lit (.int .i64 c)) (h:wpList P ops Q rest (a.put o.dst (.int .i64 c)) w):wpList P ops Q (o::rest) a w:=
 wpList_step fun K' hK=>by
  rw[if_pos hw]
  obtain⟨c',hrun,hat,_⟩:=hown.lookup_int K ht he hz hkey
  have:c'= c:=by
   rw[hc] at hat
   simpa using hat.symm
  subst this
  unfold Oper.wp
  simp[execOp,ho,hm,hx,hrun,Result.andThen]
  exact hK _ _ h
theorem z2V {k:TypeId} {R:Value->Option (DataW H × List MemPlace)} {b n:Nat} {D:DataW H} {w w':World} (h:w.ownsMap P k R b n D) (hb:w'.heap[b]?= w.heap[b]?):w'.ownsMap P k R b n D:=by
 obtain⟨es,clock,h1,F,hs,hD⟩:=h
 exact⟨es,clock,hb.trans h1,F,hs,hD⟩
end
theorem lawSt:Go.Maps.Keyed Tryz.prog 9:=Go.Maps.string_keyed Tryz.underlying9
theorem z2Y (w:World):(zeroValue 3).run Tryz.prog w= .ok (.int .i64 0) w:=by kernel_rfl
theorem keySt (s:ByteArray) (hs:s.size<=maxLen):keyOf Tryz.prog 9 (.string s)= some (.string s.data.toList):=by simp[keyOf,Tryz.underlying9,mapKey,hs]
theorem z2C {w w':World} {b o:Nat} {l:List Value} (h:w.rangeAt b o l) (hb:w'.heap[b]?= w.heap[b]?):w'.rangeAt b o l:=fun i v hv=>(World.cell?_of_block (a:=⟨b,o+i,none⟩) hb).trans (h i v hv)
theorem z2e {w:World} {b:Nat} {l a p r:List Value} (h:w.rangeAt b 0 l) (he:l= a ++ p ++ r) (k:Nat) (hk:a.length= k):w.rangeAt b k p:=fun i v hv=>by
 have:=h (k+i) v (by subst hk;rw[he,List.append_assoc,List.getElem?_append_right (by omega),show a.length+i - a.length= i by omega,List.getElem?_append_left (List.getElem?_eq_some_iff.1 hv).1];exact hv)
 rwa [show 0+ (k+i)= k+i by omega] at this
section
variable {TC TF:TypeId} {W u z Z1 Z2:World} {cb mb':Nat} {mp lp lv lv0:Value} {L:List zT}
theorem CkStep.map (h:CkStep cb u z lv0 lv) (hb:Below z.heap.size z Z1) (hg:Z1.grownBy Z2 (some mb')) (hm:u.heap.size<=mb'):CkStep cb u Z2 lv0 lv:=
 ⟨hg.os.trans (hb.os.trans h.os),hg.tape.trans (hb.tape.trans h.tape),hg.output.trans (hb.output.trans h.output),Nat.le_trans h.size (Nat.le_trans hb.size hg.size),fun b h1 h2 h3=>(hg.block b (Nat.lt_of_lt_of_le h1 (Nat.le_trans h.size hb.size)) (by intro e;injection e with e;omega)).trans ((hb.block b (Nat.lt_of_lt_of_le h1 h.size)).trans (h.block b h1 h2 h3)),h.next⟩
theorem Ck.map (h:Ck TC TF W z cb mp lp lv L) (hb:Below z.heap.size z Z1) (hg:Z1.grownBy Z2 (some mb')) (hm:W.heap.size<=mb') (hne:lv.ownBlock≠some mb'):Ck TC TF W Z2 cb mp lp lv L:=by
 have h1:=h.on hb
 refine⟨(hg.block cb (Nat.lt_of_lt_of_le h.lt h1.step.size) (by intro e;injection e with e;have:=h.lt;omega)).trans h1.box,World.ownsRow.kept h1.own hg (.inr hne),h.step.map hb hg hm,h.lt⟩
theorem CkD.of {mb lb:Nat} {w0:World} (h:Ck TC TF W u cb (.pointer (some ⟨mb,0,none⟩)) (.pointer (some ⟨lb,0,none⟩)) lv L) (hw:Below w0.heap.size w0 W) (hcb:w0.heap.size<=cb):CkD mb lb w0 cb u:=
 ⟨hw.trans ((h.below hcb)),h.cells.1 0 _ rfl,h.cells.1 1 _ rfl,h.cells.2.1⟩
theorem CkStep.fresh (h:CkStep cb u z lv0 lv) {b:Nat} (hb:b < u.heap.size) (hl:lv0.ownBlock≠some b):lv.ownBlock≠some b:=by
 rcases h.next with e|⟨g,e,hg⟩
 ·rw[e];exact hl
 ·rw[e];intro e2;injection e2 with e2;omega
end
theorem zc3 {m:ModelT} {mb lb n:Nat} {R:Rel} {w0 W u:World} {OA GA VA MA NA:Option Addr} {oc gc vc mc nc cb:Nat} {lv:Value} {L:List zT} (hs:CkS m mb lb n R w0 OA GA VA MA NA oc gc vc mc nc) (hck:Ck 71 37 W u cb (.pointer (some ⟨mb,0,none⟩)) (.pointer (some ⟨lb,0,none⟩)) lv L) (hw:Below w0.heap.size w0 W) (hcb:w0.heap.size<=cb) (hL:L.length<=500) (hfew:m.vars.length<=100):
  Calls Tryz.prog 22 #[.pointer (some ⟨cb,0,none⟩)] u fun e u'=>e= .returned (.tuple #[])/\∃ lv',Ck 71 37 W u' cb (.pointer (some ⟨mb,0,none⟩)) (.pointer (some ⟨lb,0,none⟩)) lv' (L ++ upto (varF n R m) m.vars.length)/\CkStep cb u u' lv lv':=by
 have HS:=I hs
 have HWW:=I hw
 have HCB:=I hcb
 have HLL:=I hL
 have hle2:(m.vars.length:Int)<=100:=by omega
 obtain⟨-,RA',rc',e1,hrow⟩:=id hs.vars
 injection e1 with e1 e2 e3
 subst e1 e3
 have HROW:=I hrow
 have HOWN0:Hid (lv.ownBlock≠some u.heap.size):=I fun e=>by have:=z0u hck.own e;omega
 have HWU:Hid (W.heap.size<=u.heap.size):=I hck.step.size
 have HB0:=I (zd u (.map #[] 0))
 have HM0:Hid ((u.alloc (.map #[] 0)).ownsMap Tryz.prog 9 (Go.plainElem Tryz.prog 3) u.heap.size 0 (.map []:DataW Unit)):=I (World.ownsMap_made u _ _ _)
 have HCK0:=I (hck.on HB0.o)
 have HST0:Hid (CkStep cb u (u.alloc (.map #[] 0)) lv lv):=I (CkStep.of HB0.o cb lv)
 have HU1:Hid ((u.alloc (.map #[] 0)).heap.size= u.heap.size+1):=I (by simp)
 have hmm:= @run_makeMap Tryz.prog
 clear hs hw hcb hL hck hrow e2
 go_enter Tryz.func22,Tryz.ntmps22
 go_upto_region 1 with (fail)
 generalize u.alloc (.map #[] 0)= U at*
 have HD0:=I (CkD.of HCK0.o HWW.o HCB.o)
 have d0:=HD0.o.c0
 have d3:=HS.o.cell HD0.o.bel (j:=3) rfl
 go_wp2
 clear d0 d3
 go_loopg [14] m.vars.length (fun q y z=>∃ (j:Nat) (lv1:Value) (D:DataW Unit),j+q= m.vars.length/\y= .int .i64 j/\Ck 71 37 W z cb (.pointer (some ⟨mb,0,none⟩)) (.pointer (some ⟨lb,0,none⟩)) lv1 (L ++ upto (varF n R m) j)/\CkStep cb u z lv lv1/\z.ownsMap Tryz.prog 9 (Go.plainElem Tryz.prog 3) u.heap.size j D/\CntMap D ((m.vars.take j).map (·.name.data.toList))/\lv1.ownBlock≠some u.heap.size/\u.heap.size < z.heap.size)
 case atStart=>exact⟨0,lv,_,by omega,rfl,by rw[z2K,List.append_nil];exact HCK0.o,HST0.o,HM0.o,by simpa using z6l,HOWN0.o,by have:=HU1.o;omega⟩
 case round=>
  obtain⟨j,lv1,D,hj,rfl,hck,hst,hmp,hcn,hon,hlt0⟩:=hrel
  have HCK:=I hck
  have HST:=I hst
  have HMP:=I hmp
  have HCN:=I hcn
  have HON:=I hon
  have HMZ:=I hlt0
  clear hck hst hmp hcn hon hlt0
  obtain⟨z,hz⟩:∃ z,z= wr:=⟨_,rfl⟩
  subst hz
  cases gk with
  |zero=>
   obtain rfl:j= m.vars.length:=by omega
   have hge: ¬ ((m.vars.length:Int) <(m.vars.length:Int)):=by omega
   go_wp2
   refine bodyPost_end (results_none rfl _ _ _) rfl ?_
   exact⟨rfl,lv1,HCK.o,HST.o⟩
  |succ g=>
   have hlt:(j:Int) <(m.vars.length:Int):=by omega
   have ilt:j < m.vars.length:=by omega
   obtain⟨x,hx⟩:∃ x,m.vars[j]?= some x:=⟨_,List.getElem?_eq_getElem ilt⟩
   obtain⟨rb,ro,rfl,hrl,hc⟩:=HROW.o (by omega)
   obtain⟨ks,hkl,hks,hkx⟩:=hc j x hx
   have HD:=I (CkD.of HCK.o HWW.o HCB.o)
   have HKR:Hid (z.rangeAt rb (ro+j*11) ks):=I (zc hks HD.o.bel hrl)
   have HKL:=I hkl
   obtain⟨ct,ci,rfl,hctl,hcil,htt,hti⟩:=hkx.ex
   have HNS:=I hkx.name
   have HK0:Hid (([.string x.name,.int .i64 x.label] ++ ct ++ ci:List Value)[0]?= some (.string x.name)):=I rfl
   have HKO:Hid (∀ v∈([.string x.name,.int .i64 x.label] ++ ct ++ ci:List Value),v.oneCell'= true):=I (by
    intro v hv
    rcases List.mem_append.1 hv with hv|hv
    ·rcases List.mem_append.1 hv with hv|hv
     ·simp only[List.mem_cons,List.not_mem_nil,or_false] at hv
      rcases hv with rfl|rfl<;>rfl
     ·exact(zk htt).2 v hv
    ·exact(zo hti).2 v hv)
   have HLT:=I hctl
   have HLI:=I hcil
   have HTT:=I htt
   have HTI:=I hti
   clear hctl hcil htt hti
   have HX:=I hx
   clear hc hkl hks hkx hrl hx
   go_upto_region 4 with (first|((with_reducible refine za 62 _ rfl ?_ (rb) (ro+j*11) ([.string x.name,.int .i64 x.label] ++ ct ++ ci) _ rfl HKR.o Tryz.underlying62 rfl ?_ ?_);(exact wA rfl);rw[HKL.o];kernel_rfl)|((with_reducible refine zJ 62 _ _ rfl ?hwx5 z ?zz5 ([.string x.name,.int .i64 x.label] ++ ct ++ ci) ?hwld5 ?hz5 ?hx5 ?hy5 ?hi5 ?h15 ?_);(case hwld5=>rfl);(case hx5=>rfl);(case hy5=>rfl);(case hwx5=>(exact wA rfl));(case hz5=>rw[HKL.o];rfl);(case hi5=>rw[HKL.o];kernel_rfl);(case h15=>exact HKO.o);intro Z1 hZ;have HX1:=I hZ;clear hZ))
   have HB1:=I HX1.o.below
   have HR1:=I HX1.o.range
   have HQZ:=I HX1.o.size
   obtain⟨q4,hq4⟩:∃ q,z.heap.size= q:=⟨_,rfl⟩
   have HQE:=I hq4
   rw[hq4] at HR1 HQZ
   rw[hq4]
   clear hq4
   have HM1:=I (z2V HMP.o (HB1.o.block u.heap.size HMZ.o))
   have HAT:=I (HCN.o.2 x.name.data.toList)
   obtain⟨c,hc⟩:∃ c:Nat,cntN ((m.vars.take j).map (·.name.data.toList)) x.name.data.toList= c:=⟨_,rfl⟩
   have HCE:=I hc
   have hcle:c<=100:=by have h:=z8Z ((m.vars.take j).map (·.name.data.toList)) x.name.data.toList;rw[List.length_map,List.length_take] at h;omega
   have HJL:Hid (j < maxLen):=I (by unfold maxLen;omega)
   rw[hc] at HAT
   have HPUT0:=I (HCN.o.put x.name.data.toList ((c:Int)+1) (by rw[hc]))
   have hB0:varB n R m j x=(decide (cntN ((m.vars.take (j+1)).map (·.name.data.toList)) x.name.data.toList= 1) && (nameW x.name && (lqI n R x.label x.label && (z0j x.type && fitT x.init x.type)))):=rfl
   have hct:cntN ((m.vars.take (j+1)).map (·.name.data.toList)) x.name.data.toList= c+1:=by
    rw[List.take_add_one,HX.o,List.map_append]
    show cntN (_ ++ [x.name.data.toList]) _= _
    rw[z1A,if_pos rfl,hc]
   have hwr:IntKind.i64.wrap ((c:Int)+1)=(c:Int)+1:=by rw[IntKind.wrap_i64];omega
   have hpe0:(Lit.int .i64 ((c:Int)+1)).wf= true:=by
    have:=wrap64_wf ((c+1:Nat):Int)
    rw[Go.IntWalk.wrap64_in _ (by omega)] at this
    exact this
   rw[hct] at hB0
   have hct2:decide (c+1= 1)= decide ((c:Int)+1= 1):=decide_eq_decide.2 ⟨fun h=>by omega,fun h=>by omega⟩
   rw[hct2] at hB0
   obtain⟨C,hC⟩:∃ C:Int,(c:Int)+1= C:=⟨_,rfl⟩
   rw[hC] at hwr hpe0 hB0 HPUT0
   have hpe:Go.plainElem Tryz.prog 3 (.int .i64 C)= some ((.lit (.int .i64 C):DataW Unit),[]):=plainElem_int Tryz.underlying3 hpe0
   have HPE:=I hpe
   have HKS:Hid (keyOf Tryz.prog 9 (.string x.name)= some (.string x.name.data.toList)):=I (keySt x.name HNS.o)
   have HAT2:Hid ((D.put (.string x.name.data.toList) (.lit (.int .i64 C))).atKey (.string x.name.data.toList) (.lit (.int .i64 0))= .lit (.int .i64 C)):=I (by
    rw[HPUT0.o.2,z1A,if_pos rfl,hc,← hC];rfl)
   have HPUT:Hid (CntMap (D.put (.string x.name.data.toList) (.lit (.int .i64 C))) ((m.vars.take (j+1)).map (·.name.data.toList))):=I (by
    rw[List.take_add_one,HX.o,List.map_append];exact HPUT0.o)
   obtain⟨D2,hD2⟩:∃ D2,D.put (.string x.name.data.toList) (.lit (.int .i64 C))= D2:=⟨_,rfl⟩
   have HD2E:=I hD2
   rw[hD2] at HAT2 HPUT
   have s0:Z1.cell? ⟨q4,0,none⟩= some (.string x.name):=HR1.o 0 _ HK0.o
   clear hc hpe hpe0 hD2 hct hct2 HPUT0
   go_upto_region 5 with (first|((with_reducible refine z1e _ _ 97 rfl ?_ 9 3 lawSt Tryz.underlying97 Tryz.underlying3 (z2Y _) u.heap.size j D rfl HM1.o (.string x.name) (.string x.name.data.toList) rfl HKS.o c HAT.o ?_);(exact wA rfl))|(at_mapUpdate;refine wpList_mapUpdate_own _ rfl _ _ _ 97 rfl 9 3 lawSt Tryz.underlying97 _ u.heap.size j _ rfl HM1.o HJL.o _ _ _ rfl rfl HKS.o _ [] HPE.o ?_;intro Z2 hown2 hgrow2;have HM2:=I hown2;have HG2:=I hgrow2;clear hown2 hgrow2))
   clear s0
   have HM2':Hid (Z2.ownsMap Tryz.prog 9 (Go.plainElem Tryz.prog 3) u.heap.size (j+1) D2):=I (by have h:=HM2.o;rw[HD2E.o] at h;exact h)
   have HC2:=I (HCK.o.map HB1.o HG2.o HWU.o HON.o)
   have HS2:=I (HST.o.map HB1.o HG2.o (Nat.le_refl _))
   have HMZ2:Hid (u.heap.size < Z2.heap.size):=I (by have h1:=HMZ.o;have h2:=HB1.o.size;have h3:=HG2.o.size;omega)
   have HR2:Hid (∀ y,Below Z2.heap.size Z2 y->y.rangeAt q4 0 ([.string x.name,.int .i64 x.label] ++ ct ++ ci)):=I fun y hy=>by
    have h1:=HQZ.o
    have h2:=HG2.o.size
    have h3:=HMZ.o
    have h4:=HQE.o
    exact z2C (z2C HR1.o (HG2.o.block q4 h1 (by intro e;injection e with e;omega))) (hy.block q4 (by omega))
   have HRA:Hid (∀ y,Below Z2.heap.size Z2 y->y.rangeAt q4 2 ct):=I fun y hy=>z2e (HR2.o y hy) rfl 2 rfl
   have HRB:Hid (∀ y,Below Z2.heap.size Z2 y->y.rangeAt q4 5 ci):=I fun y hy=>z2e (r:=[]) (HR2.o y hy) (List.append_nil _).symm 5 (by simp[HLT.o])
   have HDZ:Hid (∀ y,Below Z2.heap.size Z2 y->CkD mb lb w0 cb y):=I fun y hy=>CkD.of (HC2.o.on hy) HWW.o HCB.o
   have HGA:=I (fun y (hy:Below Z2.heap.size Z2 y)=>z1i x.type ct y ((HTT.o.under (HDZ.o y hy).bel).more (HDZ.o y hy).bel.size))
   have HFA:=I (fun y (hy:Below Z2.heap.size Z2 y)=>z8g x.init x.type ci ct y ((HTI.o.under (HDZ.o y hy).bel).more (HDZ.o y hy).bel.size) ((HTT.o.under (HDZ.o y hy).bel).more (HDZ.o y hy).bel.size))
   have HNA:=I (z6F x.name Z2)
   have HLA:=I (fun y (hy:Below Z2.heap.size Z2 y)=>z1b HS.o (HDZ.o y hy) x.label)
   obtain⟨B,hB⟩:∃ B,varB n R m j x= B:=⟨_,rfl⟩
   have HLE:Hid ((L ++ upto (varF n R m) j).length<=1000):=I (by
    have h1:=z0A (z56 n R m) j
    have h2:=HLL.o
    rw[List.length_append];omega)
   have HFE:Hid (L ++ upto (varF n R m) j ++ putF B 2 j= L ++ upto (varF n R m) (j+1)):=I (by
    have:varF n R m j= putF B 2 j:=by
     show(match m.vars[j]? with|none=>[]|some v=>putF (varB n R m j v) 2 j)= _
     rw[HX.o,← hB]
    rw[z21,List.append_assoc,this])
   have HPT:Hid (∀ y,Below Z2.heap.size Z2 y->Calls Tryz.prog 21 #[.pointer (some ⟨cb,0,none⟩),.bool B,.int .i64 2,.int .i64 j] y fun e u'=>e= .returned (.tuple #[])/\∃ lv',Ck 71 37 W u' cb (.pointer (some ⟨mb,0,none⟩)) (.pointer (some ⟨lb,0,none⟩)) lv' (L ++ upto (varF n R m) (j+1))/\CkStep cb y u' lv1 lv'):=I fun y hy=>by
    rw[← HFE.o]
    cases B with
    |false=>exact z3W (HC2.o.on hy) HLE.o 2 j
    |true=>
     refine(z5Z cb 2 j y).mono ?_
     rintro e u' ⟨rfl,rfl⟩
     exact⟨rfl,lv1,by show Ck _ _ _ _ _ _ _ _ (L ++ upto (varF n R m) j ++ []);rw[List.append_nil];exact HC2.o.on hy,CkStep.refl _ _ _⟩
   have HREL:Hid (∀ y u' lv',Below Z2.heap.size Z2 y->Ck 71 37 W u' cb (.pointer (some ⟨mb,0,none⟩)) (.pointer (some ⟨lb,0,none⟩)) lv' (L ++ upto (varF n R m) (j+1))->CkStep cb y u' lv1 lv'->CkStep cb u u' lv lv'/\u'.ownsMap Tryz.prog 9 (Go.plainElem Tryz.prog 3) u.heap.size (j+1) D2/\CntMap D2 ((m.vars.take (j+1)).map (·.name.data.toList))/\lv'.ownBlock≠some u.heap.size/\u.heap.size < u'.heap.size):=I fun y u' lv' hy hck hst=>by
    have h1:=HMZ2.o
    have h2:=hy.size
    have h3:=hst.size
    have h4:=HCK.o.lt
    have h5:=HWU.o
    exact⟨(HS2.o.trans (CkStep.of hy cb lv1)).trans hst,z2V (z2V HM2'.o (hy.block _ h1)) (hst.block _ (by omega) (by omega) (fun e=>HON.o e.symm)),HPUT.o,hst.fresh (by omega) HON.o,by omega⟩
   have HBV:Hid (B=(decide (C= 1) && (nameW x.name && (lqI n R x.label x.label && (z0j x.type && fitT x.init x.type))))):=I (by rw[← hB,hB0])
   clear hB hB0 hC
   obtain⟨b0,hb0⟩:∃ b,decide (C= 1)= b:=⟨_,rfl⟩
   obtain⟨b1,hb1⟩:∃ b,nameW x.name= b:=⟨_,rfl⟩
   obtain⟨b2,hb2⟩:∃ b,lqI n R x.label x.label= b:=⟨_,rfl⟩
   obtain⟨b3,hb3⟩:∃ b,z0j x.type= b:=⟨_,rfl⟩
   obtain⟨b4,hb4⟩:∃ b,fitT x.init x.type= b:=⟨_,rfl⟩
   rw[hb0,hb1,hb2,hb3,hb4] at HBV
   rw[hb1] at HNA
   rw[hb2] at HLA
   rw[hb3] at HGA
   rw[hb4] at HFA
   clear hb1 hb2 hb3 hb4
   have s0:Z2.cell? ⟨q4,0,none⟩= some (.string x.name):=HR2.o Z2 (Below.refl _ _) 0 _ rfl
   cases b0 with
   |false=>
    have q1:(C ==1)= false:=by rw[beq_eq_false_iff_ne];exact of_decide_eq_false hb0
    obtain rfl:B= false:=HBV.o
    clear hb0
    go_wp2_with (first|((with_reducible refine z1e _ _ 97 rfl ?_ 9 3 lawSt Tryz.underlying97 Tryz.underlying3 (z2Y _) u.heap.size (j+1) D2 rfl HM2'.o (.string x.name) (.string x.name.data.toList) rfl HKS.o _ HAT2.o ?_);(exact wA rfl))|(go_at_call 21;(with_reducible refine(HPT.o _ (Below.refl _ _)).mono ?_);rintro e y9 ⟨rfl,lv9,hk1,hk2⟩;have HK1:=I hk1;have HK2:=I hk2;have HRZ:=I (HREL.o _ _ _ (Below.refl _ _) hk1 hk2);clear hk1 hk2))
    go_roundg g
    case measure=>omega
    case rel=>exact⟨j+1,lv9,D2,by omega,by go_num,HK1.o,HRZ.o⟩
   |true=>
   obtain rfl:C= 1:=of_decide_eq_true hb0
   clear hb0
   rcases sc3 b1 b2 b3 with rfl|⟨rfl,rfl⟩|⟨rfl,rfl,rfl⟩|⟨rfl,rfl,rfl⟩
   all_goals
    first|obtain rfl:B= false:=HBV.o|obtain rfl:B= b4:=HBV.o
    go_wp2_with (first|((with_reducible refine z1e _ _ 97 rfl ?_ 9 3 lawSt Tryz.underlying97 Tryz.underlying3 (z2Y _) u.heap.size (j+1) D2 rfl HM2'.o (.string x.name) (.string x.name.data.toList) rfl HKS.o _ HAT2.o ?_);(exact wA rfl))|(go_at_call 42;refine(HNA.o).mono ?_;rintro e y1 ⟨rfl,hb⟩;have HY1:=I hb;have d1:=HR2.o _ HY1.o 1 _ rfl;clear hb)|(go_at_call 24;refine(HLA.o _ HY1.o).mono ?_;rintro e z5 ⟨rfl,hzw⟩;rw[hzw];clear hzw z5)|((with_reducible refine za 41 _ rfl ?_ (q4) (2) (ct) _ rfl (HRA.o _ HY1.o) Tryz.underlying41 rfl ?_ ?_);(exact wA rfl);rw[HLT.o];kernel_rfl)|((with_reducible refine za 41 _ rfl ?_ (q4) (2) (ct) _ rfl (HRA.o _ HY2.o) Tryz.underlying41 rfl ?_ ?_);(exact wA rfl);rw[HLT.o];kernel_rfl)|((with_reducible refine za 52 _ rfl ?_ (q4) (5) (ci) _ rfl (HRB.o _ HY2.o) Tryz.underlying52 rfl ?_ ?_);(exact wA rfl);rw[HLI.o];kernel_rfl)|(go_at_call 11;with_reducible refine(HGA.o _ HY1.o).mono ?_;rintro e y2 ⟨rfl,hb⟩;have HY2:=I (HY1.o.trans (hb.mono HY1.o.size));clear hb)|(go_at_call 43;with_reducible refine(HFA.o _ HY2.o).mono ?_;rintro e y3 ⟨rfl,hb⟩;have HY3:=I (HY2.o.trans (hb.mono HY2.o.size));clear hb)|(go_at_call 21;(with_reducible refine(HPT.o _ HY3.o).mono ?_);rintro e y9 ⟨rfl,lv9,hk1,hk2⟩;have HK1:=I hk1;have HK2:=I hk2;have HRZ:=I (HREL.o _ _ _ HY3.o hk1 hk2);clear hk1 hk2)|(go_at_call 21;(with_reducible refine(HPT.o _ HY2.o).mono ?_);rintro e y9 ⟨rfl,lv9,hk1,hk2⟩;have HK1:=I hk1;have HK2:=I hk2;have HRZ:=I (HREL.o _ _ _ HY2.o hk1 hk2);clear hk1 hk2)|(go_at_call 21;(with_reducible refine(HPT.o _ HY1.o).mono ?_);rintro e y9 ⟨rfl,lv9,hk1,hk2⟩;have HK1:=I hk1;have HK2:=I hk2;have HRZ:=I (HREL.o _ _ _ HY1.o hk1 hk2);clear hk1 hk2))
    go_roundg g
    case measure=>omega
    case rel=>exact⟨j+1,lv9,D2,by omega,by go_num,HK1.o,HRZ.o⟩
end
section
open Go Go.RowKit P
theorem z62 {W u:World} {cb:Nat} {mp lp lv:Value} {L:List zT} (h:Ck 71 37 W u cb mp lp lv L) (hL:L.length<=1000) (B:Bool) (r a:Int):
  Calls Tryz.prog 21 #[.pointer (some ⟨cb,0,none⟩),.bool B,.int .i64 r,.int .i64 a] u fun e u'=>e= .returned (.tuple #[])/\∃ lv',Ck 71 37 W u' cb mp lp lv' (L ++ putF B r a)/\CkStep cb u u' lv lv':=by
 cases B with
 |false=>exact z3W h hL r a
 |true=>
  refine(z5Z cb r a u).mono ?_
  rintro e u' ⟨rfl,rfl⟩
  exact⟨rfl,lv,by show Ck _ _ _ _ _ _ _ _ (L ++ []);rw[List.append_nil];exact h,CkStep.refl _ _ _⟩
def isSt (x:NodeT):Bool:=x.kind ==1
theorem zai (m:ModelT):z10 m= decide (0 < m.nodes.countP isSt):=by
 unfold z10
 rw[show(fun x:NodeT=>x.kind ==1)= isSt from rfl]
 rcases h:m.nodes.any isSt with _|_
 ·have:m.nodes.countP isSt= 0:=List.countP_eq_zero.2 fun x hx=>by
   have:=List.any_eq_false.1 h x hx
   exact this
  rw[this];rfl
 ·obtain⟨x,hx,hp⟩:=List.any_eq_true.1 h
  have:=List.countP_pos_iff.2 ⟨x,hx,hp⟩
  rw[decide_eq_true this]
theorem z9s {m:ModelT} {mb lb n:Nat} {R:Rel} {w0 W u:World} {OA GA VA MA NA:Option Addr} {oc gc vc mc nc cb:Nat} {lv:Value} {L:List zT} (hs:CkS m mb lb n R w0 OA GA VA MA NA oc gc vc mc nc) (hck:Ck 71 37 W u cb (.pointer (some ⟨mb,0,none⟩)) (.pointer (some ⟨lb,0,none⟩)) lv L) (hw:Below w0.heap.size w0 W) (hcb:w0.heap.size<=cb) (hL:L.length<=500) (hfew:m.nodes.length<=100):
  Calls Tryz.prog 25 #[.pointer (some ⟨cb,0,none⟩)] u fun e u'=>e= .returned (.tuple #[])/\∃ lv',Ck 71 37 W u' cb (.pointer (some ⟨mb,0,none⟩)) (.pointer (some ⟨lb,0,none⟩)) lv' (L ++ upto (nodeF n R m (zM m)) m.nodes.length ++ putF (z10 m) 7 (-1))/\CkStep cb u u' lv lv':=by
 have HS:=I hs
 have HWW:=I hw
 have HCB:=I hcb
 have HLL:=I hL
 have HFEW:=I hfew
 have hle2:(m.nodes.length:Int)<=100:=by omega
 obtain⟨-,RA',rc',e1,hrow⟩:=id hs.nodes
 injection e1 with e1 e2 e3
 subst e1 e3
 have HROW:=I hrow
 have HCK0:=I hck
 have HD0:=I (CkD.of hck hw hcb)
 have HST0:Hid (z10 m= decide (0 < m.nodes.countP isSt)):=I (zai m)
 have d0:=HD0.o.c0
 have d5:=HS.o.cell HD0.o.bel (j:=5) rfl
 clear hs hw hcb hL hck hrow e2
 go_enter Tryz.func25,Tryz.ntmps25
 go_wp2
 clear d0 d5
 go_loopg [2,13] m.nodes.length (fun q s2 y z=>∃ (j s:Nat) (lv1:Value),j+q= m.nodes.length/\s2= .int .i64 s/\y= .int .i64 j/\Ck 71 37 W z cb (.pointer (some ⟨mb,0,none⟩)) (.pointer (some ⟨lb,0,none⟩)) lv1 (L ++ upto (nodeF n R m (zM m)) j)/\CkStep cb u z lv lv1/\s=(m.nodes.take j).countP isSt)
 case atStart=>exact⟨0,0,lv,by omega,rfl,rfl,by rw[z2K,List.append_nil];exact HCK0.o,CkStep.refl _ _ _,rfl⟩
 case round=>
  obtain⟨j,s,lv1,hj,rfl,rfl,hck,hst,hcn⟩:=hrel
  have HCK:=I hck
  have HST:=I hst
  have HCN:=I hcn
  have hsj:s<=j:=by
   rw[hcn]
   exact Nat.le_trans List.countP_le_length (by rw[List.length_take];omega)
  clear hck hst hcn
  obtain⟨z,hz⟩:∃ z,z= wr:=⟨_,rfl⟩
  subst hz
  have HLE:Hid ((L ++ upto (nodeF n R m (zM m)) j).length<=1000):=I (by
   have h1:=z0A (z6N n R m (zM m)) j
   have h2:=HLL.o
   rw[List.length_append];omega)
  cases gk with
  |zero=>
   obtain rfl:j= m.nodes.length:=by omega
   have hge: ¬ ((m.nodes.length:Int) <(m.nodes.length:Int)):=by omega
   have HP:Hid (Calls Tryz.prog 21 #[.pointer (some ⟨cb,0,none⟩),.bool (decide (0 <(s:Int))),.int .i64 7,.int .i64 (-1)] z fun e u'=>e= .returned (.tuple #[])/\∃ lv',Ck 71 37 W u' cb (.pointer (some ⟨mb,0,none⟩)) (.pointer (some ⟨lb,0,none⟩)) lv' (L ++ upto (nodeF n R m (zM m)) m.nodes.length ++ putF (z10 m) 7 (-1))/\CkStep cb z u' lv1 lv'):=I (by
    have he:z10 m= decide (0 <(s:Int)):=by
     rw[HST0.o]
     have h:=HCN.o
     rw[List.take_length] at h
     rw[← h]
     exact decide_eq_decide.2 ⟨fun h=>by omega,fun h=>by omega⟩
    rw[he]
    exact z62 HCK.o HLE.o _ 7 (-1))
   have HLS:=HLE.o
   by_cases h0:0 < s
   ·obtain⟨s1,rfl⟩:∃ s1,s= s1+1:=⟨s - 1,by omega⟩
    have hd:decide ((0:Int) <((s1+1:Nat):Int))= true:=decide_eq_true (by omega)
    have hg0:decide (((s1+1:Nat):Int) > 0)= true:=decide_eq_true (by omega)
    rw[hd] at HP
    obtain⟨S0,hS0⟩:∃ S0:Int,((s1+1:Nat):Int)= S0:=⟨_,rfl⟩
    have hp0:(0:Int) < S0:=by omega
    rw[hS0] at*
    clear hd hg0 hS0 h0
    go_wp2_with (go_at_call 21;with_reducible refine HP.o.mono ?_;rintro e y9 ⟨rfl,lv9,hk1,hk2⟩;have HK1:=I hk1;have HK2:=I hk2;clear hk1 hk2)
    refine bodyPost_end (results_none rfl _ _ _) rfl ?_
    exact⟨rfl,lv9,HK1.o,HST.o.trans HK2.o⟩
   ·obtain rfl:s= 0:=by omega
    have hd:decide ((0:Int) <((0:Nat):Int))= false:=rfl
    rw[hd] at HP
    go_wp2_with (go_at_call 21;with_reducible refine HP.o.mono ?_;rintro e y9 ⟨rfl,lv9,hk1,hk2⟩;have HK1:=I hk1;have HK2:=I hk2;clear hk1 hk2)
    refine bodyPost_end (results_none rfl _ _ _) rfl ?_
    exact⟨rfl,lv9,HK1.o,HST.o.trans HK2.o⟩
  |succ g=>
   have hlt:(j:Int) <(m.nodes.length:Int):=by omega
   have hj0:(0:Int)<=(j:Int):=by omega
   have ilt:j < m.nodes.length:=by omega
   obtain⟨x,hx⟩:∃ x,m.nodes[j]?= some x:=⟨_,List.getElem?_eq_getElem ilt⟩
   obtain⟨rb,ro,rfl,hrl,hc⟩:=HROW.o (by omega)
   obtain⟨ks,hkl,hks,hkx⟩:=hc j x hx
   obtain⟨XA,CA,xc,cc,ce,cbx,hnf⟩:=zcj hks hkx hrl
   have HNF:=I hnf
   have HX:=I hx
   have HD:=I (CkD.of HCK.o HWW.o HCB.o)
   clear hc hkl hks hkx hrl hx hnf
   have d0:=HD.o.c0
   have d5:=HS.o.cell HD.o.bel (j:=5) rfl
   have d6:=HNF.o.c0 HD.o.bel
   have HSP:=I (z9Q HS.o HD.o HNF.o)
   have hwr:IntKind.i64.wrap ((s:Int)+1)=(s:Int)+1:=by rw[IntKind.wrap_i64];omega
   have HFJ:Hid ((nodeF n R m (zM m)) j= if z0S n R m x then putF (zM m x) 6 j else[(5,j)]):=I (by
    show(match m.nodes[j]? with|none=>[]|some x=>if z0S n R m x then putF (zM m x) 6 j else[(5,j)])= _
    rw[HX.o])
   have HC2:Hid ((m.nodes.take (j+1)).countP isSt= s+if x.kind= 1 then 1 else 0):=I (by
    rw[List.take_add_one,HX.o,List.countP_append,← HCN.o]
    congr 1
    show List.countP isSt [x]= _
    rw[List.countP_singleton]
    unfold isSt
    by_cases h:x.kind= 1<;>simp[h])
   have HTY0:Hid (z0S n R m x= true->∀ y,Below z.heap.size z y->Calls Tryz.prog 46 #[.pointer (some ⟨cb,0,none⟩),.pointer (some ⟨rb,ro+j*29,none⟩)] y fun e u'=>e= .returned (.bool (zM m x))/\Below y.heap.size y u'):=I fun h y hy=>z9w HS.o (HD.o.next hy) HNF.o (zbR h)
   obtain⟨S,hS⟩:∃ S,z0S n R m x= S:=⟨_,rfl⟩
   obtain⟨B,hB⟩:∃ B,zM m x= B:=⟨_,rfl⟩
   rw[hS] at HSP HTY0 HFJ
   rw[hB] at HTY0 HFJ
   have HPT0:Hid (∀ y,Below z.heap.size z y->∀ (B:Bool) (r:Int),(nodeF n R m (zM m)) j= putF B r j->Calls Tryz.prog 21 #[.pointer (some ⟨cb,0,none⟩),.bool B,.int .i64 r,.int .i64 j] y fun e u'=>e= .returned (.tuple #[])/\∃ lv',Ck 71 37 W u' cb (.pointer (some ⟨mb,0,none⟩)) (.pointer (some ⟨lb,0,none⟩)) lv' (L ++ upto (nodeF n R m (zM m)) (j+1))/\CkStep cb y u' lv1 lv'):=I fun y hy B r he=>by
    rw[z21,he,← List.append_assoc]
    exact z62 (HCK.o.on hy) HLE.o B r j
   clear hS hB
   cases S with
   |false=>
    have HPT:Hid (∀ y,Below z.heap.size z y->Calls Tryz.prog 21 #[.pointer (some ⟨cb,0,none⟩),.bool false,.int .i64 5,.int .i64 j] y fun e u'=>e= .returned (.tuple #[])/\∃ lv',Ck 71 37 W u' cb (.pointer (some ⟨mb,0,none⟩)) (.pointer (some ⟨lb,0,none⟩)) lv' (L ++ upto (nodeF n R m (zM m)) (j+1))/\CkStep cb y u' lv1 lv'):=I fun y hy=>HPT0.o y hy false 5 HFJ.o
    clear HPT0 HTY0
    by_cases k1:x.kind= 1
    ·have HCNT:Hid (s+1=(m.nodes.take (j+1)).countP isSt):=I (by rw[HC2.o,if_pos k1])
     have hcs:((s+1:Nat):Int)=(s:Int)+1:=by omega
     rw[k1] at d6
     clear k1
     go_wp2_with (first|(go_at_call 45;refine HSP.o.mono ?_;rintro e y1 ⟨rfl,hb⟩;have HY1:=I hb;clear hb)|(go_at_call 21;refine(HPT.o _ HY1.o).mono ?_;rintro e y9 ⟨rfl,lv9,hk1,hk2⟩;have HK1:=I hk1;have HK2:=I hk2;clear hk1 hk2))
     go_roundg g
     case measure=>omega
     case rel=>exact⟨j+1,s+1,lv9,by omega,by first|rfl|(rw[hcs];go_num),by go_num,HK1.o,(HST.o.trans (CkStep.of HY1.o cb lv1)).trans HK2.o,HCNT.o⟩
    ·have HCNT:Hid (s=(m.nodes.take (j+1)).countP isSt):=I (by rw[HC2.o,if_neg k1,Nat.add_zero])
     have hcs:((s:Nat):Int)=(s:Int):=rfl
     have q1:(x.kind ==1)= false:=by rw[beq_eq_false_iff_ne];exact k1
     go_wp2_with (first|(go_at_call 45;refine HSP.o.mono ?_;rintro e y1 ⟨rfl,hb⟩;have HY1:=I hb;clear hb)|(go_at_call 21;refine(HPT.o _ HY1.o).mono ?_;rintro e y9 ⟨rfl,lv9,hk1,hk2⟩;have HK1:=I hk1;have HK2:=I hk2;clear hk1 hk2))
     go_roundg g
     case measure=>omega
     case rel=>exact⟨j+1,s,lv9,by omega,by first|rfl|(rw[hcs];go_num),by go_num,HK1.o,(HST.o.trans (CkStep.of HY1.o cb lv1)).trans HK2.o,HCNT.o⟩
   |true=>
    have HTY:=I (HTY0.o rfl)
    have HPT:Hid (∀ y,Below z.heap.size z y->Calls Tryz.prog 21 #[.pointer (some ⟨cb,0,none⟩),.bool B,.int .i64 6,.int .i64 j] y fun e u'=>e= .returned (.tuple #[])/\∃ lv',Ck 71 37 W u' cb (.pointer (some ⟨mb,0,none⟩)) (.pointer (some ⟨lb,0,none⟩)) lv' (L ++ upto (nodeF n R m (zM m)) (j+1))/\CkStep cb y u' lv1 lv'):=I fun y hy=>HPT0.o y hy B 6 HFJ.o
    clear HPT0 HTY0
    by_cases k1:x.kind= 1
    ·have HCNT:Hid (s+1=(m.nodes.take (j+1)).countP isSt):=I (by rw[HC2.o,if_pos k1])
     have hcs:((s+1:Nat):Int)=(s:Int)+1:=by omega
     rw[k1] at d6
     clear k1
     go_wp2_with (first|(go_at_call 45;refine HSP.o.mono ?_;rintro e y1 ⟨rfl,hb⟩;have HY1:=I hb;clear hb)|(go_at_call 46;refine(HTY.o _ HY1.o).mono ?_;rintro e y2 ⟨rfl,hb⟩;have HY2:=I (HY1.o.trans (hb.mono HY1.o.size));clear hb)|(go_at_call 21;refine(HPT.o _ HY2.o).mono ?_;rintro e y9 ⟨rfl,lv9,hk1,hk2⟩;have HK1:=I hk1;have HK2:=I hk2;clear hk1 hk2))
     go_roundg g
     case measure=>omega
     case rel=>exact⟨j+1,s+1,lv9,by omega,by first|rfl|(rw[hcs];go_num),by go_num,HK1.o,(HST.o.trans (CkStep.of HY2.o cb lv1)).trans HK2.o,HCNT.o⟩
    ·have HCNT:Hid (s=(m.nodes.take (j+1)).countP isSt):=I (by rw[HC2.o,if_neg k1,Nat.add_zero])
     have hcs:((s:Nat):Int)=(s:Int):=rfl
     have q1:(x.kind ==1)= false:=by rw[beq_eq_false_iff_ne];exact k1
     go_wp2_with (first|(go_at_call 45;refine HSP.o.mono ?_;rintro e y1 ⟨rfl,hb⟩;have HY1:=I hb;clear hb)|(go_at_call 46;refine(HTY.o _ HY1.o).mono ?_;rintro e y2 ⟨rfl,hb⟩;have HY2:=I (HY1.o.trans (hb.mono HY1.o.size));clear hb)|(go_at_call 21;refine(HPT.o _ HY2.o).mono ?_;rintro e y9 ⟨rfl,lv9,hk1,hk2⟩;have HK1:=I hk1;have HK2:=I hk2;clear hk1 hk2))
     go_roundg g
     case measure=>omega
     case rel=>exact⟨j+1,s,lv9,by omega,by first|rfl|(rw[hcs];go_num),by go_num,HK1.o,(HST.o.trans (CkStep.of HY2.o cb lv1)).trans HK2.o,HCNT.o⟩
end
section
open Go Go.RowKit P
theorem z57 {w:World} {B:Nat} {A:Option Addr} {c:Nat} {l:List (Int × Int)} (h:SlAt w B 2 PairR (.slice A l.length c) l):Pairs w B A l:=by
 obtain⟨h0,A',c',e,h1⟩:=h
 injection e with e1 e2 e3
 subst e1 e3
 refine⟨h0,fun hp=> ?_⟩
 obtain⟨b,o,rfl,hb,hc⟩:=h1 hp
 refine⟨b,o,rfl,hb,fun i p hi=> ?_⟩
 obtain⟨cs,_,hr,rfl,hw1,hw2⟩:=hc i p hi
 exact⟨hr 0 _ rfl,hr 1 _ rfl,hw1,hw2⟩
def zH (m:ModelT) (OA GA VA MA NA:Option Addr) (oc gc vc mc nc:Nat):List Value:=[.int .i64 m.labels,.slice OA m.order.length oc,.slice GA m.grants.length gc,.slice VA m.vars.length vc,.slice MA m.msgs.length mc,.slice NA m.nodes.length nc]
theorem z1h {w:World} {B:Nat} {cs:List Value} {m:ModelT} (h:ModelAt w B cs m):∃ OA GA VA MA NA oc gc vc mc nc,cs= zH m OA GA VA MA NA oc gc vc mc nc/\
  SlAt w B 2 PairR (.slice OA m.order.length oc) m.order/\SlAt w B 2 PairR (.slice GA m.grants.length gc) m.grants/\SlAt w B 11 (VarAt w B) (.slice VA m.vars.length vc) m.vars/\SlAt w B 8 (MsgAt w B) (.slice MA m.msgs.length mc) m.msgs/\SlAt w B 29 (NodeAt w B) (.slice NA m.nodes.length nc) m.nodes:=by
 obtain⟨⟨v1,v2,v3,v4,v5,rfl,h1,h2,h3,h4,h5⟩,_⟩:=h
 obtain⟨-,A1,c1,rfl, -⟩:=id h1
 obtain⟨-,A2,c2,rfl, -⟩:=id h2
 obtain⟨-,A3,c3,rfl, -⟩:=id h3
 obtain⟨-,A4,c4,rfl, -⟩:=id h4
 obtain⟨-,A5,c5,rfl, -⟩:=id h5
 exact⟨_,_,_,_,_,_,_,_,_,_,rfl,h1,h2,h3,h4,h5⟩
theorem z5x (m:ModelT) (OA GA VA MA NA:Option Addr) (oc gc vc mc nc:Nat):∀ v∈zH m OA GA VA MA NA oc gc vc mc nc,v.oneCell'= true:=by
 intro v hv
 simp only[zH,List.mem_cons,List.not_mem_nil,or_false] at hv
 rcases hv with rfl|rfl|rfl|rfl|rfl|rfl<;>rfl
theorem zeR (m:ModelT) (mcs:List Value) (w:World) (hm:ModelAt w w.heap.size mcs m) (h:makeE m.labels m.order≠0):
  Calls Tryz.prog 20 #[.agg ⟨mcs⟩] w fun e w'=>e= .returned (.tuple #[.pointer none,.int .i64 (makeE m.labels m.order)])/\Below w.heap.size w w':=by
 obtain⟨OA,GA,VA,MA,NA,oc,gc,vc,mc,nc,rfl,ho, -⟩:=z1h hm
 have HP:=I (z57 ho)
 have HB:=I (zd w (.cells ⟨zH m OA GA VA MA NA oc gc vc mc nc⟩ 27))
 have HW:=I (Whole.new w (zH m OA GA VA MA NA oc gc vc mc nc) 27)
 have HZ:Hid ((w.alloc (.cells ⟨zH m OA GA VA MA NA oc gc vc mc nc⟩ 27)).heap.size= w.heap.size+1):=I (by simp)
 have H:=I h
 clear hm ho h
 go_enter Tryz.func20,Tryz.ntmps20
 go_upto_region 1 with (fail)
 generalize w.alloc (.cells ⟨zH m OA GA VA MA NA oc gc vc mc nc⟩ 27)= W at*
 obtain⟨q,hq⟩:∃ q,w.heap.size= q:=⟨_,rfl⟩
 have HQ:=I hq
 rw[hq] at HW HZ
 rw[hq]
 clear hq
 have d0:W.cell? ⟨q,0,none⟩= some (.int .i64 m.labels):=HW.o.range 0 _ rfl
 have d1:W.cell? ⟨q,1,none⟩= some (.slice OA m.order.length oc):=HW.o.range 1 _ rfl
 have HPW:Hid (Pairs W W.heap.size OA m.order):=I (by
  have hb:=HB.o
  refine⟨HP.o.1,fun hp=> ?_⟩
  obtain⟨b,o,e,hl,hc⟩:=HP.o.2 hp
  refine⟨b,o,e,Nat.lt_of_lt_of_le hl hb.size,fun i p hi=> ?_⟩
  obtain⟨h1,h2,h3⟩:=hc i p hi
  exact⟨(hb.cell (p:=⟨b,o+i*2,none⟩) hl).trans h1,(hb.cell (p:=⟨b,o+i*2+1,none⟩) hl).trans h2,h3⟩)
 have HMK:=I (z3p m.labels OA m.order.length oc m.order W rfl HPW.o)
 go_wp2_with (go_at_call 9;refine HMK.o.mono ?_;rintro e y ⟨hb,hcs⟩;have HY:=I (HB.o.trans (hb.mono HB.o.size));clear hb;obtain⟨-,rfl⟩:makeE m.labels m.order≠0/\e= .returned (.tuple #[.pointer none,.int .i64 (makeE m.labels m.order)]):=hcs.resolve_right (fun h=>H.o h.1))
 go_ret2
 exact⟨rfl,HY.o⟩
theorem zeg (m:ModelT) (mcs:List Value) (w:World) (hm:ModelAt w w.heap.size mcs m) (h:makeE m.labels m.order= 0):
  Calls Tryz.prog 20 #[.agg ⟨mcs⟩] w fun e w'=>e= .returned (.tuple #[.pointer (some ⟨w.heap.size+1,0,none⟩),.int .i64 0])/\LatR w' (w.heap.size+1) m.labels.toNat (ordOf m.labels.toNat m.order)/\Below w.heap.size w w':=by
 obtain⟨OA,GA,VA,MA,NA,oc,gc,vc,mc,nc,rfl,ho, -⟩:=z1h hm
 have HP:=I (z57 ho)
 have HB:=I (zd w (.cells ⟨zH m OA GA VA MA NA oc gc vc mc nc⟩ 27))
 have HW:=I (Whole.new w (zH m OA GA VA MA NA oc gc vc mc nc) 27)
 have HZ:Hid ((w.alloc (.cells ⟨zH m OA GA VA MA NA oc gc vc mc nc⟩ 27)).heap.size= w.heap.size+1):=I (by simp)
 have H:=I h
 clear hm ho h
 go_enter Tryz.func20,Tryz.ntmps20
 go_upto_region 1 with (fail)
 generalize w.alloc (.cells ⟨zH m OA GA VA MA NA oc gc vc mc nc⟩ 27)= W at*
 obtain⟨q,hq⟩:∃ q,w.heap.size= q:=⟨_,rfl⟩
 have HQ:=I hq
 rw[hq] at HW HZ
 rw[hq]
 clear hq
 have d0:W.cell? ⟨q,0,none⟩= some (.int .i64 m.labels):=HW.o.range 0 _ rfl
 have d1:W.cell? ⟨q,1,none⟩= some (.slice OA m.order.length oc):=HW.o.range 1 _ rfl
 have HPW:Hid (Pairs W W.heap.size OA m.order):=I (by
  have hb:=HB.o
  refine⟨HP.o.1,fun hp=> ?_⟩
  obtain⟨b,o,e,hl,hc⟩:=HP.o.2 hp
  refine⟨b,o,e,Nat.lt_of_lt_of_le hl hb.size,fun i p hi=> ?_⟩
  obtain⟨h1,h2,h3⟩:=hc i p hi
  exact⟨(hb.cell (p:=⟨b,o+i*2,none⟩) hl).trans h1,(hb.cell (p:=⟨b,o+i*2+1,none⟩) hl).trans h2,h3⟩)
 have HMK:=I (z3p m.labels OA m.order.length oc m.order W rfl HPW.o)
 go_wp2_with (go_at_call 9;refine HMK.o.mono ?_;rintro e y ⟨hb,hcs⟩;have HY:=I (HB.o.trans (hb.mono HB.o.size));clear hb;obtain⟨-,k,hk,rfl,hl⟩:=hcs.resolve_left (fun h=>h.1 H.o);have HL:=I hl;have HK:=I hk;clear hl hk hcs)
 go_ret2
 refine⟨by rw[HQ.o,← HZ.o];rfl,?_,HY.o⟩
 have hk:=HK.o
 rw[hk]
 show LatR _ _ k (ordOf k m.order)
 rw[HQ.o,← HZ.o]
 exact HL.o
end
section
open Go Go.RowKit P
theorem zcr {m:ModelT} {mb lb n:Nat} {R:Rel} {w0 W u:World} {OA GA VA MA NA:Option Addr} {oc gc vc mc nc cb:Nat} {lv:Value} {L:List zT} (hs:CkS m mb lb n R w0 OA GA VA MA NA oc gc vc mc nc) (hck:Ck 71 37 W u cb (.pointer (some ⟨mb,0,none⟩)) (.pointer (some ⟨lb,0,none⟩)) lv L) (hw:Below w0.heap.size w0 W) (hcb:w0.heap.size<=cb) (hL:L.length<=500) (hfew:m.msgs.length<=100):
  Calls Tryz.prog 23 #[.pointer (some ⟨cb,0,none⟩)] u fun e u'=>e= .returned (.tuple #[])/\∃ lv',Ck 71 37 W u' cb (.pointer (some ⟨mb,0,none⟩)) (.pointer (some ⟨lb,0,none⟩)) lv' (L ++ upto (msgF n R m) m.msgs.length)/\CkStep cb u u' lv lv':=by
 have HS:=I hs
 have HWW:=I hw
 have HCB:=I hcb
 have HLL:=I hL
 have hle2:(m.msgs.length:Int)<=100:=by omega
 obtain⟨-,RA',rc',e1,hrow⟩:=id hs.msgs
 injection e1 with e1 e2 e3
 subst e1 e3
 have HROW:=I hrow
 have HOWN0:Hid (lv.ownBlock≠some u.heap.size):=I fun e=>by have:=z0u hck.own e;omega
 have HWU:Hid (W.heap.size<=u.heap.size):=I hck.step.size
 have HB0:=I (zd u (.map #[] 0))
 have HM0:Hid ((u.alloc (.map #[] 0)).ownsMap Tryz.prog 9 (Go.plainElem Tryz.prog 3) u.heap.size 0 (.map []:DataW Unit)):=I (World.ownsMap_made u _ _ _)
 have HCK0:=I (hck.on HB0.o)
 have HST0:Hid (CkStep cb u (u.alloc (.map #[] 0)) lv lv):=I (CkStep.of HB0.o cb lv)
 have HU1:Hid ((u.alloc (.map #[] 0)).heap.size= u.heap.size+1):=I (by simp)
 have hmm:= @run_makeMap Tryz.prog
 clear hs hw hcb hL hck hrow e2
 go_enter Tryz.func23,Tryz.ntmps23
 go_upto_region 1 with (fail)
 generalize u.alloc (.map #[] 0)= U at*
 have HD0:=I (CkD.of HCK0.o HWW.o HCB.o)
 have d0:=HD0.o.c0
 have d3:=HS.o.cell HD0.o.bel (j:=4) rfl
 go_wp2
 clear d0 d3
 go_loopg [14] m.msgs.length (fun q y z=>∃ (j:Nat) (lv1:Value) (D:DataW Unit),j+q= m.msgs.length/\y= .int .i64 j/\Ck 71 37 W z cb (.pointer (some ⟨mb,0,none⟩)) (.pointer (some ⟨lb,0,none⟩)) lv1 (L ++ upto (msgF n R m) j)/\CkStep cb u z lv lv1/\z.ownsMap Tryz.prog 9 (Go.plainElem Tryz.prog 3) u.heap.size j D/\CntMap D ((m.msgs.take j).map (·.name.data.toList))/\lv1.ownBlock≠some u.heap.size/\u.heap.size < z.heap.size)
 case atStart=>exact⟨0,lv,_,by omega,rfl,by rw[z2K,List.append_nil];exact HCK0.o,HST0.o,HM0.o,by simpa using z6l,HOWN0.o,by have:=HU1.o;omega⟩
 case round=>
  obtain⟨j,lv1,D,hj,rfl,hck,hst,hmp,hcn,hon,hlt0⟩:=hrel
  have HCK:=I hck
  have HST:=I hst
  have HMP:=I hmp
  have HCN:=I hcn
  have HON:=I hon
  have HMZ:=I hlt0
  clear hck hst hmp hcn hon hlt0
  obtain⟨z,hz⟩:∃ z,z= wr:=⟨_,rfl⟩
  subst hz
  cases gk with
  |zero=>
   obtain rfl:j= m.msgs.length:=by omega
   have hge: ¬ ((m.msgs.length:Int) <(m.msgs.length:Int)):=by omega
   go_wp2
   refine bodyPost_end (results_none rfl _ _ _) rfl ?_
   exact⟨rfl,lv1,HCK.o,HST.o⟩
  |succ g=>
   have hlt:(j:Int) <(m.msgs.length:Int):=by omega
   have ilt:j < m.msgs.length:=by omega
   obtain⟨x,hx⟩:∃ x,m.msgs[j]?= some x:=⟨_,List.getElem?_eq_getElem ilt⟩
   obtain⟨rb,ro,rfl,hrl,hc⟩:=HROW.o (by omega)
   obtain⟨ks,hkl,hks,hkx⟩:=hc j x hx
   have HD:=I (CkD.of HCK.o HWW.o HCB.o)
   have HKR:Hid (z.rangeAt rb (ro+j*8) ks):=I (zc hks HD.o.bel hrl)
   have HKL:=I hkl
   obtain⟨ct,cd,rfl,hctl,hcil,htt,hti⟩:=hkx.ex
   have HNS:=I hkx.name
   have HK0:Hid (([.string x.name,.int .i64 x.label] ++ ct ++ cd:List Value)[0]?= some (.string x.name)):=I rfl
   have HKO:Hid (∀ v∈([.string x.name,.int .i64 x.label] ++ ct ++ cd:List Value),v.oneCell'= true):=I (by
    intro v hv
    rcases List.mem_append.1 hv with hv|hv
    ·rcases List.mem_append.1 hv with hv|hv
     ·simp only[List.mem_cons,List.not_mem_nil,or_false] at hv
      rcases hv with rfl|rfl<;>rfl
     ·exact(zk htt).2 v hv
    ·exact(zk hti).2 v hv)
   have HLT:=I hctl
   have HLI:=I hcil
   have HTT:=I htt
   have HTI:=I hti
   clear hctl hcil htt hti
   have HX:=I hx
   clear hc hkl hks hkx hrl hx
   go_upto_region 4 with (first|((with_reducible refine za 65 _ rfl ?_ (rb) (ro+j*8) ([.string x.name,.int .i64 x.label] ++ ct ++ cd) _ rfl HKR.o Tryz.underlying65 rfl ?_ ?_);(exact wA rfl);rw[HKL.o];kernel_rfl)|((with_reducible refine zJ 65 _ _ rfl ?hwx10 z ?zz10 ([.string x.name,.int .i64 x.label] ++ ct ++ cd) ?hwld10 ?hz10 ?hx10 ?hy10 ?hi10 ?h110 ?_);(case hwld10=>rfl);(case hx10=>rfl);(case hy10=>rfl);(case hwx10=>(exact wA rfl));(case hz10=>rw[HKL.o];rfl);(case hi10=>rw[HKL.o];kernel_rfl);(case h110=>exact HKO.o);intro Z1 hZ;have HX1:=I hZ;clear hZ))
   have HB1:=I HX1.o.below
   have HR1:=I HX1.o.range
   have HQZ:=I HX1.o.size
   obtain⟨q4,hq4⟩:∃ q,z.heap.size= q:=⟨_,rfl⟩
   have HQE:=I hq4
   rw[hq4] at HR1 HQZ
   rw[hq4]
   clear hq4
   have HM1:=I (z2V HMP.o (HB1.o.block u.heap.size HMZ.o))
   have HAT:=I (HCN.o.2 x.name.data.toList)
   obtain⟨c,hc⟩:∃ c:Nat,cntN ((m.msgs.take j).map (·.name.data.toList)) x.name.data.toList= c:=⟨_,rfl⟩
   have HCE:=I hc
   have hcle:c<=100:=by have h:=z8Z ((m.msgs.take j).map (·.name.data.toList)) x.name.data.toList;rw[List.length_map,List.length_take] at h;omega
   have HJL:Hid (j < maxLen):=I (by unfold maxLen;omega)
   rw[hc] at HAT
   have HPUT0:=I (HCN.o.put x.name.data.toList ((c:Int)+1) (by rw[hc]))
   have hB0:msgB n R m j x=(decide (cntN ((m.msgs.take (j+1)).map (·.name.data.toList)) x.name.data.toList= 1) && (nameW x.name && (lqI n R x.label x.label && (z0j x.key && z0j x.body)))):=rfl
   have hct:cntN ((m.msgs.take (j+1)).map (·.name.data.toList)) x.name.data.toList= c+1:=by
    rw[List.take_add_one,HX.o,List.map_append]
    show cntN (_ ++ [x.name.data.toList]) _= _
    rw[z1A,if_pos rfl,hc]
   have hwr:IntKind.i64.wrap ((c:Int)+1)=(c:Int)+1:=by rw[IntKind.wrap_i64];omega
   have hpe0:(Lit.int .i64 ((c:Int)+1)).wf= true:=by
    have:=wrap64_wf ((c+1:Nat):Int)
    rw[Go.IntWalk.wrap64_in _ (by omega)] at this
    exact this
   rw[hct] at hB0
   have hct2:decide (c+1= 1)= decide ((c:Int)+1= 1):=decide_eq_decide.2 ⟨fun h=>by omega,fun h=>by omega⟩
   rw[hct2] at hB0
   obtain⟨C,hC⟩:∃ C:Int,(c:Int)+1= C:=⟨_,rfl⟩
   rw[hC] at hwr hpe0 hB0 HPUT0
   have hpe:Go.plainElem Tryz.prog 3 (.int .i64 C)= some ((.lit (.int .i64 C):DataW Unit),[]):=plainElem_int Tryz.underlying3 hpe0
   have HPE:=I hpe
   have HKS:Hid (keyOf Tryz.prog 9 (.string x.name)= some (.string x.name.data.toList)):=I (keySt x.name HNS.o)
   have HAT2:Hid ((D.put (.string x.name.data.toList) (.lit (.int .i64 C))).atKey (.string x.name.data.toList) (.lit (.int .i64 0))= .lit (.int .i64 C)):=I (by
    rw[HPUT0.o.2,z1A,if_pos rfl,hc,← hC];rfl)
   have HPUT:Hid (CntMap (D.put (.string x.name.data.toList) (.lit (.int .i64 C))) ((m.msgs.take (j+1)).map (·.name.data.toList))):=I (by
    rw[List.take_add_one,HX.o,List.map_append];exact HPUT0.o)
   obtain⟨D2,hD2⟩:∃ D2,D.put (.string x.name.data.toList) (.lit (.int .i64 C))= D2:=⟨_,rfl⟩
   have HD2E:=I hD2
   rw[hD2] at HAT2 HPUT
   have s0:Z1.cell? ⟨q4,0,none⟩= some (.string x.name):=HR1.o 0 _ HK0.o
   clear hc hpe hpe0 hD2 hct hct2 HPUT0
   go_upto_region 5 with (first|((with_reducible refine z1e _ _ 97 rfl ?_ 9 3 lawSt Tryz.underlying97 Tryz.underlying3 (z2Y _) u.heap.size j D rfl HM1.o (.string x.name) (.string x.name.data.toList) rfl HKS.o c HAT.o ?_);(exact wA rfl))|(at_mapUpdate;refine wpList_mapUpdate_own _ rfl _ _ _ 97 rfl 9 3 lawSt Tryz.underlying97 _ u.heap.size j _ rfl HM1.o HJL.o _ _ _ rfl rfl HKS.o _ [] HPE.o ?_;intro Z2 hown2 hgrow2;have HM2:=I hown2;have HG2:=I hgrow2;clear hown2 hgrow2))
   clear s0
   have HM2':Hid (Z2.ownsMap Tryz.prog 9 (Go.plainElem Tryz.prog 3) u.heap.size (j+1) D2):=I (by have h:=HM2.o;rw[HD2E.o] at h;exact h)
   have HC2:=I (HCK.o.map HB1.o HG2.o HWU.o HON.o)
   have HS2:=I (HST.o.map HB1.o HG2.o (Nat.le_refl _))
   have HMZ2:Hid (u.heap.size < Z2.heap.size):=I (by have h1:=HMZ.o;have h2:=HB1.o.size;have h3:=HG2.o.size;omega)
   have HR2:Hid (∀ y,Below Z2.heap.size Z2 y->y.rangeAt q4 0 ([.string x.name,.int .i64 x.label] ++ ct ++ cd)):=I fun y hy=>by
    have h1:=HQZ.o
    have h2:=HG2.o.size
    have h3:=HMZ.o
    have h4:=HQE.o
    exact z2C (z2C HR1.o (HG2.o.block q4 h1 (by intro e;injection e with e;omega))) (hy.block q4 (by omega))
   have HRA:Hid (∀ y,Below Z2.heap.size Z2 y->y.rangeAt q4 2 ct):=I fun y hy=>z2e (HR2.o y hy) rfl 2 rfl
   have HRB:Hid (∀ y,Below Z2.heap.size Z2 y->y.rangeAt q4 5 cd):=I fun y hy=>z2e (r:=[]) (HR2.o y hy) (List.append_nil _).symm 5 (by simp[HLT.o])
   have HDZ:Hid (∀ y,Below Z2.heap.size Z2 y->CkD mb lb w0 cb y):=I fun y hy=>CkD.of (HC2.o.on hy) HWW.o HCB.o
   have HGA:=I (fun y (hy:Below Z2.heap.size Z2 y)=>z1i x.key ct y ((HTT.o.under (HDZ.o y hy).bel).more (HDZ.o y hy).bel.size))
   have HFA:=I (fun y (hy:Below Z2.heap.size Z2 y)=>z1i x.body cd y ((HTI.o.under (HDZ.o y hy).bel).more (HDZ.o y hy).bel.size))
   have HNA:=I (z6F x.name Z2)
   have HLA:=I (fun y (hy:Below Z2.heap.size Z2 y)=>z1b HS.o (HDZ.o y hy) x.label)
   obtain⟨B,hB⟩:∃ B,msgB n R m j x= B:=⟨_,rfl⟩
   have HLE:Hid ((L ++ upto (msgF n R m) j).length<=1000):=I (by
    have h1:=z0A (z4O n R m) j
    have h2:=HLL.o
    rw[List.length_append];omega)
   have HFE:Hid (L ++ upto (msgF n R m) j ++ putF B 3 j= L ++ upto (msgF n R m) (j+1)):=I (by
    have:msgF n R m j= putF B 3 j:=by
     show(match m.msgs[j]? with|none=>[]|some v=>putF (msgB n R m j v) 3 j)= _
     rw[HX.o,← hB]
    rw[z21,List.append_assoc,this])
   have HPT:Hid (∀ y,Below Z2.heap.size Z2 y->Calls Tryz.prog 21 #[.pointer (some ⟨cb,0,none⟩),.bool B,.int .i64 3,.int .i64 j] y fun e u'=>e= .returned (.tuple #[])/\∃ lv',Ck 71 37 W u' cb (.pointer (some ⟨mb,0,none⟩)) (.pointer (some ⟨lb,0,none⟩)) lv' (L ++ upto (msgF n R m) (j+1))/\CkStep cb y u' lv1 lv'):=I fun y hy=>by
    rw[← HFE.o]
    cases B with
    |false=>exact z3W (HC2.o.on hy) HLE.o 3 j
    |true=>
     refine(z5Z cb 3 j y).mono ?_
     rintro e u' ⟨rfl,rfl⟩
     exact⟨rfl,lv1,by show Ck _ _ _ _ _ _ _ _ (L ++ upto (msgF n R m) j ++ []);rw[List.append_nil];exact HC2.o.on hy,CkStep.refl _ _ _⟩
   have HREL:Hid (∀ y u' lv',Below Z2.heap.size Z2 y->Ck 71 37 W u' cb (.pointer (some ⟨mb,0,none⟩)) (.pointer (some ⟨lb,0,none⟩)) lv' (L ++ upto (msgF n R m) (j+1))->CkStep cb y u' lv1 lv'->CkStep cb u u' lv lv'/\u'.ownsMap Tryz.prog 9 (Go.plainElem Tryz.prog 3) u.heap.size (j+1) D2/\CntMap D2 ((m.msgs.take (j+1)).map (·.name.data.toList))/\lv'.ownBlock≠some u.heap.size/\u.heap.size < u'.heap.size):=I fun y u' lv' hy hck hst=>by
    have h1:=HMZ2.o
    have h2:=hy.size
    have h3:=hst.size
    have h4:=HCK.o.lt
    have h5:=HWU.o
    exact⟨(HS2.o.trans (CkStep.of hy cb lv1)).trans hst,z2V (z2V HM2'.o (hy.block _ h1)) (hst.block _ (by omega) (by omega) (fun e=>HON.o e.symm)),HPUT.o,hst.fresh (by omega) HON.o,by omega⟩
   have HBV:Hid (B=(decide (C= 1) && (nameW x.name && (lqI n R x.label x.label && (z0j x.key && z0j x.body))))):=I (by rw[← hB,hB0])
   clear hB hB0 hC
   obtain⟨b0,hb0⟩:∃ b,decide (C= 1)= b:=⟨_,rfl⟩
   obtain⟨b1,hb1⟩:∃ b,nameW x.name= b:=⟨_,rfl⟩
   obtain⟨b2,hb2⟩:∃ b,lqI n R x.label x.label= b:=⟨_,rfl⟩
   obtain⟨b3,hb3⟩:∃ b,z0j x.key= b:=⟨_,rfl⟩
   obtain⟨b4,hb4⟩:∃ b,z0j x.body= b:=⟨_,rfl⟩
   rw[hb0,hb1,hb2,hb3,hb4] at HBV
   rw[hb1] at HNA
   rw[hb2] at HLA
   rw[hb3] at HGA
   rw[hb4] at HFA
   clear hb1 hb2 hb3 hb4
   have s0:Z2.cell? ⟨q4,0,none⟩= some (.string x.name):=HR2.o Z2 (Below.refl _ _) 0 _ rfl
   cases b0 with
   |false=>
    have q1:(C ==1)= false:=by rw[beq_eq_false_iff_ne];exact of_decide_eq_false hb0
    obtain rfl:B= false:=HBV.o
    clear hb0
    go_wp2_with (first|((with_reducible refine z1e _ _ 97 rfl ?_ 9 3 lawSt Tryz.underlying97 Tryz.underlying3 (z2Y _) u.heap.size (j+1) D2 rfl HM2'.o (.string x.name) (.string x.name.data.toList) rfl HKS.o _ HAT2.o ?_);(exact wA rfl))|(go_at_call 21;(with_reducible refine(HPT.o _ (Below.refl _ _)).mono ?_);rintro e y9 ⟨rfl,lv9,hk1,hk2⟩;have HK1:=I hk1;have HK2:=I hk2;have HRZ:=I (HREL.o _ _ _ (Below.refl _ _) hk1 hk2);clear hk1 hk2))
    go_roundg g
    case measure=>omega
    case rel=>exact⟨j+1,lv9,D2,by omega,by go_num,HK1.o,HRZ.o⟩
   |true=>
   obtain rfl:C= 1:=of_decide_eq_true hb0
   clear hb0
   rcases sc3 b1 b2 b3 with rfl|⟨rfl,rfl⟩|⟨rfl,rfl,rfl⟩|⟨rfl,rfl,rfl⟩
   all_goals
    first|obtain rfl:B= false:=HBV.o|obtain rfl:B= b4:=HBV.o
    go_wp2_with (first|((with_reducible refine z1e _ _ 97 rfl ?_ 9 3 lawSt Tryz.underlying97 Tryz.underlying3 (z2Y _) u.heap.size (j+1) D2 rfl HM2'.o (.string x.name) (.string x.name.data.toList) rfl HKS.o _ HAT2.o ?_);(exact wA rfl))|(go_at_call 42;refine(HNA.o).mono ?_;rintro e y1 ⟨rfl,hb⟩;have HY1:=I hb;have d1:=HR2.o _ HY1.o 1 _ rfl;clear hb)|(go_at_call 24;refine(HLA.o _ HY1.o).mono ?_;rintro e z5 ⟨rfl,hzw⟩;rw[hzw];clear hzw z5)|((with_reducible refine za 41 _ rfl ?_ (q4) (2) (ct) _ rfl (HRA.o _ HY1.o) Tryz.underlying41 rfl ?_ ?_);(exact wA rfl);rw[HLT.o];kernel_rfl)|((with_reducible refine za 41 _ rfl ?_ (q4) (2) (ct) _ rfl (HRA.o _ HY2.o) Tryz.underlying41 rfl ?_ ?_);(exact wA rfl);rw[HLT.o];kernel_rfl)|((with_reducible refine za 41 _ rfl ?_ (q4) (5) (cd) _ rfl (HRB.o _ HY2.o) Tryz.underlying41 rfl ?_ ?_);(exact wA rfl);rw[HLI.o];kernel_rfl)|(go_at_call 11;with_reducible refine(HGA.o _ HY1.o).mono ?_;rintro e y2 ⟨rfl,hb⟩;have HY2:=I (HY1.o.trans (hb.mono HY1.o.size));clear hb)|(go_at_call 11;with_reducible refine(HFA.o _ HY2.o).mono ?_;rintro e y3 ⟨rfl,hb⟩;have HY3:=I (HY2.o.trans (hb.mono HY2.o.size));clear hb)|(go_at_call 21;(with_reducible refine(HPT.o _ HY3.o).mono ?_);rintro e y9 ⟨rfl,lv9,hk1,hk2⟩;have HK1:=I hk1;have HK2:=I hk2;have HRZ:=I (HREL.o _ _ _ HY3.o hk1 hk2);clear hk1 hk2)|(go_at_call 21;(with_reducible refine(HPT.o _ HY2.o).mono ?_);rintro e y9 ⟨rfl,lv9,hk1,hk2⟩;have HK1:=I hk1;have HK2:=I hk2;have HRZ:=I (HREL.o _ _ _ HY2.o hk1 hk2);clear hk1 hk2)|(go_at_call 21;(with_reducible refine(HPT.o _ HY1.o).mono ?_);rintro e y9 ⟨rfl,lv9,hk1,hk2⟩;have HK1:=I hk1;have HK2:=I hk2;have HRZ:=I (HREL.o _ _ _ HY1.o hk1 hk2);clear hk1 hk2))
    go_roundg g
    case measure=>omega
    case rel=>exact⟨j+1,lv9,D2,by omega,by go_num,HK1.o,HRZ.o⟩
end
section
open Go Go.RowKit P
theorem zcT (m:ModelT) (mcs:List Value) (w:World) (hm:ModelAt w w.heap.size mcs m) (htab:TabP w) (h:makeE m.labels m.order≠0):
  Calls Tryz.prog 8 #[.agg ⟨mcs⟩] w fun e w'=>∃ lv,e= .returned lv/\OwnSl 37 2 encF w' w.heap.size lv [(1, -1)]/\Below w.heap.size w w':=by
 obtain⟨OA,GA,VA,MA,NA,oc,gc,vc,mc,nc,rfl,ho,hg,hv,hms,hn⟩:=z1h hm
 have HM:=I hm
 have HALL:=I (And.intro hg (And.intro hv (And.intro hms hn)))
 have HB:=I (zd w (.cells ⟨zH m OA GA VA MA NA oc gc vc mc nc⟩ 27))
 have HW:=I (Whole.new w (zH m OA GA VA MA NA oc gc vc mc nc) 27)
 have HZ:Hid ((w.alloc (.cells ⟨zH m OA GA VA MA NA oc gc vc mc nc⟩ 27)).heap.size= w.heap.size+1):=I (by simp)
 have H:=I h
 have HTB:=I htab
 clear hm ho hg hv hms hn h htab
 go_enter Tryz.func8,Tryz.ntmps8
 go_upto_region 1 with (fail)
 generalize w.alloc (.cells ⟨zH m OA GA VA MA NA oc gc vc mc nc⟩ 27)= W at*
 have HLT:=I (zeR m (zH m OA GA VA MA NA oc gc vc mc nc) W ((HM.o.under HB.o).more HB.o.size) H.o)
 have HML:Hid ((zH m OA GA VA MA NA oc gc vc mc nc).length= 6):=I rfl
 have HMO:=I (z5x m OA GA VA MA NA oc gc vc mc nc)
 obtain⟨mb,hmb⟩:∃ q,w.heap.size= q:=⟨_,rfl⟩
 have HQ:=I hmb
 rw[hmb] at HW HZ
 rw[hmb]
 clear hmb
 have HWR:=I HW.o.range
 go_upto_region 2 with (first|((with_reducible refine za 27 _ rfl ?_ (mb) (0) (zH m OA GA VA MA NA oc gc vc mc nc) _ rfl HWR.o Tryz.underlying27 rfl ?_ ?_);(exact wA rfl);rw[HML.o];kernel_rfl)|(go_at_call 20;refine HLT.o.mono ?_;rintro e y ⟨rfl,hb⟩;have HY:=I hb;clear hb))
 have HX0:=I (zd y (.cells #[.pointer (some ⟨mb,0,none⟩),.pointer none,.slice none 0 0] 71))
 have HXW0:Hid (Whole 71 (y.alloc (.cells #[.pointer (some ⟨mb,0,none⟩),.pointer none,.slice none 0 0] 71)) y.heap.size [.pointer (some ⟨mb,0,none⟩),.pointer none,.slice none 0 0]):=I (Whole.new y [.pointer (some ⟨mb,0,none⟩),.pointer none,.slice none 0 0] 71)
 go_upto_region 3 with (fail)
 generalize y.alloc (.cells #[.pointer (some ⟨mb,0,none⟩),.pointer none,.slice none 0 0] 71)= X at*
 obtain⟨cb,hcb⟩:∃ q,y.heap.size= q:=⟨_,rfl⟩
 have HXW:=HXW0
 have HCE:=I hcb
 rw[hcb] at HXW
 rw[hcb]
 clear hcb HXW0
 have HBX:=I (HX0.o)
 have HWY:Hid (Below w.heap.size w y):=I (HB.o.trans (HY.o.mono HB.o.size))
 have HWX:Hid (Below w.heap.size w X):=I (HWY.o.trans (HX0.o.mono HWY.o.size))
 have HCBW:Hid (w.heap.size<=cb):=I (HCE.o▸HWY.o.size)
 have HCK:Hid (Ck 71 37 X X cb (.pointer (some ⟨mb,0,none⟩)) (.pointer none) (.slice none 0 0) []):=I ⟨HXW.o,OwnSl.nil _ _,CkStep.refl _ _ _,HXW.o.lt⟩
 have HEND:Hid (∀ u' lv' L,Ck 71 37 X u' cb (.pointer (some ⟨mb,0,none⟩)) (.pointer none) lv' L->OwnSl 37 2 encF u' w.heap.size lv' L/\Below w.heap.size w u'):=I fun u' lv' L h=>⟨h.own.mono HWX.o.size,HWX.o.trans (h.below HCBW.o)⟩
 have HP:=I (z3W HCK.o (by simp) 1 (-1))
 obtain⟨V,hV⟩:∃ V,makeE m.labels m.order= V:=⟨_,rfl⟩
 rw[hV] at H
 (try rw[hV])
 have q0:(V ==0)= false:=by rw[beq_eq_false_iff_ne];exact H.o
 go_wp2_with (go_at_call 21;(with_reducible refine(HP.o).mono ?_);rintro e y9 ⟨rfl,lv9,hk1,hk2⟩;have HK1:=I hk1;have HK2:=I hk2;have dk:=HK1.o.cells.1 2 _ rfl;clear hk1 hk2)
 go_ret
 exact⟨lv9,rfl,(HEND.o _ _ _ HK1.o).1,(HEND.o _ _ _ HK1.o).2⟩
theorem zd8 (m:ModelT) (mcs:List Value) (w:World) (hm:ModelAt w w.heap.size mcs m) (htab:TabP w) (h:makeE m.labels m.order= 0):
  Calls Tryz.prog 8 #[.agg ⟨mcs⟩] w fun e w'=>∃ lv,e= .returned lv/\OwnSl 37 2 encF w' w.heap.size lv (z0f m.labels.toNat (ordOf m.labels.toNat m.order) m (zM m))/\Below w.heap.size w w':=by
 obtain⟨OA,GA,VA,MA,NA,oc,gc,vc,mc,nc,rfl,ho,hg,hv,hms,hn⟩:=z1h hm
 have HM:=I hm
 have HALL:=I (And.intro hg (And.intro hv (And.intro hms hn)))
 have HB:=I (zd w (.cells ⟨zH m OA GA VA MA NA oc gc vc mc nc⟩ 27))
 have HW:=I (Whole.new w (zH m OA GA VA MA NA oc gc vc mc nc) 27)
 have HZ:Hid ((w.alloc (.cells ⟨zH m OA GA VA MA NA oc gc vc mc nc⟩ 27)).heap.size= w.heap.size+1):=I (by simp)
 have H:=I h
 have HTB:=I htab
 clear hm ho hg hv hms hn h htab
 go_enter Tryz.func8,Tryz.ntmps8
 go_upto_region 1 with (fail)
 generalize w.alloc (.cells ⟨zH m OA GA VA MA NA oc gc vc mc nc⟩ 27)= W at*
 have HLT:=I (zeg m (zH m OA GA VA MA NA oc gc vc mc nc) W ((HM.o.under HB.o).more HB.o.size) H.o)
 have HML:Hid ((zH m OA GA VA MA NA oc gc vc mc nc).length= 6):=I rfl
 have HMO:=I (z5x m OA GA VA MA NA oc gc vc mc nc)
 obtain⟨mb,hmb⟩:∃ q,w.heap.size= q:=⟨_,rfl⟩
 have HQ:=I hmb
 rw[hmb] at HW HZ
 rw[hmb]
 clear hmb
 have HWR:=I HW.o.range
 go_upto_region 2 with (first|((with_reducible refine za 27 _ rfl ?_ (mb) (0) (zH m OA GA VA MA NA oc gc vc mc nc) _ rfl HWR.o Tryz.underlying27 rfl ?_ ?_);(exact wA rfl);rw[HML.o];kernel_rfl)|(go_at_call 20;refine HLT.o.mono ?_;rintro e y ⟨rfl,hl,hb⟩;have HY:=I hb;have HL:=I hl;clear hl;clear hb))
 obtain⟨lb,hlb⟩:∃ q,W.heap.size+1= q:=⟨_,rfl⟩
 rw[hlb] at HL
 rw[hlb]
 clear hlb
 have HX0:=I (zd y (.cells #[.pointer (some ⟨mb,0,none⟩),.pointer (some ⟨lb,0,none⟩),.slice none 0 0] 71))
 have HXW0:Hid (Whole 71 (y.alloc (.cells #[.pointer (some ⟨mb,0,none⟩),.pointer (some ⟨lb,0,none⟩),.slice none 0 0] 71)) y.heap.size [.pointer (some ⟨mb,0,none⟩),.pointer (some ⟨lb,0,none⟩),.slice none 0 0]):=I (Whole.new y [.pointer (some ⟨mb,0,none⟩),.pointer (some ⟨lb,0,none⟩),.slice none 0 0] 71)
 go_upto_region 3 with (fail)
 generalize y.alloc (.cells #[.pointer (some ⟨mb,0,none⟩),.pointer (some ⟨lb,0,none⟩),.slice none 0 0] 71)= X at*
 obtain⟨cb,hcb⟩:∃ q,y.heap.size= q:=⟨_,rfl⟩
 have HXW:=HXW0
 have HCE:=I hcb
 rw[hcb] at HXW
 rw[hcb]
 clear hcb HXW0
 have HBX:=I (HX0.o)
 have HWY:Hid (Below w.heap.size w y):=I (HB.o.trans (HY.o.mono HB.o.size))
 have HWX:Hid (Below w.heap.size w X):=I (HWY.o.trans (HX0.o.mono HWY.o.size))
 have HCBW:Hid (w.heap.size<=cb):=I (HCE.o▸HWY.o.size)
 have HCK:Hid (Ck 71 37 X X cb (.pointer (some ⟨mb,0,none⟩)) (.pointer (some ⟨lb,0,none⟩)) (.slice none 0 0) []):=I ⟨HXW.o,OwnSl.nil _ _,CkStep.refl _ _ _,HXW.o.lt⟩
 have HEND:Hid (∀ u' lv' L,Ck 71 37 X u' cb (.pointer (some ⟨mb,0,none⟩)) (.pointer (some ⟨lb,0,none⟩)) lv' L->OwnSl 37 2 encF u' w.heap.size lv' L/\Below w.heap.size w u'):=I fun u' lv' L h=>⟨h.own.mono HWX.o.size,HWX.o.trans (h.below HCBW.o)⟩
 have HP7:=I (z3W HCK.o (by simp) 7 (-1))
 have HRX:Hid (∀ z,Below y.heap.size y z->z.rangeAt mb 0 (zH m OA GA VA MA NA oc gc vc mc nc)):=I fun z hz=>zc (zc HW.o.range HY.o HW.o.lt) hz (Nat.lt_of_lt_of_le HW.o.lt HY.o.size)
 have d2:X.cell? ⟨mb,2,none⟩= some (.slice GA m.grants.length gc):=HRX.o X HX0.o 2 _ rfl
 have d3:X.cell? ⟨mb,3,none⟩= some (.slice VA m.vars.length vc):=HRX.o X HX0.o 3 _ rfl
 have d4:X.cell? ⟨mb,4,none⟩= some (.slice MA m.msgs.length mc):=HRX.o X HX0.o 4 _ rfl
 have d5:X.cell? ⟨mb,5,none⟩= some (.slice NA m.nodes.length nc):=HRX.o X HX0.o 5 _ rfl
 have HSZ:Hid True:=I trivial
 (try rw[H.o])
 by_cases g1:16 < m.vars.length
 ·have t1:decide ((16:Int) <(m.vars.length:Int))= true:=decide_eq_true (by omega)
  have HFL:Hid (z0f m.labels.toNat (ordOf m.labels.toNat m.order) m (zM m)=[(7, -1)]):=I (by unfold z0f;rw[if_neg];unfold sizeB;simp;omega)
  clear HSZ
  go_wp2_with (go_at_call 21;(with_reducible refine(HP7.o).mono ?_);rintro e y9 ⟨rfl,lv9,hk1,hk2⟩;have HK1:=I hk1;have HK2:=I hk2;have dk:=HK1.o.cells.1 2 _ rfl;clear hk1 hk2)
  go_ret
  exact⟨lv9,rfl,by rw[HFL.o];exact(HEND.o _ _ _ HK1.o).1,(HEND.o _ _ _ HK1.o).2⟩
 have t1:decide ((16:Int) <(m.vars.length:Int))= false:=decide_eq_false (by omega)
 by_cases g2:8 < m.msgs.length
 ·have t2:decide ((8:Int) <(m.msgs.length:Int))= true:=decide_eq_true (by omega)
  have HFL:Hid (z0f m.labels.toNat (ordOf m.labels.toNat m.order) m (zM m)=[(7, -1)]):=I (by unfold z0f;rw[if_neg];unfold sizeB;simp;omega)
  clear HSZ
  go_wp2_with (go_at_call 21;(with_reducible refine(HP7.o).mono ?_);rintro e y9 ⟨rfl,lv9,hk1,hk2⟩;have HK1:=I hk1;have HK2:=I hk2;have dk:=HK1.o.cells.1 2 _ rfl;clear hk1 hk2)
  go_ret
  exact⟨lv9,rfl,by rw[HFL.o];exact(HEND.o _ _ _ HK1.o).1,(HEND.o _ _ _ HK1.o).2⟩
 have t2:decide ((8:Int) <(m.msgs.length:Int))= false:=decide_eq_false (by omega)
 by_cases g3:64 < m.grants.length
 ·have t3:decide ((64:Int) <(m.grants.length:Int))= true:=decide_eq_true (by omega)
  have HFL:Hid (z0f m.labels.toNat (ordOf m.labels.toNat m.order) m (zM m)=[(7, -1)]):=I (by unfold z0f;rw[if_neg];unfold sizeB;simp;omega)
  clear HSZ
  go_wp2_with (go_at_call 21;(with_reducible refine(HP7.o).mono ?_);rintro e y9 ⟨rfl,lv9,hk1,hk2⟩;have HK1:=I hk1;have HK2:=I hk2;have dk:=HK1.o.cells.1 2 _ rfl;clear hk1 hk2)
  go_ret
  exact⟨lv9,rfl,by rw[HFL.o];exact(HEND.o _ _ _ HK1.o).1,(HEND.o _ _ _ HK1.o).2⟩
 have t3:decide ((64:Int) <(m.grants.length:Int))= false:=decide_eq_false (by omega)
 by_cases g4:m.nodes.length < 1
 ·have t4:decide ((m.nodes.length:Int) <(1:Int))= true:=decide_eq_true (by omega)
  have HFL:Hid (z0f m.labels.toNat (ordOf m.labels.toNat m.order) m (zM m)=[(7, -1)]):=I (by unfold z0f;rw[if_neg];unfold sizeB;simp;omega)
  clear HSZ
  go_wp2_with (go_at_call 21;(with_reducible refine(HP7.o).mono ?_);rintro e y9 ⟨rfl,lv9,hk1,hk2⟩;have HK1:=I hk1;have HK2:=I hk2;have dk:=HK1.o.cells.1 2 _ rfl;clear hk1 hk2)
  go_ret
  exact⟨lv9,rfl,by rw[HFL.o];exact(HEND.o _ _ _ HK1.o).1,(HEND.o _ _ _ HK1.o).2⟩
 have t4:decide ((m.nodes.length:Int) <(1:Int))= false:=decide_eq_false (by omega)
 by_cases g5:40 < m.nodes.length
 ·have t5:decide ((40:Int) <(m.nodes.length:Int))= true:=decide_eq_true (by omega)
  have HFL:Hid (z0f m.labels.toNat (ordOf m.labels.toNat m.order) m (zM m)=[(7, -1)]):=I (by unfold z0f;rw[if_neg];unfold sizeB;simp;omega)
  clear HSZ
  go_wp2_with (go_at_call 21;(with_reducible refine(HP7.o).mono ?_);rintro e y9 ⟨rfl,lv9,hk1,hk2⟩;have HK1:=I hk1;have HK2:=I hk2;have dk:=HK1.o.cells.1 2 _ rfl;clear hk1 hk2)
  go_ret
  exact⟨lv9,rfl,by rw[HFL.o];exact(HEND.o _ _ _ HK1.o).1,(HEND.o _ _ _ HK1.o).2⟩
 have t5:decide ((40:Int) <(m.nodes.length:Int))= false:=decide_eq_false (by omega)
 have HSB:Hid (sizeB m= true):=I (by unfold sizeB;simp;omega)
 have HS:Hid (CkS m mb lb m.labels.toNat (ordOf m.labels.toNat m.order) y OA GA VA MA NA oc gc vc mc nc):=I (by
  have hb:=HWY.o
  have hs:=hb.size
  obtain⟨hg,hv,hms,hn⟩:=HALL.o
  exact⟨HRX.o y (Below.refl _ _),Nat.lt_of_lt_of_le HW.o.lt HY.o.size,(hg.below hb (fun _ _ _ h=>h)).more hs,((hv.below hb (fun _ _ _ h=>h.under hb)).weak fun _ _ h=>h.more hs).more hs,((hms.below hb (fun _ _ _ h=>h.under hb)).weak fun _ _ h=>h.more hs).more hs,((hn.below hb (fun _ _ _ h=>h.under hb)).weak fun _ _ h=>h.more hs).more hs,HL.o,HTB.o.next hb,by omega,by omega,by omega,by omega⟩)
 have HCY:Hid (y.heap.size<=cb):=I (Nat.le_of_eq HCE.o)
 have HVA:=I (zc3 HS.o HCK.o HX0.o HCY.o (by simp) (by omega))
 have HLV:Hid ((upto (varF m.labels.toNat (ordOf m.labels.toNat m.order) m) m.vars.length).length<=16):=I (Nat.le_trans (z0A (z56 _ _ _) _) (by omega))
 have HLM:Hid ((upto (msgF m.labels.toNat (ordOf m.labels.toNat m.order) m) m.msgs.length).length<=8):=I (Nat.le_trans (z0A (z4O _ _ _) _) (by omega))
 have HLG:Hid (∀ j,j<=m.grants.length->(upto (z0J m.labels.toNat (ordOf m.labels.toNat m.order) m) j).length<=64):=I fun j hj=>Nat.le_trans (z0A (z5k _ _ _) _) (by omega)
 have HMN:Hid (m.msgs.length<=100/\m.nodes.length<=100):=I (by omega)
 clear HSZ HP7
 go_upto_region 11 with (first|(go_at_call 22;refine HVA.o.mono ?_;rintro e u1 ⟨rfl,lv1,hk1,hk2⟩;have HK1:=I hk1;have HMA:=I (zcr HS.o HK1.o HX0.o HCY.o (by have:=HLV.o;simp only[List.nil_append];omega) HMN.o.1);clear hk1 hk2)|(go_at_call 23;refine HMA.o.mono ?_;rintro e u2 ⟨rfl,lv2,hk1,hk2⟩;have HK2:=I hk1;clear hk1 hk2))
 obtain⟨L2,hL2⟩:∃ L2,[] ++ upto (varF m.labels.toNat (ordOf m.labels.toNat m.order) m) m.vars.length ++ upto (msgF m.labels.toNat (ordOf m.labels.toNat m.order) m) m.msgs.length= L2:=⟨_,rfl⟩
 have HL2E:=I hL2
 have HL2:Hid (L2.length<=24):=I (by
  have h1:=HLV.o
  have h2:=HLM.o
  rw[← hL2,List.nil_append,List.length_append];omega)
 rw[hL2] at HK2
 clear hL2 HMA HK1 HVA
 have HD2:=I (CkD.of HK2.o HX0.o HCY.o)
 have d2:u2.cell? ⟨mb,2,none⟩= some (.slice GA m.grants.length gc):=HRX.o u2 HD2.o.bel 2 _ rfl
 go_wp2
 clear d2
 have hg64:(m.grants.length:Int)<=64:=by omega
 obtain⟨-,GA',gc',e1,hrow⟩:=id HS.o.grants
 injection e1 with e1 e2 e3
 subst e1 e3
 have HROW:=I hrow
 clear e2 hrow
 go_loopg [65] m.grants.length (fun q yv z=>∃ (j:Nat) (lv1:Value),j+q= m.grants.length/\yv= .int .i64 j/\Ck 71 37 X z cb (.pointer (some ⟨mb,0,none⟩)) (.pointer (some ⟨lb,0,none⟩)) lv1 (L2 ++ upto (z0J m.labels.toNat (ordOf m.labels.toNat m.order) m) j))
 case atStart=>exact⟨0,lv2,by omega,rfl,by rw[z2K,List.append_nil];exact HK2.o⟩
 case round=>
  obtain⟨j,lv1,hj,rfl,hck⟩:=hrel
  have HCZ:=I hck
  clear hck
  obtain⟨z,hz⟩:∃ z,z= wr:=⟨_,rfl⟩
  subst hz
  cases gk with
  |zero=>
   obtain rfl:j= m.grants.length:=by omega
   have hge: ¬ ((m.grants.length:Int) <(m.grants.length:Int)):=by omega
   have HNO:=I (z9s HS.o HCZ.o HX0.o HCY.o (by have h1:=HL2.o;have h2:=HLG.o m.grants.length (Nat.le_refl _);rw[List.length_append];omega) HMN.o.2)
   have HFE:Hid (L2 ++ upto (z0J m.labels.toNat (ordOf m.labels.toNat m.order) m) m.grants.length ++ upto (nodeF m.labels.toNat (ordOf m.labels.toNat m.order) m (zM m)) m.nodes.length ++ putF (z10 m) 7 (-1)= z0f m.labels.toNat (ordOf m.labels.toNat m.order) m (zM m)):=I (by
    unfold z0f
    rw[if_pos HSB.o,← HL2E.o]
    simp only[List.nil_append,List.append_assoc])
   go_wp2_with (go_at_call 25;refine HNO.o.mono ?_;rintro e y9 ⟨rfl,lv9,hk1,hk2⟩;have HK9:=I hk1;have dk:=HK9.o.cells.1 2 _ rfl;clear hk1 hk2)
   go_ret
   have h:=HEND.o _ _ _ HK9.o
   rw[HFE.o] at h
   exact⟨lv9,rfl,h.1,h.2⟩
  |succ g=>
   have hlt:(j:Int) <(m.grants.length:Int):=by omega
   have hj0:(0:Int)<=(j:Int):=by omega
   have ilt:j < m.grants.length:=by omega
   obtain⟨x,hx⟩:∃ x,m.grants[j]?= some x:=⟨_,List.getElem?_eq_getElem ilt⟩
   obtain⟨gb,go,rfl,hgl,hc⟩:=HROW.o (by omega)
   obtain⟨ks,_,hks,rfl,hw1,hw2⟩:=hc j x hx
   have HX:=I hx
   have HD:=I (CkD.of HCZ.o HX0.o HCY.o)
   have g0:z.cell? ⟨gb,go+j*2,none⟩= some (.int .i64 x.1):=zc hks HD.o.bel hgl 0 _ rfl
   have g1':z.cell? ⟨gb,go+j*2+1,none⟩= some (.int .i64 x.2):=zc hks HD.o.bel hgl 1 _ rfl
   clear hc hks hx hgl
   obtain⟨x1,x2⟩:=x
   simp only at g0 g1' hw1 hw2
   have HBQ:=I (zd z (.cells #[.int .i64 x1,.int .i64 x2] 73))
   have p0:(z.alloc (.cells #[.int .i64 x1,.int .i64 x2] 73)).cell? ⟨z.heap.size,0,none⟩= some (.int .i64 x1):=(Whole.new z [.int .i64 x1,.int .i64 x2] 73).range 0 _ rfl
   have p1:(z.alloc (.cells #[.int .i64 x1,.int .i64 x2] 73)).cell? ⟨z.heap.size,1,none⟩= some (.int .i64 x2):=(Whole.new z [.int .i64 x1,.int .i64 x2] 73).range 1 _ rfl
   go_upto_region 14 with (fail)
   generalize z.alloc (.cells #[.int .i64 x1,.int .i64 x2] 73)= Z at*
   have HCQ:=I (HCZ.o.on HBQ.o)
   have HDQ:=I (CkD.of HCQ.o HX0.o HCY.o)
   have HA1:=I (z1b HS.o HDQ.o x1)
   have HA2:=I (z1b HS.o HDQ.o x2)
   obtain⟨zq,hzq⟩:∃ q,z.heap.size= q:=⟨_,rfl⟩
   rw[hzq] at p0 p1
   rw[hzq]
   clear hzq
   have HGJ:Hid ((z0J m.labels.toNat (ordOf m.labels.toNat m.order) m) j= putF (lqI m.labels.toNat (ordOf m.labels.toNat m.order) x1 x1 && lqI m.labels.toNat (ordOf m.labels.toNat m.order) x2 x2) 4 j):=I (by
    show(match m.grants[j]? with|none=>[]|some g=>putF (lqI m.labels.toNat (ordOf m.labels.toNat m.order) g.1 g.1 && lqI m.labels.toNat (ordOf m.labels.toNat m.order) g.2 g.2) 4 j)= _
    rw[HX.o])
   obtain⟨b1,hb1⟩:∃ b,lqI m.labels.toNat (ordOf m.labels.toNat m.order) x1 x1= b:=⟨_,rfl⟩
   obtain⟨b2,hb2⟩:∃ b,lqI m.labels.toNat (ordOf m.labels.toNat m.order) x2 x2= b:=⟨_,rfl⟩
   rw[hb1] at HA1 HGJ
   rw[hb2] at HA2 HGJ
   have HPT:Hid (Calls Tryz.prog 21 #[.pointer (some ⟨cb,0,none⟩),.bool (b1 && b2),.int .i64 4,.int .i64 j] Z fun e u'=>e= .returned (.tuple #[])/\∃ lv',Ck 71 37 X u' cb (.pointer (some ⟨mb,0,none⟩)) (.pointer (some ⟨lb,0,none⟩)) lv' (L2 ++ upto (z0J m.labels.toNat (ordOf m.labels.toNat m.order) m) (j+1))/\CkStep cb Z u' lv1 lv'):=I (by
    rw[z21,HGJ.o,← List.append_assoc]
    exact z62 HCQ.o (by have h1:=HL2.o;have h2:=HLG.o j (by omega);rw[List.length_append];omega) _ 4 j)
   clear hb1 hb2 g0 g1'
   cases b1 with
   |false=>
    rw[Bool.false_and] at HPT
    go_wp2_with (first|(go_at_call 24;(with_reducible refine(HA1.o).mono ?_);rintro e z5 ⟨rfl,hzw⟩;rw[hzw];clear hzw z5)|(go_at_call 21;(with_reducible refine(HPT.o).mono ?_);rintro e y9 ⟨rfl,lv9,hk1,hk2⟩;have HK1:=I hk1;have HK2:=I hk2;have dk:=HK1.o.cells.1 2 _ rfl;clear hk1 hk2))
    go_roundg g
    case measure=>omega
    case rel=>exact⟨j+1,lv9,by omega,by go_num,HK1.o⟩
   |true=>
    rw[Bool.true_and] at HPT
    go_wp2_with (first|(go_at_call 24;(with_reducible refine(HA1.o).mono ?_);rintro e z5 ⟨rfl,hzw⟩;rw[hzw];clear hzw z5)|(go_at_call 24;(with_reducible refine(HA2.o).mono ?_);rintro e z5 ⟨rfl,hzw⟩;rw[hzw];clear hzw z5)|(go_at_call 21;(with_reducible refine(HPT.o).mono ?_);rintro e y9 ⟨rfl,lv9,hk1,hk2⟩;have HK1:=I hk1;have HK2:=I hk2;have dk:=HK1.o.cells.1 2 _ rfl;clear hk1 hk2))
    go_roundg g
    case measure=>omega
    case rel=>exact⟨j+1,lv9,by omega,by go_num,HK1.o⟩
theorem z2E (m:ModelT) (mcs:List Value) (w:World) (hm:ModelAt w w.heap.size mcs m) (htab:TabP w):
  Calls Tryz.prog 8 #[.agg ⟨mcs⟩] w fun e w'=>∃ lv,e= .returned lv/\OwnSl 37 2 encF w' w.heap.size lv (wellM m (zM m))/\Below w.heap.size w w':=by
 unfold wellM
 by_cases h:makeE m.labels m.order= 0
 ·rw[if_pos h];exact zd8 m mcs w hm htab h
 ·rw[if_neg h];exact zcT m mcs w hm htab h
end
section
open Go Go.RowKit P
def ezC:List Value:=[.int .i64 0,.string ⟨#[]⟩,.int .i64 0,.int .i64 0,.float .f64 0,.string ⟨#[]⟩,.slice none 0 0,.slice none 0 0,.slice none 0 0,.slice none 0 0]
def ndC (k:Int) (s:Value):List Value:=[.int .i64 k,.int .i64 0,s,.slice none 0 0] ++ ezC ++ ezC ++ [.int .i64 (-1),.int .i64 (-1),.int .i64 (-1),.int .i64 0,.int .i64 0]
def plC (v:Value):List Value:=[.int .i64 1,.slice none 0 0,.slice none 0 0,.slice none 0 0,.slice none 0 0,v]
def sl1 (b n:Nat):Value:= .slice (some ⟨b,0,none⟩) n n
def zbh (w:World) (e:Ending) (w':World):Prop:=∃ b1 b2,w.heap.size<=b1/\w.heap.size<=b2/\b1≠b2/\e= .returned (.agg ⟨plC (sl1 b2 2)⟩)/\Whole 3 w' b1 [.int .i64 1]/\Whole 56 w' b2 (ndC 1 (sl1 b1 1) ++ ndC 2 (.slice none 0 0))/\Below w.heap.size w w'
def smW (w:World):World:=((w.alloc (.cells ⟨plC (sl1 (w.heap.size+1+1) 2)⟩ 27)).alloc (.cells ⟨[.int .i64 1]⟩ 3)).alloc (.cells ⟨ndC 1 (sl1 (w.heap.size+1) 1) ++ ndC 2 (.slice none 0 0)⟩ 56)
theorem zdL (w:World):(smW w).cell? ⟨w.heap.size,5,none⟩= some (sl1 (w.heap.size+1+1) 2)/\(smW w).rangeAt w.heap.size 0 (plC (sl1 (w.heap.size+1+1) 2)):=by
 have h1:=Whole.new w (plC (sl1 (w.heap.size+1+1) 2)) 27
 have g2:=zd (w.alloc (.cells ⟨plC (sl1 (w.heap.size+1+1) 2)⟩ 27)) (.cells ⟨[.int .i64 1]⟩ 3)
 have g3:=zd ((w.alloc (.cells ⟨plC (sl1 (w.heap.size+1+1) 2)⟩ 27)).alloc (.cells ⟨[.int .i64 1]⟩ 3)) (.cells ⟨ndC 1 (sl1 (w.heap.size+1) 1) ++ ndC 2 (.slice none 0 0)⟩ 56)
 have h2:=h1.keep (g2.block _ h1.lt)
 have h3:=(h2.keep (g3.block _ h2.lt)).range
 exact⟨h3 5 _ rfl,h3⟩
theorem zdW (w:World):zbh w (.returned (.agg ⟨plC (sl1 (w.heap.size+1+1) 2)⟩)) (smW w):=by
 have g1:=zd w (.cells ⟨plC (sl1 (w.heap.size+1+1) 2)⟩ 27)
 have s1:(w.alloc (.cells ⟨plC (sl1 (w.heap.size+1+1) 2)⟩ 27)).heap.size= w.heap.size+1:=by simp
 unfold smW
 generalize w.alloc (.cells ⟨plC (sl1 (w.heap.size+1+1) 2)⟩ 27)= A at*
 have g2:=zd A (.cells ⟨[.int .i64 1]⟩ 3)
 have h2:=Whole.new A [.int .i64 1] 3
 have s2:(A.alloc (.cells ⟨[.int .i64 1]⟩ 3)).heap.size= A.heap.size+1:=by simp
 generalize A.alloc (.cells ⟨[.int .i64 1]⟩ 3)= B at*
 have g3:=zd B (.cells ⟨ndC 1 (sl1 (w.heap.size+1) 1) ++ ndC 2 (.slice none 0 0)⟩ 56)
 have h3:=Whole.new B (ndC 1 (sl1 (w.heap.size+1) 1) ++ ndC 2 (.slice none 0 0)) 56
 generalize B.alloc (.cells ⟨ndC 1 (sl1 (w.heap.size+1) 1) ++ ndC 2 (.slice none 0 0)⟩ 56)= C at*
 rw[s1] at h2
 rw[s2,s1] at h3
 refine⟨w.heap.size+1,w.heap.size+1+1,by omega,by omega,by omega,rfl,h2.keep (g3.block _ h2.lt),h3,g1.trans ((g2.trans (g3.mono g2.size)).mono g1.size)⟩
theorem z6c (w:World):Calls Tryz.prog 16 #[] w (zbh w):=by
 have HP:=I (zdW w)
 have HC:=I (zdL w)
 go_enter Tryz.func16,Tryz.ntmps16
 go_upto_region 1 with (fail)
 go_wp2
 show bodyPost _ _ _ _ _ (smW w)
 generalize smW w= Z at*
 refine bodyPost_ret (zi rfl Tryz.underlying27 rfl _ _ w.heap.size (plC (sl1 (w.heap.size+1+1) 2)) (by kernel_rfl) rfl HC.o.2) rfl ?_
 exact HP.o
theorem zfr (l:List zT) (v v':Value) (w:World) (hv:SlAt w w.heap.size 2 (Enc encF) v l) (hv':SlAt w w.heap.size 2 (Enc encF) v' l) (hl:l.length<=1000):
  Calls Tryz.prog 17 #[v,v'] w fun e w'=>e= .returned (.bool true)/\Below w.heap.size w w':=by
 obtain⟨-,A,c,rfl,h1⟩:=hv
 obtain⟨-,A',c',rfl,h2⟩:=hv'
 have H1:=I h1
 have H2:=I h2
 have hl2:(l.length:Int)<=1000:=by omega
 clear h1 h2
 go_enter Tryz.func17,Tryz.ntmps17
 go_wp2
 go_loopg [5] l.length (fun g i wr=>∃ k m:Nat,k+g= l.length/\i= .int .i64 k/\wr= w.drewN m)
 case atStart=>exact⟨0,0,by omega,rfl,rfl⟩
 case round=>
  obtain⟨k,m,hk,rfl,rfl⟩:=hrel
  cases gk with
  |zero=>
   have hge: ¬ ((k:Int) <(l.length:Int)):=by omega
   go_wp2
   go_ret
   exact⟨rfl,zj (Below.refl _ w) m⟩
  |succ g=>
   have hlt:(k:Int) <(l.length:Int):=by omega
   have hkn:k < l.length:=by omega
   obtain⟨f,hf⟩:∃ f,l[k]?= some f:=⟨_,List.getElem?_eq_getElem hkn⟩
   obtain⟨b1,o1,rfl,hl1,c1⟩:=H1.o (by omega)
   obtain⟨b2,o2,rfl,hl2,c2⟩:=H2.o (by omega)
   obtain⟨k1,_,hr1,rfl⟩:=c1 k f hf
   obtain⟨k2,_,hr2,rfl⟩:=c2 k f hf
   obtain⟨f0,f1⟩:=f
   obtain⟨wm,hwm⟩:∃ wm,w.drewN m= wm:=⟨_,rfl⟩
   have HBM:Hid (Below w.heap.size w wm):=I (by rw[← hwm];exact zj (Below.refl _ w) m)
   have HDM:Hid (∀ q,∃ m',wm.drewN q= w.drewN m'):=I fun q=>⟨m+q,by rw[← hwm,World.drewN_drewN]⟩
   rw[hwm]
   have d1:wm.cell? ⟨b1,o1+k*2,none⟩= some (.int .i64 f0):=zc hr1 HBM.o hl1 0 _ rfl
   have d2:wm.cell? ⟨b1,o1+k*2+1,none⟩= some (.int .i64 f1):=zc hr1 HBM.o hl1 1 _ rfl
   have d3:wm.cell? ⟨b2,o2+k*2,none⟩= some (.int .i64 f0):=zc hr2 HBM.o hl2 0 _ rfl
   have d4:wm.cell? ⟨b2,o2+k*2+1,none⟩= some (.int .i64 f1):=zc hr2 HBM.o hl2 1 _ rfl
   clear c1 c2 hwm hr1 hr2 hf
   go_upto_region 6 with (fail)
   go_quiet (fail)
   obtain⟨m',hm'⟩:=HDM.o nq
   rw[hm']
   go_wp2
   go_roundg g
   case measure=>omega
   case rel=>exact⟨k+1,_,by omega,by go_num,rfl⟩
end
section
open Go Go.RowKit P
theorem z5Y (v:Value) (h:v.oneCell'= true):∀ u∈plC v,u.oneCell'= true:=by
 intro u hu
 simp only[plC,List.mem_cons,List.not_mem_nil,or_false] at hu
 rcases hu with rfl|rfl|rfl|rfl|rfl|rfl<;>first|rfl|exact h
theorem z2S {u:World} {k:Int} {s:Value} {nx:List Int} (hk:wfI k) (hs:SlAt u u.heap.size 1 IntR s nx):NodeAt u u.heap.size (ndC k s) (nd14 k nx):=
 ⟨⟨s,.slice none 0 0,ezC,ezC,rfl,rfl,rfl,hs,SlAt.nil _ _ _ _,Nat.zero_le _,ez_at _ _,ez_at _ _⟩,hk,zx 0 (by decide +kernel),zx (-1) (by decide +kernel),zx (-1) (by decide +kernel),zx (-1) (by decide +kernel),zx 0 (by decide +kernel),zx 0 (by decide +kernel)⟩
theorem one14 {u:World} {b:Nat} {x:Int} (hx:wfI x) (hr:u.rangeAt b 0 [.int .i64 x]) (hb:b < u.heap.size):SlAt u u.heap.size 1 IntR (sl1 b 1) [x]:=by
 refine⟨by simp,_,_,rfl,fun _=>⟨b,0,rfl,hb,fun i y hy=> ?_⟩⟩
 have hi:i= 0:=by have:=(List.getElem?_eq_some_iff.1 hy).1;simp at this;exact this
 subst hi
 injection hy with hy
 subst hy
 exact⟨[.int .i64 x],rfl,by rw[Nat.zero_mul];exact hr,rfl,hx⟩
theorem z7w {u:World} {l:List NodeT} {v:Value} (h:SlAt u u.heap.size 29 (NodeAt u u.heap.size) v l):ModelAt u u.heap.size (plC v) (m14 l):=
 ⟨⟨.slice none 0 0,.slice none 0 0,.slice none 0 0,.slice none 0 0,v,rfl,SlAt.nil _ _ _ _,SlAt.nil _ _ _ _,SlAt.nil _ _ _ _,SlAt.nil _ _ _ _,h⟩,zx 1 (by decide +kernel)⟩
theorem two14 {u:World} {b:Nat} {x y:NodeT} {cx cy:List Value} (hr:u.rangeAt b 0 (cx ++ cy)) (hb:b < u.heap.size) (h1:cx.length= 29) (h2:cy.length= 29) (hx:NodeAt u u.heap.size cx x) (hy:NodeAt u u.heap.size cy y):SlAt u u.heap.size 29 (NodeAt u u.heap.size) (sl1 b 2) [x,y]:=by
 refine⟨by simp,_,_,rfl,fun _=>⟨b,0,rfl,hb,fun i z hz=> ?_⟩⟩
 match i,hz with
 |0,hz=>
  injection hz with hz
  subst hz
  exact⟨cx,h1,fun j v hv=>by
   have:=hr j v (by rw[List.getElem?_append_left (List.getElem?_eq_some_iff.1 hv).1];exact hv)
   rwa [Nat.zero_mul,Nat.add_zero],hx⟩
 |1,hz=>
  injection hz with hz
  subst hz
  exact⟨cy,h2,fun j v hv=>by
   have:=hr (29+j) v (by rw[List.getElem?_append_right (by omega),h1,show 29+j - 29= j by omega];exact hv)
   rwa [show 0+ (29+j)= 0+1*29+j by omega] at this,hy⟩
 |i+2,hz=>simp at hz
theorem zfE {u:World} {b:Nat} {y:NodeT} {cx cy:List Value} (hr:u.rangeAt b 0 (cx ++ cy)) (hb:b < u.heap.size) (h1:cx.length= 29) (h2:cy.length= 29) (hy:NodeAt u u.heap.size cy y):SlAt u u.heap.size 29 (NodeAt u u.heap.size) (.slice (some ⟨b,29,none⟩) 1 1) [y]:=by
 refine⟨by simp,_,_,rfl,fun _=>⟨b,29,rfl,hb,fun i z hz=> ?_⟩⟩
 have hi:i= 0:=by have:=(List.getElem?_eq_some_iff.1 hz).1;simp at this;exact this
 subst hi
 injection hz with hz
 subst hz
 exact⟨cy,h2,fun j v hv=>by
  have:=hr (29+j) v (by rw[List.getElem?_append_right (by omega),h1,show 29+j - 29= j by omega];exact hv)
  rwa [show 0+ (29+j)= 29+0*29+j by omega] at this,hy⟩
theorem Whole.put14 {T:TypeId} {w:World} {b:Nat} {cs:List Value} (h:Whole T w b cs) (i:Nat) (v:Value):Whole T (w.setCell ⟨b,i,none⟩ v) b (cs.set i v):=by
 unfold Whole at h ⊢
 simp[World.setCell,Array.getElem?_modify,h]
theorem z9g {y:World} {base:Nat} {lv:Value} {f0 f1:Int} (h:OwnSl 37 2 encF y base lv [(f0,f1)]):
  Calls Tryz.prog 17 #[lv,.slice (some ⟨y.heap.size,0,none⟩) 1 1] (y.alloc (.cells #[.int .i64 f0,.int .i64 f1] 37)) fun e w'=>e= .returned (.bool true)/\Below y.heap.size y w':=by
 have g:=zd y (.cells #[.int .i64 f0,.int .i64 f1] 37)
 have hw:Whole 37 (y.alloc (.cells #[.int .i64 f0,.int .i64 f1] 37)) y.heap.size [.int .i64 f0,.int .i64 f1]:=Whole.new y [.int .i64 f0,.int .i64 f1] 37
 refine(zfr [(f0,f1)] lv _ _ ((h.below g).at z3m (by simp)) ⟨by simp,_,_,rfl,fun _=>⟨_,0,rfl,hw.lt,fun i x hx=> ?_⟩⟩ (by simp)).mono fun e w' h=>⟨h.1,g.trans (h.2.mono g.size)⟩
 have hi:i= 0:=by have:=(List.getElem?_eq_some_iff.1 hx).1;simp at this;exact this
 subst hi
 injection hx with hx
 subst hx
 exact⟨[.int .i64 f0,.int .i64 f1],rfl,by rw[Nat.zero_mul];exact hw.range,rfl⟩
theorem zf3 (w:World) (htab:TabP w):Calls Tryz.prog 6 #[] w fun e w'=>e= .returned (.bool true)/\Below w.heap.size w w':=by
 have HTB:=I htab
 clear htab
 go_enter Tryz.func6,Tryz.ntmps6
 go_upto_region 2 with (first|(go_at_call 16;refine(z6c w).mono ?_;rintro e W1 ⟨a1,b1,h1,h2,h3,rfl,h4,h5,h6⟩;have HA1:=I (And.intro h1 (And.intro h2 h3));have HI1:=I h4;have HN1:=I h5;have HB1:=I h6;clear h1 h2 h3 h4 h5 h6)|((with_reducible refine zJ 27 _ _ rfl ?hwx5 W1 ?zz5 ((plC (sl1 b1 2))) ?hwld5 ?hz5 ?hx5 ?hy5 ?hi5 ?h15 ?_);(case hwld5=>rfl);(case hx5=>rfl);(case hy5=>rfl);(case hwx5=>(exact wA rfl));(case hz5=>rfl);(case hi5=>kernel_rfl);(case h15=>exact(z5Y _ rfl));intro M1 hZ;have HX1:=I hZ;clear hZ))
 go_upto_region 3 with (first|(go_at_call 16;refine(z6c M1).mono ?_;rintro e W2 ⟨a2,b2,h1,h2,h3,rfl,h4,h5,h6⟩;have HA2:=I (And.intro h1 (And.intro h2 h3));have HI2:=I h4;have HN2:=I h5;have HB2:=I h6;clear h1 h2 h3 h4 h5 h6)|((with_reducible refine zJ 27 _ _ rfl ?hwx6 W2 ?zz6 ((plC (sl1 b2 2))) ?hwld6 ?hz6 ?hx6 ?hy6 ?hi6 ?h16 ?_);(case hwld6=>rfl);(case hx6=>rfl);(case hy6=>rfl);(case hwx6=>(exact wA rfl));(case hz6=>rfl);(case hi6=>kernel_rfl);(case h16=>exact(z5Y _ rfl));intro M2 hZ;have HX2:=I hZ;clear hZ))
 obtain⟨mb,hmb⟩:∃ q,W1.heap.size= q:=⟨_,rfl⟩
 have HXB1:Hid (mb < M1.heap.size):=I (hmb▸HX1.o.size)
 have HXR1:Hid (M1.rangeAt mb 0 (plC (sl1 b1 2))):=I (hmb▸HX1.o.range)
 have HXL1:=I HX1.o.below
 obtain⟨nb,hnb⟩:∃ q,W2.heap.size= q:=⟨_,rfl⟩
 have HXB2:Hid (nb < M2.heap.size):=I (hnb▸HX2.o.size)
 have HXR2:Hid (M2.rangeAt nb 0 (plC (sl1 b2 2))):=I (hnb▸HX2.o.range)
 have HXL2:=I HX2.o.below
 have HNW:Hid (M1.heap.size<=nb):=I (hnb▸HB2.o.size)
 have HB2N:Hid (b2 < nb/\a2 < nb):=I (hnb▸ ⟨HN2.o.lt,HI2.o.lt⟩)
 rw[hmb,hnb]
 clear hmb hnb HX1 HX2
 have HL1:Hid (a1 < M1.heap.size/\b1 < M1.heap.size):=I ⟨Nat.lt_of_lt_of_le HI1.o.lt HXL1.o.size,Nat.lt_of_lt_of_le HN1.o.lt HXL1.o.size⟩
 have HI1':=I (HI1.o.keep (HXL1.o.block _ HI1.o.lt))
 have HN1':=I (HN1.o.keep (HXL1.o.block _ HN1.o.lt))
 have HN2':=I (HN2.o.keep (HXL2.o.block _ HN2.o.lt))
 have HBM1:Hid (Below w.heap.size w M1):=I (HB1.o.trans (HXL1.o.mono HB1.o.size))
 have HBM2:Hid (Below M1.heap.size M1 M2):=I (HB2.o.trans (HXL2.o.mono HB2.o.size))
 have g0:=zd M2 (.cells #[.int .i64 0] 3)
 have h0:Whole 3 (M2.alloc (.cells #[.int .i64 0] 3)) M2.heap.size [.int .i64 0]:=Whole.new M2 [.int .i64 0] 3
 have hn0:=HN2'.o.keep (g0.block _ HN2'.o.lt)
 have d5:M2.cell? ⟨nb,5,none⟩= some (.slice (some ⟨b2,0,none⟩) 2 2):=HXR2.o 5 _ rfl
 have c2:(M2.alloc (.cells #[.int .i64 0] 3)).cell? ⟨b2,2,none⟩= some (.slice (some ⟨a2,0,none⟩) 1 1):=hn0.range 2 _ rfl
 have f2:(M2.alloc (.cells #[.int .i64 0] 3)).frozen? ⟨b2,2,none⟩= false:=hn0.frozV (j:=2) (by simp[ndC,ezC])
 have HG0:=I g0
 have HH0:=I h0
 have HHN:=I hn0
 clear g0 h0 hn0
 go_upto_region 4 with (fail)
 clear d5 c2 f2
 have HBG:Hid (Below M1.heap.size M1 (M2.alloc (.cells #[.int .i64 0] 3))):=I (HBM2.o.trans (HG0.o.mono HBM2.o.size))
 have HM2S:Hid ((M2.alloc (.cells #[.int .i64 0] 3)).heap.size= M2.heap.size+1):=I (by simp)
 have HNR:Hid ((M2.alloc (.cells #[.int .i64 0] 3)).rangeAt nb 0 (plC (sl1 b2 2))):=I (zc HXR2.o HG0.o HXB2.o)
 generalize M2.alloc (.cells #[.int .i64 0] 3)= N0 at*
 obtain⟨nn,hnn⟩:∃ q,M2.heap.size= q:=⟨_,rfl⟩
 rw[hnn] at HH0 HM2S HXB2
 rw[hnn]
 have HNN:Hid (M1.heap.size<=nn):=I (hnn▸HBM2.o.size)
 clear hnn HG0
 have HN3:Hid (Whole 56 (N0.setCell ⟨b2,2,none⟩ (.slice (some ⟨nn,0,none⟩) 1 1)) b2 (ndC 1 (sl1 nn 1) ++ ndC 2 (.slice none 0 0))):=I (Whole.put14 HHN.o 2 (sl1 nn 1))
 have HI3:Hid (Whole 3 (N0.setCell ⟨b2,2,none⟩ (.slice (some ⟨nn,0,none⟩) 1 1)) nn [.int .i64 0]):=I (HH0.o.keep (Below.heap_setCell _ _ _ _ (show nn≠b2 from by have h1:=HB2N.o;have h2:=HXB2.o;omega)))
 have HR3:Hid ((N0.setCell ⟨b2,2,none⟩ (.slice (some ⟨nn,0,none⟩) 1 1)).rangeAt nb 0 (plC (sl1 b2 2))):=I (fun i v hv=>(World.cell?_of_block (a:=⟨nb,0+i,none⟩) (Below.heap_setCell _ _ _ _ (show nb≠b2 from by have h1:=HB2N.o;omega))).trans (HNR.o i v hv))
 have HBM3:Hid (Below M1.heap.size M1 (N0.setCell ⟨b2,2,none⟩ (.slice (some ⟨nn,0,none⟩) 1 1))):=I (HBG.o.setCell (p:=⟨b2,2,none⟩) HA2.o.2.1 _)
 have HS3:Hid (nb <(N0.setCell ⟨b2,2,none⟩ (.slice (some ⟨nn,0,none⟩) 1 1)).heap.size):=I (by have h1:=HM2S.o;have h2:=HXB2.o;simp[World.setCell];omega)
 generalize N0.setCell ⟨b2,2,none⟩ (.slice (some ⟨nn,0,none⟩) 1 1)= M3 at*
 clear HHN HNR HBG HH0 HM2S
 go_upto_region 5 with (first|(go_at_call 16;refine(z6c M3).mono ?_;rintro e W4 ⟨a4,b4,h1,h2,h3,rfl,h4,h5,h6⟩;have HA4:=I (And.intro h1 (And.intro h2 h3));have HI4:=I h4;have HN4:=I h5;have HB4:=I h6;clear h1 h2 h3 h4 h5 h6)|((with_reducible refine zf 27 _ _ rfl rfl ?_ (W4.heap.size) ([.int .i64 0,.slice none 0 0,.slice none 0 0,.slice none 0 0,.slice none 0 0,.slice none 0 0]) (plC (sl1 b4 2)) (Whole.new W4 [.int .i64 0,.slice none 0 0,.slice none 0 0,.slice none 0 0,.slice none 0 0,.slice none 0 0] 27) ?_ ?_ ?_ ?_ ?_ ?_);(exact wA rfl);rfl;rfl;rfl;kernel_rfl;exact(z5Y _ rfl);intro M4 hz hb;have HZM4:=I hz;have HBM4:=I hb;clear hz hb;have HBUT:=I HBM4.o;have HX4B:=I ((zd W4 (.cells ⟨[.int .i64 0,.slice none 0 0,.slice none 0 0,.slice none 0 0,.slice none 0 0,.slice none 0 0]⟩ 27)).trans (HBM4.o.below (by simp) (Nat.le_refl _) (Nat.le_refl _)))))
 have HBM4:Hid (Below M3.heap.size M3 M4):=I (HB4.o.trans ((HX4B.o.mono HB4.o.size)))
 have HN4':=I (HN4.o.keep ((zd W4 (.cells ⟨[.int .i64 0,.slice none 0 0,.slice none 0 0,.slice none 0 0,.slice none 0 0,.slice none 0 0]⟩ 27)).block _ HN4.o.lt))
 have HNM4:Hid (Whole 56 M4 b4 (ndC 1 (sl1 a4 1) ++ ndC 2 (.slice none 0 0))):=I (HN4'.o.keep (HBUT.o.block _ HN4'.o.lt (Nat.ne_of_lt HN4.o.lt) (Nat.ne_of_lt HN4.o.lt)))
 have HB4L:=I HN4.o.lt
 obtain⟨ob,hob⟩:∃ q,W4.heap.size= q:=⟨_,rfl⟩
 have HOB:Hid (M3.heap.size<=ob):=I (hob▸HB4.o.size)
 rw[hob] at HZM4 HB4L
 rw[hob]
 clear hob HN4 HN4' HBUT HX4B HI4
 have d5:M4.cell? ⟨ob,5,none⟩= some (.slice (some ⟨b4,0,none⟩) 2 2):=HZM4.o.range 5 _ rfl
 have f5:M4.frozen? ⟨ob,5,none⟩= false:=HZM4.o.frozV (j:=5) (by simp[plC])
 have HZ5:Hid (Whole 27 (M4.setCell ⟨ob,5,none⟩ (.slice (some ⟨b4,29,none⟩) 1 1)) ob (plC (.slice (some ⟨b4,29,none⟩) 1 1))):=I (Whole.put14 HZM4.o 5 _)
 have HN5:Hid (Whole 56 (M4.setCell ⟨ob,5,none⟩ (.slice (some ⟨b4,29,none⟩) 1 1)) b4 (ndC 1 (sl1 a4 1) ++ ndC 2 (.slice none 0 0))):=I (HNM4.o.keep (Below.heap_setCell _ _ _ _ (Nat.ne_of_lt HB4L.o)))
 have HBM5:Hid (Below M3.heap.size M3 (M4.setCell ⟨ob,5,none⟩ (.slice (some ⟨b4,29,none⟩) 1 1))):=I (HBM4.o.setCell (p:=⟨ob,5,none⟩) HOB.o _)
 go_upto_region 6 with (fail)
 clear d5 f5
 generalize M4.setCell ⟨ob,5,none⟩ (.slice (some ⟨b4,29,none⟩) 1 1)= M5 at*
 have HB15:Hid (Below M1.heap.size M1 M5):=I (HBM3.o.trans (HBM5.o.mono HBM3.o.size))
 have HBW5:Hid (Below w.heap.size w M5):=I (HBM1.o.trans (HB15.o.mono HBM1.o.size))
 have HR1:Hid (∀ z,Below M5.heap.size M5 z->z.rangeAt mb 0 (plC (sl1 b1 2))):=I fun z hz=>zc (zc HXR1.o HB15.o HXB1.o) hz (Nat.lt_of_lt_of_le HXB1.o HB15.o.size)
 have HR2:Hid (∀ z,Below M5.heap.size M5 z->z.rangeAt nb 0 (plC (sl1 b2 2))):=I fun z hz=>zc (zc HR3.o HBM5.o HS3.o) hz (Nat.lt_of_lt_of_le HS3.o HBM5.o.size)
 have HR4:Hid (∀ z,Below M5.heap.size M5 z->z.rangeAt ob 0 (plC (.slice (some ⟨b4,29,none⟩) 1 1))):=I fun z hz=>(HZ5.o.keep (hz.block _ HZ5.o.lt)).range
 have HTZ:Hid (∀ z,Below M5.heap.size M5 z->TabP z):=I fun z hz=>HTB.o.next (HBW5.o.trans (hz.mono HBW5.o.size))
 have HCK1:Hid (∀ z,Below M5.heap.size M5 z->Calls Tryz.prog 8 #[.agg (plC (sl1 b1 2)).toArray] z fun e w'=>∃ lv,e= .returned lv/\OwnSl 37 2 encF w' z.heap.size lv []/\Below z.heap.size z w'):=I fun z hz=>by
  have hb:=HB15.o.trans (hz.mono HB15.o.size)
  have h1:=HI1'.o.keep (hb.block _ HI1'.o.lt)
  have h2:=HN1'.o.keep (hb.block _ HN1'.o.lt)
  have h:=z2E (m14 [nd14 1 [1],nd14 2 []]) (plC (sl1 b1 2)) z (z7w (two14 h2.range h2.lt rfl rfl (z2S (zx 1 (by decide +kernel)) (one14 (zx 1 (by decide +kernel)) h1.range h1.lt)) (z2S (zx 2 (by decide +kernel)) (SlAt.nil _ _ _ _)))) (HTZ.o z hz)
  rw[zeF] at h
  exact h
 have HCK2:Hid (∀ z,Below M5.heap.size M5 z->Calls Tryz.prog 8 #[.agg (plC (sl1 b2 2)).toArray] z fun e w'=>∃ lv,e= .returned lv/\OwnSl 37 2 encF w' z.heap.size lv [(5,0)]/\Below z.heap.size z w'):=I fun z hz=>by
  have hb:=HBM5.o.trans (hz.mono HBM5.o.size)
  have h1:=HI3.o.keep (hb.block _ HI3.o.lt)
  have h2:=HN3.o.keep (hb.block _ HN3.o.lt)
  have h:=z2E (m14 [nd14 1 [0],nd14 2 []]) (plC (sl1 b2 2)) z (z7w (two14 h2.range h2.lt rfl rfl (z2S (zx 1 (by decide +kernel)) (one14 (zx 0 (by decide +kernel)) h1.range h1.lt)) (z2S (zx 2 (by decide +kernel)) (SlAt.nil _ _ _ _)))) (HTZ.o z hz)
  rw[zex] at h
  exact h
 have HCK4:Hid (∀ z,Below M5.heap.size M5 z->Calls Tryz.prog 8 #[.agg (plC (.slice (some ⟨b4,29,none⟩) 1 1)).toArray] z fun e w'=>∃ lv,e= .returned lv/\OwnSl 37 2 encF w' z.heap.size lv [(7, -1)]/\Below z.heap.size z w'):=I fun z hz=>by
  have h2:=HN5.o.keep (hz.block _ HN5.o.lt)
  have h:=z2E (m14 [nd14 2 []]) (plC (.slice (some ⟨b4,29,none⟩) 1 1)) z (z7w (zfE h2.range h2.lt rfl rfl (z2S (zx 2 (by decide +kernel)) (SlAt.nil _ _ _ _)))) (HTZ.o z hz)
  rw[zf4] at h
  exact h
 have HGA:Hid (∀ z,Calls Tryz.prog 11 #[.agg ⟨[.int .i64 2,.slice none 0 0,.slice none 0 0]⟩] z fun e w'=>e= .returned (.bool true)/\Below z.heap.size z w'):=I fun z=>by
  have h:=z1i (pT 2) (tyC 2 (.slice none 0 0) (.slice none 0 0)) z (z0y (p:=fun _=>True) (zx 2 (by decide +kernel))).typ
  rw[zaZ] at h
  exact h
 have HGB:Hid (∀ z,Calls Tryz.prog 11 #[.agg ⟨[.int .i64 7,.slice none 0 0,.slice none 0 0]⟩] z fun e w'=>e= .returned (.bool false)/\Below z.heap.size z w'):=I fun z=>by
  have h:=z1i (pT 7) (tyC 7 (.slice none 0 0) (.slice none 0 0)) z (z0y (p:=fun _=>True) (zx 7 (by decide +kernel))).typ
  rw[zbW] at h
  exact h
 clear HR3 HS3 HN3 HI3 HN5 HZ5 HNM4 HZM4 HBM4 HBM3 HXR1 HXR2 HI1' HN1' HN1 HI1 HN2 HI2 HN2' HA1 HA2 HA4 HB1 HB2 HB4 HXL1 HXL2 HBM2 HB2N HL1 HNN HB4L
 go_wp2_with (first|((with_reducible refine za 27 _ rfl ?_ (mb) (0) (plC (sl1 b1 2)) _ rfl (HR1.o _ (Below.refl _ _)) Tryz.underlying27 rfl ?_ ?_);(exact wA rfl);kernel_rfl)|(go_at_call 8;(with_reducible refine(HCK1.o M5 (Below.refl M5.heap.size M5)).mono ?_);rintro e y1 ⟨lv1,rfl,ho,hb⟩;obtain⟨A1,c1,rfl⟩:∃ A c,lv1= .slice A 0 c:=z0x ho;have HO1:=I ho;have HY1:=I (((Below.refl M5.heap.size M5)).trans (hb.mono ((Below.refl M5.heap.size M5)).size));clear ho hb)|((with_reducible refine za 27 _ rfl ?_ (nb) (0) (plC (sl1 b2 2)) _ rfl (HR2.o _ HY1.o) Tryz.underlying27 rfl ?_ ?_);(exact wA rfl);kernel_rfl)|(go_at_call 8;(with_reducible refine(HCK2.o y1 HY1.o).mono ?_);rintro e y2 ⟨lv2,rfl,ho,hb⟩;have HO2:=I ho;have HY2:=I ((HY1.o).trans (hb.mono (HY1.o).size));clear ho hb)|(go_at_call 17;(with_reducible refine(z9g HO2.o).mono ?_);rintro e y3 ⟨rfl,hb⟩;have Hy3:=I (HY2.o.trans (hb.mono HY2.o.size));clear hb)|((with_reducible refine za 27 _ rfl ?_ (ob) (0) (plC (.slice (some ⟨b4,29,none⟩) 1 1)) _ rfl (HR4.o _ Hy3.o) Tryz.underlying27 rfl ?_ ?_);(exact wA rfl);kernel_rfl)|(go_at_call 8;(with_reducible refine(HCK4.o y3 Hy3.o).mono ?_);rintro e y4 ⟨lv4,rfl,ho,hb⟩;have HO4:=I ho;have HY4:=I ((Hy3.o).trans (hb.mono (Hy3.o).size));clear ho hb)|(go_at_call 17;(with_reducible refine(z9g HO4.o).mono ?_);rintro e y5 ⟨rfl,hb⟩;have Hy5:=I (HY4.o.trans (hb.mono HY4.o.size));clear hb)|(go_at_call 11;(with_reducible refine(HGA.o _).mono ?_);rintro e z6 ⟨rfl,hb⟩;have HZ6:=I (Hy5.o.trans (hb.mono Hy5.o.size));clear hb)|(go_at_call 11;(with_reducible refine(HGB.o _).mono ?_);rintro e y6 ⟨rfl,hb⟩;have HY6:=I (HZ6.o.trans (hb.mono HZ6.o.size));clear hb))
 go_ret
 exact⟨rfl,HBW5.o.trans (HY6.o.mono HBW5.o.size)⟩
end
section
open Go Go.RowKit P
theorem mk_ok (n:Int) (A:Option Addr) (l c:Nat) (ps:List (Int × Int)) (w:World) (hl:ps.length= l) (hp:Pairs w w.heap.size A ps) (h:makeE n ps= 0):
  Calls Tryz.prog 9 #[.int .i64 n,.slice A l c] w fun e w'=>e= .returned (.tuple #[.pointer (some ⟨w.heap.size,0,none⟩),.int .i64 0])/\Below w.heap.size w w':=
 (z3p n A l c ps w hl hp).mono fun e w' hm=>by
  rcases hm.2 with ⟨h1,_⟩|⟨_,k',h1,h2,h3⟩
  ·exact absurd h h1
  ·exact⟨h2,hm.1⟩
theorem mk_no (n:Int) (A:Option Addr) (l c:Nat) (ps:List (Int × Int)) (w:World) (hl:ps.length= l) (hp:Pairs w w.heap.size A ps) (h:makeE n ps≠0):
  Calls Tryz.prog 9 #[.int .i64 n,.slice A l c] w fun e w'=>e= .returned (.tuple #[.pointer none,.int .i64 (makeE n ps)])/\Below w.heap.size w w':=
 (z3p n A l c ps w hl hp).mono fun e w' hm=>by
  rcases hm.2 with ⟨_,h2⟩|⟨h1,_⟩
  ·exact⟨h2,hm.1⟩
  ·exact absurd h1 h
theorem zcO (m:ModelT) (tb:NodeT->Bool):(wellM m tb).length<=200:=by
 unfold wellM
 split
 ·unfold z0f
  split
  ·rename_i hs
   unfold sizeB at hs
   simp only[Bool.and_eq_true,decide_eq_true_eq] at hs
   have h1:=z0A (z56 m.labels.toNat (ordOf m.labels.toNat m.order) m) m.vars.length
   have h2:=z0A (z4O m.labels.toNat (ordOf m.labels.toNat m.order) m) m.msgs.length
   have h3:=z0A (z5k m.labels.toNat (ordOf m.labels.toNat m.order) m) m.grants.length
   have h4:=z0A (z6N m.labels.toNat (ordOf m.labels.toNat m.order) m tb) m.nodes.length
   have h5:=z2w (z10 m) 7 (-1)
   simp only[List.length_append]
   omega
  ·simp
 ·simp
theorem zac {u v:World} {A:Option Addr} {l:List (Int × Int)} (h:Pairs u u.heap.size A l) (hb:Below u.heap.size u v):Pairs v v.heap.size A l:=by
 refine⟨h.1,fun hp=> ?_⟩
 obtain⟨b,o,e,hl,hc⟩:=h.2 hp
 refine⟨b,o,e,Nat.lt_of_lt_of_le hl hb.size,fun i p hi=> ?_⟩
 obtain⟨h1,h2,h3⟩:=hc i p hi
 exact⟨(hb.cell (p:=⟨b,o+i*2,none⟩) hl).trans h1,(hb.cell (p:=⟨b,o+i*2+1,none⟩) hl).trans h2,h3⟩
theorem wellLattice_walk (W:World) (htab:TabP W) (mcs:List Value) (m:ModelT) (hm:ModelAt W W.heap.size mcs m):
  Calls Tryz.prog 3 #[.agg ⟨mcs⟩] W fun e W'=>e= .returned (.bool true)/\Below W.heap.size W W':=by
 have HAW:Hid (∀ z,Below W.heap.size W z->Calls Tryz.prog 6 #[] z fun e w'=>e= .returned (.bool true)/\Below z.heap.size z w'):=I fun z hz=>zf3 z (htab.next hz)
 have HTB:=I htab
 obtain⟨OA,GA,VA,MA,NA,oc,gc,vc,mc,nc,rfl,ho, -⟩:=z1h hm
 have HP:=I (z57 ho)
 have HM:=I hm
 have HB:=I (zd W (.cells ⟨zH m OA GA VA MA NA oc gc vc mc nc⟩ 27))
 have HW:=I (Whole.new W (zH m OA GA VA MA NA oc gc vc mc nc) 27)
 have HML:Hid ((zH m OA GA VA MA NA oc gc vc mc nc).length= 6):=I rfl
 clear hm ho htab
 go_enter Tryz.func3,Tryz.ntmps3
 go_upto_region 1 with (fail)
 generalize W.alloc (.cells ⟨zH m OA GA VA MA NA oc gc vc mc nc⟩ 27)= V at*
 obtain⟨mb,hmb⟩:∃ q,W.heap.size= q:=⟨_,rfl⟩
 have HQ:=I hmb
 rw[hmb] at HW
 (try rw[hmb])
 have HR:Hid (∀ z,Below V.heap.size V z->z.rangeAt mb 0 (zH m OA GA VA MA NA oc gc vc mc nc)):=I fun z hz=>(HW.o.keep (hz.block _ HW.o.lt)).range
 have HWZ:Hid (∀ z,Below V.heap.size V z->Below W.heap.size W z):=I fun z hz=>HB.o.trans (hz.mono HB.o.size)
 have HMZ:Hid (∀ z,Below V.heap.size V z->ModelAt z z.heap.size (zH m OA GA VA MA NA oc gc vc mc nc) m):=I fun z hz=>(HM.o.under (HWZ.o z hz)).more (HWZ.o z hz).size
 clear hmb
 have HSM:=I (fun z (hz:Below V.heap.size V z)=>zf8 m (zH m OA GA VA MA NA oc gc vc mc nc) z (HMZ.o z hz))
 have HCK:=I (fun z (hz:Below V.heap.size V z)=>z2E m (zH m OA GA VA MA NA oc gc vc mc nc) z (HMZ.o z hz) (HTB.o.next (HWZ.o z hz)))
 go_upto_region 3 with (first|(go_at_call 6;(with_reducible refine(HAW.o _ (HWZ.o V (Below.refl _ _))).mono ?_);rintro e y1 ⟨rfl,hb⟩;have HY1:=I hb;clear hb)|(go_at_call 6;(with_reducible refine(HAW.o _ (HWZ.o _ HY2.o)).mono ?_);rintro e y3 ⟨rfl,hb⟩;have HY3:=I hb;clear hb)|((with_reducible refine za 27 _ rfl ?_ (mb) (0) (zH m OA GA VA MA NA oc gc vc mc nc) _ rfl (HR.o _ HY1.o) Tryz.underlying27 rfl ?_ ?_);(exact wA rfl);rw[HML.o];kernel_rfl)|(go_at_call 7;refine(HSM.o _ HY1.o).mono ?_;rintro e y2 ⟨b,rfl,hb, -⟩;have HY2:=I (HY1.o.trans (hb.mono HY1.o.size));clear hb;cases b))
 ·go_ret
  exact⟨rfl,HWZ.o _ (HY2.o.trans (HY3.o.mono HY2.o.size))⟩
 have HPY:Hid (∀ z,Below V.heap.size V z->Pairs z z.heap.size OA m.order):=I fun z hz=>zac HP.o (HWZ.o z hz)
 have HLEN:=I (zcO m (zM m))
 by_cases he:makeE m.labels m.order= 0
 ·have HRU:=I (zay (tb:=zM m) he)
  have HMK:=I (fun z (hz:Below V.heap.size V z)=>mk_ok m.labels OA m.order.length oc m.order z rfl (HPY.o z hz) he)
  obtain⟨L,hL⟩:∃ L,wellM m (zM m)= L:=⟨_,rfl⟩
  rw[hL] at HRU HLEN HCK
  clear hL he
  have hlen:=HLEN.o
  go_upto_region 5 with (first|((with_reducible refine za 27 _ rfl ?_ (mb) (0) (zH m OA GA VA MA NA oc gc vc mc nc) _ rfl (HR.o _ HY2.o) Tryz.underlying27 rfl ?_ ?_);(exact wA rfl);rw[HML.o];kernel_rfl)|(go_at_call 8;refine(HCK.o _ HY2.o).mono ?_;rintro e y3 ⟨lv,rfl,ho,hb⟩;obtain⟨FA,fc,rfl⟩:∃ A c,lv= .slice A L.length c:=z0x ho;have HO:=I ho;have HY3:=I (HY2.o.trans (hb.mono HY2.o.size));have d0:=HR.o _ HY3.o 0 _ rfl;have d1:=HR.o _ HY3.o 1 _ rfl;clear ho hb)|(go_at_call 9;(with_reducible refine(HMK.o _ HY3.o).mono ?_);rintro e y4 ⟨rfl,hb⟩;have HB4:=I hb;have HY4:=I (HY3.o.trans (hb.mono HY3.o.size));clear hb))
  have HOA:=I ((HO.o.below HB4.o).at z3m (by omega))
  obtain⟨-,FA',fc',e1,hrow⟩:=HOA.o
  injection e1 with e1 e2 e3
  subst e1 e3
  have HROW:=I hrow
  have hlen2:(L.length:Int)<=200:=by omega
  clear hrow e2 d0 d1
  go_wp2
  go_loopg [40] L.length (fun q yv z=>∃ j:Nat,j+q= L.length/\yv= .int .i64 j/\Below y4.heap.size y4 z)
  case atStart=>exact⟨0,by omega,rfl,Below.refl _ _⟩
  case round=>
   obtain⟨j,hj,rfl,hb⟩:=hrel
   have HBZ:=I hb
   clear hb
   obtain⟨z,hz⟩:∃ z,z= wr:=⟨_,rfl⟩
   subst hz
   cases gk with
   |zero=>
    obtain rfl:j= L.length:=by omega
    have hge: ¬ ((L.length:Int) <(L.length:Int)):=by omega
    go_wp2
    go_ret
    exact⟨rfl,HWZ.o _ (HY4.o.trans (HBZ.o.mono HY4.o.size))⟩
   |succ g=>
    have hlt:(j:Int) <(L.length:Int):=by omega
    have hj0:(0:Int)<=(j:Int):=by omega
    have ilt:j < L.length:=by omega
    obtain⟨f,hf⟩:∃ f,L[j]?= some f:=⟨_,List.getElem?_eq_getElem ilt⟩
    obtain⟨fb,fo,rfl,hfl,hc⟩:=HROW.o (by omega)
    obtain⟨k1,_,hr1,rfl⟩:=hc j f hf
    obtain⟨hf2,hf7,hf3⟩:=HRU.o j f hf
    obtain⟨f0,f1⟩:=f
    have d1:z.cell? ⟨fb,fo+j*2,none⟩= some (.int .i64 f0):=zc hr1 HBZ.o hfl 0 _ rfl
    have d2:z.cell? ⟨fb,fo+j*2+1,none⟩= some (.int .i64 f1):=zc hr1 HBZ.o hfl 1 _ rfl
    simp only at hf2 hf7 hf3
    have HBQ:=I (zd z (.cells #[.int .i64 f0,.int .i64 f1] 37))
    have p0:(z.alloc (.cells #[.int .i64 f0,.int .i64 f1] 37)).cell? ⟨z.heap.size,0,none⟩= some (.int .i64 f0):=(Whole.new z [.int .i64 f0,.int .i64 f1] 37).range 0 _ rfl
    have t2:decide (f0 < 2)= false:=decide_eq_false (by omega)
    have t7:decide (7 < f0)= false:=decide_eq_false (by omega)
    clear hc hr1 hf hfl
    by_cases hj1:0 < j
    ·have tj:decide ((0:Int) <(j:Int))= true:=decide_eq_true (by omega)
     by_cases h7:f0= 7
     ·have hje:=hf3 hj1 h7
      subst h7
      have hw:IntKind.i64.wrap ((L.length:Int) - 1)=(j:Int):=by rw[IntKind.wrap_i64];omega
      clear hf3 hf2 hf7 t2 t7 hje
      go_wp2
      go_roundg g
      case measure=>omega
      case rel=>exact⟨j+1,by omega,by go_num,HBZ.o.trans (HBQ.o.mono HBZ.o.size)⟩
     ·have q7:(f0 ==7)= false:=by rw[beq_eq_false_iff_ne];exact h7
      clear hf3 hf2 hf7 h7
      go_wp2
      go_roundg g
      case measure=>omega
      case rel=>exact⟨j+1,by omega,by go_num,HBZ.o.trans (HBQ.o.mono HBZ.o.size)⟩
    ·obtain rfl:j= 0:=by omega
     simp only[Nat.zero_mul,Nat.add_zero] at d1 d2
     clear hf3 hf2 hf7 hj1
     go_wp2
     go_roundg g
     case measure=>omega
     case rel=>exact⟨0+1,by omega,by go_num,HBZ.o.trans (HBQ.o.mono HBZ.o.size)⟩
 ·have HMK:=I (fun z (hz:Below V.heap.size V z)=>mk_no m.labels OA m.order.length oc m.order z rfl (HPY.o z hz) he)
  rw[z9W (tb:=zM m) he] at HCK
  have q0:(makeE m.labels m.order ==0)= false:=by rw[beq_eq_false_iff_ne];exact he
  clear he HLEN
  obtain⟨E,hE⟩:∃ E,makeE m.labels m.order= E:=⟨_,rfl⟩
  rw[hE] at q0 HMK
  clear hE
  go_upto_region 5 with (first|((with_reducible refine za 27 _ rfl ?_ (mb) (0) (zH m OA GA VA MA NA oc gc vc mc nc) _ rfl (HR.o _ HY2.o) Tryz.underlying27 rfl ?_ ?_);(exact wA rfl);rw[HML.o];kernel_rfl)|(go_at_call 8;refine(HCK.o _ HY2.o).mono ?_;rintro e y3 ⟨lv,rfl,ho,hb⟩;obtain⟨FA,fc,rfl⟩:∃ A c,lv= .slice A 1 c:=z0x ho;have HO:=I ho;have HY3:=I (HY2.o.trans (hb.mono HY2.o.size));have d0:=HR.o _ HY3.o 0 _ rfl;have d1:=HR.o _ HY3.o 1 _ rfl;clear ho hb)|(go_at_call 9;(with_reducible refine(HMK.o _ HY3.o).mono ?_);rintro e y4 ⟨rfl,hb⟩;have HB4:=I hb;have HY4:=I (HY3.o.trans (hb.mono HY3.o.size));clear hb))
  have HOA:=I ((HO.o.below HB4.o).at z3m (by simp))
  obtain⟨-,FA',fc',e1,hrow⟩:=HOA.o
  injection e1 with e1 e2 e3
  subst e1 e3
  obtain⟨fb,fo,rfl,hfl,hc⟩:=hrow (by simp)
  obtain⟨k1,_,hr1,rfl⟩:=hc 0 _ rfl
  have e0:y4.cell? ⟨fb,fo,none⟩= some (.int .i64 1):=hr1 0 _ rfl
  have e1:y4.cell? ⟨fb,fo+1,none⟩= some (.int .i64 (-1)):=hr1 1 _ rfl
  clear e2 d0 d1 hc hr1
  go_wp2
  go_ret
  exact⟨rfl,HWZ.o _ HY4.o⟩
end
end Go.Proofs.YtdjfpcmlffekkaaGreatDoor
