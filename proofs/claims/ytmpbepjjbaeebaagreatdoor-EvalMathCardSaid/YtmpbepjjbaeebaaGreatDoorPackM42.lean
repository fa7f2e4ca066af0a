/- Parts of a proof: E10W, E10Z. -/
import Derived.Test.YtmpbepjjbaeebaaGreatDoorPackM41
set_option maxHeartbeats 8000000
set_option maxRecDepth 100000
set_option linter.unusedVariables false
set_option linter.unusedSimpArgs false
section
namespace Go.Proofs.YtmpbepjjbaeebaaGreatDoor
open Go Go.RowKit
open Go.Lib (hid)
theorem seqR_step {E:List VarT} {V:List VT} {its:List ET} {j:Nat} {y:ET} (h:its[j]?= some y):seqR (evalEL E V (its.drop j))= match evalE E V y with| .error e=> .error e| .ok v=>(seqR (evalEL E V (its.drop (j+1)))).map (v:: ·):=by
 rw[edrop_at h,evalEL]
 cases evalE E V y with
 |error e=>rfl
 |ok v=>
  rw[seqR]
  cases seqR (evalEL E V (its.drop (j+1)))<;>rfl
theorem map_map_app (r:Except Int (List VT)) (vs:List VT) (v:VT):(r.map (v:: ·)).map (vs ++ ·)= r.map ((vs ++ [v]) ++ ·):=by
 cases r with
 |error e=>rfl
 |ok l=>show Except.ok (vs ++ (v::l))= Except.ok ((vs ++ [v]) ++ l);simp
theorem szEL_len:∀ (l:List ET),l.length≤szEL l
 |[]=>by simp
 |a::l=>by
  have:=szEL_len l
  have:=szE_pos a
  rw[szEL,List.length_cons];omega
theorem szEL_mem:∀ {l:List ET} {x:ET},x∈l→szE x≤szEL l
 |a::l,x,hx=>by
  rw[szEL]
  rcases List.mem_cons.1 hx with rfl|hx
  ·omega
  ·have:=szEL_mem hx;omega
theorem evalE_else {E:List VarT} {V:List VT} {k:Int} {s:ByteArray} {v:VT} {ns:List ByteArray} {its:List ET} (h: ¬ k= 1∧¬ k= 2∧¬ (k= 13∨k= 14∨k= 15)):evalE E V (.mk k s v ns its)= match seqR (evalEL E V its) with| .error e=> .error e| .ok l=>combR k s ns l:=by
 rw[evalE,if_neg h.1,if_neg h.2.1,if_neg h.2.2]
 rfl
theorem right_snoc {vs:List VT} {v:VT} (h:∀ z∈vs,rightW z= true) (hv:rightW v= true):∀ z∈vs ++ [v],rightW z= true:=fun z hz=>by
 rcases List.mem_append.1 hz with h1|h1
 ·exact h z h1
 ·have:z= v:=by simpa using h1
  rw[this];exact hv
theorem own_formL {α:Type} {T:TypeId} {k base:Nat} {enc:α→List Value} {w:World} {v:Value} {l:List α} (h:OwnSl T k enc w base v l):∃ A c,v= .slice A l.length c:=by
 rcases h.2 with ⟨rfl,h0⟩|⟨g,cap,cur,rfl,_⟩
 ·exact⟨none,0,by rw[h0]⟩
 ·exact⟨_,_,rfl⟩
section
variable (mp:Nat) (va vb:Value) (E:List VarT) (V:List VT) (p o:Nat) (w:World)
theorem ev_else (k:Int) (s:ByteArray) (v0 v1 v2 v3 v4 v5 vn:Value) (A:Option Addr) (c:Nat) (ns:List ByteArray) (its:List ET) (e1:(k ==1)= false) (e2:(k ==2)= false) (e15:(k ==15)= false) (e13:(k ==13)= false) (e14:(k ==14)= false)
  (hlen:its.length≤199) (hkl:(k= 16∨k= 17)∨(¬ k= 16∧¬ k= 17∧(its.length= 1∨its.length= 2)))
  (hr:w.rangeAt p o [.int .i64 k,.string s,v0,v1,v2,v3,v4,v5,vn,.slice A its.length c]) (hp:p < w.heap.size) (hns:SlAt w w.heap.size 1 StrR vn ns) (hnl:ns.length≤1000)
  (hA:0 < its.length→∃ b ob,A= some ⟨b,ob,none⟩∧∀ j x,its[j]?= some x→EvAt mp b (ob+j*10) w (evalE E V x)) (hm:MacAt w mp va vb E V) {res:Res}
  (hres:res= match seqR (evalEL E V its) with| .error e=> .error e| .ok l=>combR k s ns l):
  Calls Tryz.prog 39 #[.pointer (some ⟨mp,0,none⟩),.pointer (some ⟨p,o,none⟩)] w (EvPost res w):=by
 have HM:=hid hm
 have HR0:=hid hr
 have HP:=hid hp
 have HRES:=hid hres
 have HNS:=hid hns
 have HNL:=hid hnl
 have HA:=hid hA
 have HLEN:=hid hlen
 have HKL:=hid hkl
 clear hm hr hp hns hnl hA hlen hkl hres
 go_enter Tryz.func39,Tryz.ntmps39
 go_upto_region 1 with (fail)
 have hz6:(#[Value.int IntKind.i64 0,Value.int IntKind.i64 0,Value.float FloatKind.f64 0,Value.string { data:= #[] },Value.slice none 0 0,Value.slice none 0 0]:Array Value)= zV6.toArray:=rfl
 rw[hz6]
 clear hz6
 have HE0:=hid (eb_start (Below.refl w.heap.size w))
 generalize w.alloc (.cells zV6.toArray 26)= W at*
 have HMW:=hid (HM.out.below HE0.out.bel)
 have HRR:Hid (W.rangeAt p o [.int .i64 k,.string s,v0,v1,v2,v3,v4,v5,vn,.slice A its.length c]):=hid (rangeAt_below HR0.out HE0.out.bel HP.out)
 have d0:W.cell? ⟨p,o,none⟩= some (.int .i64 k):=HRR.out 0 _ rfl
 have d9:W.cell? ⟨p,o+9,none⟩= some (.slice A its.length c):=HRR.out 9 _ rfl
 have HPW:Hid (p < W.heap.size):=hid (Nat.lt_of_lt_of_le HP.out HE0.out.bel.size)
 obtain⟨j0,hi,hz0,hz1,hz2⟩:=info_partsV info_value
 have HJ0:=hid hi
 have HY0:=hid hz0
 have HY1:=hid hz1
 have HY2:=hid hz2
 clear hi hz0 hz1 hz2
 go_upto_region 16 with (fail)
 clear d0 d9
 go_loopg [5,92] its.length (fun q x y u=>∃ (j:Nat) (vs:List VT) (KL:List Cells6),j+q= its.length∧y= .int .i64 j∧vs.length= j∧seqR (evalEL E V its)=(seqR (evalEL E V (its.drop j))).map (vs ++ ·)∧(∀ z∈vs,rightW z= true)∧RowInv 26 W u x vs KL)
 case atStart=>exact⟨0,[],[],by omega,rfl,rfl,by rw[List.drop_zero];cases seqR (evalEL E V its)<;>rfl,(fun z hz=>by cases hz),RowInv.start _ _⟩
 case round=>
  obtain⟨j,vs,KL,hj,rfl,hvl,hseq,hright,hI⟩:=hrel
  have HI:=hid hI
  have HSEQ:=hid hseq
  have HRI:=hid hright
  have HVL:=hid hvl
  have HEU:=hid (HE0.out.next HI.out.bel)
  obtain⟨UA,uc,rfl⟩:=own_formL hI.own
  have HKLL:=hid hI.len
  clear hI hseq hright
  have d0:wr.cell? ⟨p,o,none⟩= some (.int .i64 k):=(HI.out.bel.cell (p:=⟨p,o,none⟩) HPW.out).trans (HRR.out 0 _ rfl)
  have d9:wr.cell? ⟨p,o+9,none⟩= some (.slice A its.length c):=(HI.out.bel.cell (p:=⟨p,o+9,none⟩) HPW.out).trans (HRR.out 9 _ rfl)
  cases gk with
  |zero=>
   obtain rfl:j= its.length:=by omega
   have hge: ¬ ((its.length:Int) <(its.length:Int)):=by omega
   have HSQ:Hid (res= combR k s ns vs):=hid (by
    have h1:=HSEQ.out
    rw[List.drop_length,evalEL,seqR] at h1
    have h2:seqR (evalEL E V its)= .ok vs:=by rw[h1];show Except.ok (vs ++ [])= _;rw[List.append_nil]
    rw[HRES.out,h2])
   have HVM:Hid (vs.length≤maxLen):=hid (by have h1:=HVL.out;have h2:=HLEN.out;unfold maxLen;omega)
   have HKR:=HKL.out
   rcases HKR with (hk16|hk17)|⟨hn16,hn17,hl12⟩
   ·subst hk16
    have HKV:Hid (Kept (fun b=>W.heap.size≤b) wr [.int .i64 5,.int .i64 0,.float .f64 0,.string ⟨#[]⟩,.slice none 0 0,.slice UA KL.length uc] (.mk 5 0 0 ⟨#[]⟩ [] vs)):=hid (ValAt.of (wfI_of (by omega)) (wfI_of (by omega)) (by decide) (by decide) (SlAt.nil _ _ _ _) HVM.out (HI.out.row HVM.out (Nat.le_refl _) (fun _ _ _=>rfl) (Nat.le_refl _)))
    have HSD:=hid (sized_any (fun b=>W.heap.size≤b) _ _ wr HKV.out)
    have HRE:Hid (res= szd (.mk 5 0 0 ⟨#[]⟩ [] vs)):=hid (by rw[HSQ.out];unfold combR;rw[if_pos rfl])
    clear d9
    go_wp2_with (go_at_call 66;fail)
    refine HSD.out.mono ?_
    rintro e z2 (⟨u,cs',hr,rfl,hk,hb⟩|⟨n,hr,rfl,hb⟩)
    ·have HEZ:=hid (HEU.out.next hb)
     have HKZ:Hid (Kept (fun b=>w.heap.size < b) z2 cs' u):=hid (hk.to (fun b hp hlt=>⟨by have h1:=HE0.out.lt;have h2:=HI.out.bel.size;rcases hp with h|h<;>omega,rfl⟩) (Nat.le_refl _))
     have HCL:=hid (val_one hk.val).1
     have HON:=hid (val_one hk.val).2
     have HRE2:Hid (res= .ok u):=hid (HRE.out.trans hr)
     have HRW:Hid (rightW u= true):=hid (szd_right hr).2
     clear hk hb hr
     go_wp2_with (((with_reducible refine wl_wstore 26 _ _ rfl rfl ?hw (w.heap.size) zV6 (cs') HEZ.out.wb ?h5 ?h6 ?h7 ?h8 ?h9 ?_);(case hw=>(first|exact wanted_none rfl|exact wanted_if rfl rfl rfl rfl));(case h5=>rw[HCL.out];rfl);(case h6=>rfl);(case h7=>rfl);(case h8=>rw[HCL.out];kernel_rfl);(case h9=>exact HON.out);intro Z2 hz hb;have HX:=hid hz;have HXB:=hid hb;clear hz hb))
     (try simp only[Exit.inBlock,Exit.then])
     refine bodyPost_ret (results_cellV rfl Tryz.underlying26 rfl _ _ (w.heap.size) (cs') (by rw[HCL.out];kernel_rfl) rfl HX.out.range) rfl ?_
     exact .ok HRE2.out rfl (HEZ.out.kept HKZ.out HXB.out) (HRW.out) (HEZ.out.fin HXB.out)
    ·have HRE2:Hid (res= .error n):=hid (HRE.out.trans hr)
     have HB:=hid hb
     clear hb hr
     go_wp2
     exact⟨rfl,.no HRE2.out rfl (HEU.out.next HB.out).bel⟩
   ·subst hk17
    obtain⟨-,NA,nc,rfl, -⟩:=id HNS.out
    have d8:wr.cell? ⟨p,o+8,none⟩= some (.slice NA ns.length nc):=(HI.out.bel.cell (p:=⟨p,o+8,none⟩) HPW.out).trans (HRR.out 8 _ rfl)
    have HWU:=hid (HE0.out.bel.trans (HI.out.bel.mono HE0.out.bel.size))
    have HCN:=hid (clone_names wr (.slice NA ns.length nc) ns ((HNS.out.below HWU.out fun _ _ _ h=>h).more HWU.out.size) (by have h1:=HNL.out;have h2:reachBytes= 140737488351232:=rfl;omega))
    go_upto_region 23 with (fail)
    clear d0 d9
    go_wp2_with (first|(go_at_call 67;fail))
    refine HCN.out.mono ?_
    rintro e z ⟨v',rfl,hbz,hkn⟩
    obtain⟨-,NA2,nc2,rfl, -⟩:=id hkn
    have HKV:Hid (Kept (fun b=>W.heap.size≤b) z [.int .i64 6,.int .i64 0,.float .f64 0,.string ⟨#[]⟩,.slice NA2 ns.length nc2,.slice UA KL.length uc] (.mk 6 0 0 ⟨#[]⟩ ns vs)):=hid (ValAt.of (wfI_of (by omega)) (wfI_of (by omega)) (by decide) (by decide) (hkn.to (fun b hp hlt=>⟨Nat.le_trans HI.out.bel.size hp,rfl⟩) (Nat.le_refl _)) HVM.out (HI.out.row HVM.out (Nat.le_refl _) (fun b _ hlt=>hbz.block b hlt) hbz.size))
    have HSD:=hid (sized_any (fun b=>W.heap.size≤b) _ _ z HKV.out)
    have HRE:Hid (res= szd (.mk 6 0 0 ⟨#[]⟩ ns vs)):=hid (by rw[HSQ.out];unfold combR;rw[if_neg (by decide),if_pos rfl])
    have HEY:=hid (HEU.out.next hbz)
    have HZS:=hid hbz.size
    clear hbz hkn d8 HCN
    go_wp2_with (go_at_call 66;fail)
    refine HSD.out.mono ?_
    rintro e z2 (⟨u,cs',hr,rfl,hk,hb⟩|⟨n,hr,rfl,hb⟩)
    ·have HEZ:=hid (HEY.out.next hb)
     have HKZ:Hid (Kept (fun b=>w.heap.size < b) z2 cs' u):=hid (hk.to (fun b hp hlt=>⟨by have h1:=HE0.out.lt;have h2:=HI.out.bel.size;have h3:=HZS.out;rcases hp with h|h<;>omega,rfl⟩) (Nat.le_refl _))
     have HCL:=hid (val_one hk.val).1
     have HON:=hid (val_one hk.val).2
     have HRE2:Hid (res= .ok u):=hid (HRE.out.trans hr)
     have HRW:Hid (rightW u= true):=hid (szd_right hr).2
     clear hk hb hr
     go_wp2_with (((with_reducible refine wl_wstore 26 _ _ rfl rfl ?hw (w.heap.size) zV6 (cs') HEZ.out.wb ?h5 ?h6 ?h7 ?h8 ?h9 ?_);(case hw=>(first|exact wanted_none rfl|exact wanted_if rfl rfl rfl rfl));(case h5=>rw[HCL.out];rfl);(case h6=>rfl);(case h7=>rfl);(case h8=>rw[HCL.out];kernel_rfl);(case h9=>exact HON.out);intro Z2 hz hb;have HX:=hid hz;have HXB:=hid hb;clear hz hb))
     (try simp only[Exit.inBlock,Exit.then])
     refine bodyPost_ret (results_cellV rfl Tryz.underlying26 rfl _ _ (w.heap.size) (cs') (by rw[HCL.out];kernel_rfl) rfl HX.out.range) rfl ?_
     exact .ok HRE2.out rfl (HEZ.out.kept HKZ.out HXB.out) (HRW.out) (HEZ.out.fin HXB.out)
    ·have HRE2:Hid (res= .error n):=hid (HRE.out.trans hr)
     have HB:=hid hb
     clear hb hr
     go_wp2
     exact⟨rfl,.no HRE2.out rfl (HEY.out.next HB.out).bel⟩
   ·have e16:(k ==16)= false:=by simpa using hn16
    have e17:(k ==17)= false:=by simpa using hn17
    have HROW:=hid (HI.out.row HVM.out (Nat.le_refl _) (fun _ _ _=>rfl) (Nat.le_refl _))
    have HTAB:=hid (HM.out.tab.next (HE0.out.bel.trans (HI.out.bel.mono HE0.out.bel.size)))
    have d1:wr.cell? ⟨p,o+1,none⟩= some (.string s):=(HI.out.bel.cell (p:=⟨p,o+1,none⟩) HPW.out).trans (HRR.out 1 _ rfl)
    have HPU:Hid (p < wr.heap.size):=hid (Nat.lt_of_lt_of_le HPW.out HI.out.bel.size)
    have HNK:=hid (And.intro hn16 hn17)
    clear d9 hn16 hn17
    obtain⟨n,hn⟩:∃ n,KL.length= n:=⟨_,rfl⟩
    have hnl:=hn.symm.trans (HKLL.out.trans HVL.out)
    rw[hn] at HROW
    rw[hn]
    rcases hl12 with hl1|hl2
    ·obtain rfl:n= 1:=by omega
     obtain⟨a,rfl⟩:∃ a,vs=[a]:=by
      have h1:=HVL.out
      match vs,h1.trans hl1 with
      |[a],_=>exact⟨a,rfl⟩
     clear hl1 hnl hn
     obtain⟨-,RA,rc,hre,hA1⟩:=HROW.out
     simp only[Value.slice.injEq] at hre
     obtain⟨rfl, -,rfl⟩:=hre
     obtain⟨b0,o0,rfl,hb0,hc0⟩:=hA1 (by simp)
     obtain⟨ks,hkl3,hkr,hkv⟩:=hc0 0 a rfl
     rw[Nat.zero_mul,Nat.add_zero] at hkr
     have HKS:Hid (Kept (fun b=>W.heap.size≤b) wr ks a):=hid hkv
     have HCLL:=hid hkl3
     have HKRR:Hid (wr.rangeAt b0 o0 ks):=hid (rangeAt_cells hkr fun a v h=>(only_cell.1 h).2)
     have HUN:=hid (unary_any (fun b=>W.heap.size≤b) k s p o a ks wr d0 d1 HPU.out HKS.out (HRI.out a (by simp)) HTAB.out)
     have HRE:Hid (res= unV k s a):=hid (by rw[HSQ.out];unfold combR;rw[if_neg HNK.out.1,if_neg HNK.out.2])
     have HSA:=hid (sane_of _ _ HKS.out.val)
     have HRA:=hid (HRI.out a (by simp))
     clear hA1 hc0 hkl3 hkr hkv hb0 d1
     go_wp2_with (first|((with_reducible refine wl_sload 26 _ rfl ?hwl b0 (o0) ks _ rfl HKRR.out Tryz.underlying26 rfl ?hil ?_);(case hwl=>(first|exact wanted_none rfl|exact wanted_if rfl rfl rfl rfl));(case hil=>rw[HCLL.out];kernel_rfl))|(go_at_call 68;fail))
     refine HUN.out.mono ?_
     rintro e z2 (⟨u,cs',hr,rfl,hk,hb⟩|⟨n,hr,rfl,hb⟩)
     ·have HEZ:=hid (HEU.out.next hb)
      have HKZ:Hid (Kept (fun b=>w.heap.size < b) z2 cs' u):=hid (hk.to (fun b hp hlt=>⟨by have h1:=HE0.out.lt;have h2:=HI.out.bel.size;rcases hp with h|h<;>omega,rfl⟩) (Nat.le_refl _))
      have HCL:=hid (val_one hk.val).1
      have HON:=hid (val_one hk.val).2
      have HRE2:Hid (res= .ok u):=hid (HRE.out.trans hr)
      have HRW:Hid (rightW u= true):=hid (unV_right HSA.out HRA.out hr)
      clear hk hb hr
      go_wp2_with (((with_reducible refine wl_wstore 26 _ _ rfl rfl ?hw (w.heap.size) zV6 (cs') HEZ.out.wb ?h5 ?h6 ?h7 ?h8 ?h9 ?_);(case hw=>(first|exact wanted_none rfl|exact wanted_if rfl rfl rfl rfl));(case h5=>rw[HCL.out];rfl);(case h6=>rfl);(case h7=>rfl);(case h8=>rw[HCL.out];kernel_rfl);(case h9=>exact HON.out);intro Z2 hz hb;have HX:=hid hz;have HXB:=hid hb;clear hz hb))
      (try simp only[Exit.inBlock,Exit.then])
      refine bodyPost_ret (results_cellV rfl Tryz.underlying26 rfl _ _ (w.heap.size) (cs') (by rw[HCL.out];kernel_rfl) rfl HX.out.range) rfl ?_
      exact .ok HRE2.out rfl (HEZ.out.kept HKZ.out HXB.out) (HRW.out) (HEZ.out.fin HXB.out)
     ·have HRE2:Hid (res= .error n):=hid (HRE.out.trans hr)
      have HB:=hid hb
      clear hb hr
      go_wp2
      exact⟨rfl,.no HRE2.out rfl (HEU.out.next HB.out).bel⟩
    ·obtain rfl:n= 2:=by omega
     obtain⟨a,a2,rfl⟩:∃ a a2,vs=[a,a2]:=by
      have h1:=HVL.out
      match vs,h1.trans hl2 with
      |[a,b],_=>exact⟨a,b,rfl⟩
     clear hl2 hnl hn
     obtain⟨-,RA,rc,hre,hA1⟩:=HROW.out
     simp only[Value.slice.injEq] at hre
     obtain⟨rfl, -,rfl⟩:=hre
     obtain⟨b0,o0,rfl,hb0,hc0⟩:=hA1 (by simp)
     obtain⟨ks,hkl3,hkr,hkv⟩:=hc0 0 a rfl
     obtain⟨ks2,hkl4,hkr2,hkv2⟩:=hc0 1 a2 rfl
     rw[Nat.zero_mul,Nat.add_zero] at hkr
     rw[Nat.one_mul] at hkr2
     have HKS:Hid (Kept (fun b=>W.heap.size≤b) wr ks a):=hid hkv
     have HKS2:Hid (Kept (fun b=>W.heap.size≤b) wr ks2 a2):=hid hkv2
     have HCLL:=hid hkl3
     have HCLM:=hid hkl4
     have HKRR:Hid (wr.rangeAt b0 o0 ks):=hid (rangeAt_cells hkr fun a v h=>(only_cell.1 h).2)
     have HKRS:Hid (wr.rangeAt b0 (o0+6) ks2):=hid (rangeAt_cells hkr2 fun a v h=>(only_cell.1 h).2)
     have HB0:=hid hb0
     have HRE:Hid (res= binV k a a2):=hid (by rw[HSQ.out];unfold combR;rw[if_neg HNK.out.1,if_neg HNK.out.2])
     have HRA:=hid (HRI.out a (by simp))
     have HRB:=hid (HRI.out a2 (by simp))
     clear hA1 hc0 hkl3 hkr hkv hkl4 hkr2 hkv2 hb0 d1
     go_upto_region 26 with (fail)
     refine wp_region_ord_tail 10 [(0,true),(1,true),(2,true),(3,true),(4,true),(5,true),(6,true),(7,true),(8,true),(9,true)] (fun z=>Below wr.heap.size wr z) (by kernel_rfl) (by kernel_rfl) rfl (by intro c a d v w h;cases d<;>exact h) ?_
     have hs:Below wr.heap.size wr wr.drew:=(Below.refl _ _).drew
     refine ord_move (some 139) (.pointer (some ⟨p,o,none⟩)) _ _ rfl rfl rfl (by first|exact wanted_none rfl|exact wanted_if rfl rfl rfl rfl) hs rfl ?_
     go_frame
     refine ord_load (some 140) (.pointer (some ⟨p,o,none⟩)) _ rfl rfl (by first|exact wanted_none rfl|exact wanted_if rfl rfl rfl rfl) hs (fun z hz=>by go_simp) ?_
     go_frame
     refine ord_load (some 141) (.pointer (some ⟨p,o,none⟩)) _ rfl rfl (by first|exact wanted_none rfl|exact wanted_if rfl rfl rfl rfl) hs (fun z hz=>by go_simp) ?_
     go_frame
     refine ord_load (some 142) (.int .i64 k) _ rfl rfl (by first|exact wanted_none rfl|exact wanted_if rfl rfl rfl rfl) hs (fun z hz=>by have e4:=(hz.cell (p:=⟨p,o,none⟩) HPU.out).trans d0;clear hz;go_simp) ?_
     go_frame
     refine ord_move (some 143) (.slice (some ⟨b0,o0,none⟩) 2 uc) _ _ rfl rfl rfl (by first|exact wanted_none rfl|exact wanted_if rfl rfl rfl rfl) hs rfl ?_
     go_frame
     refine ord_load (some 144) (.pointer (some ⟨b0,o0,none⟩)) _ rfl rfl (by first|exact wanted_none rfl|exact wanted_if rfl rfl rfl rfl) hs (fun z hz=>by go_simp) ?_
     go_frame
     refine ord_load (some 145) (.agg ⟨ks⟩) _ rfl rfl (by first|exact wanted_none rfl|exact wanted_if rfl rfl rfl rfl) hs (fun z hz=>exec_sload 26 rfl b0 o0 ks _ rfl (rangeAt_below HKRR.out hz HB0.out) Tryz.underlying26 rfl (by rw[HCLL.out];kernel_rfl)) ?_
     go_frame
     refine ord_move (some 146) (.slice (some ⟨b0,o0,none⟩) 2 uc) _ _ rfl rfl rfl (by first|exact wanted_none rfl|exact wanted_if rfl rfl rfl rfl) hs rfl ?_
     go_frame
     refine ord_load (some 147) (.pointer (some ⟨b0,o0+6,none⟩)) _ rfl rfl (by first|exact wanted_none rfl|exact wanted_if rfl rfl rfl rfl) hs (fun z hz=>by go_simp) ?_
     go_frame
     refine ord_load (some 148) (.agg ⟨ks2⟩) _ rfl rfl (by first|exact wanted_none rfl|exact wanted_if rfl rfl rfl rfl) hs (fun z hz=>exec_sload 26 rfl b0 (o0+6) ks2 _ rfl (rangeAt_below HKRS.out hz HB0.out) Tryz.underlying26 rfl (by rw[HCLM.out];kernel_rfl)) ?_
     go_frame
     refine ord_tail ?_
     have HED:=hid HEU.out.drew
     have HKD:Hid (Kept (fun b=>W.heap.size≤b) wr.drew ks a):=hid (HKS.out.to (fun b hp _=>⟨hp,rfl⟩) (Nat.le_refl _))
     have HKD2:Hid (Kept (fun b=>W.heap.size≤b) wr.drew ks2 a2):=hid (HKS2.out.to (fun b hp _=>⟨hp,rfl⟩) (Nat.le_refl _))
     have HUS:Hid (W.heap.size≤wr.drew.heap.size):=hid HI.out.bel.size
     have HBI:=hid (binary_any (fun b=>W.heap.size≤b) k a a2 ks ks2 wr.drew HKD.out HKD2.out HRA.out HRB.out)
     clear hs d0
     generalize wr.drew= wd at*
     go_wp2_with (go_at_call 69;fail)
     refine HBI.out.mono ?_
     rintro e z2 (⟨u,cs',hr,rfl,hk,hb⟩|⟨n,hr,rfl,hb⟩)
     ·have HEZ:=hid (HED.out.next hb)
      have HKZ:Hid (Kept (fun b=>w.heap.size < b) z2 cs' u):=hid (hk.to (fun b hp hlt=>⟨by have h1:=HE0.out.lt;have h2:=HUS.out;rcases hp with h|h<;>omega,rfl⟩) (Nat.le_refl _))
      have HCL:=hid (val_one hk.val).1
      have HON:=hid (val_one hk.val).2
      have HRE2:Hid (res= .ok u):=hid (HRE.out.trans hr)
      have HRW:Hid (rightW u= true):=hid (binV_right HRA.out hr)
      clear hk hb hr
      go_wp2_with (((with_reducible refine wl_wstore 26 _ _ rfl rfl ?hw (w.heap.size) zV6 (cs') HEZ.out.wb ?h5 ?h6 ?h7 ?h8 ?h9 ?_);(case hw=>(first|exact wanted_none rfl|exact wanted_if rfl rfl rfl rfl));(case h5=>rw[HCL.out];rfl);(case h6=>rfl);(case h7=>rfl);(case h8=>rw[HCL.out];kernel_rfl);(case h9=>exact HON.out);intro Z2 hz hb;have HX:=hid hz;have HXB:=hid hb;clear hz hb))
      (try simp only[Exit.inBlock,Exit.then])
      refine bodyPost_ret (results_cellV rfl Tryz.underlying26 rfl _ _ (w.heap.size) (cs') (by rw[HCL.out];kernel_rfl) rfl HX.out.range) rfl ?_
      exact .ok HRE2.out rfl (HEZ.out.kept HKZ.out HXB.out) (HRW.out) (HEZ.out.fin HXB.out)
     ·have HRE2:Hid (res= .error n):=hid (HRE.out.trans hr)
      have HB:=hid hb
      clear hb hr
      go_wp2
      exact⟨rfl,.no HRE2.out rfl (HED.out.next HB.out).bel⟩
  |succ g=>
   have hlt:(j:Int) <(its.length:Int):=by omega
   obtain⟨y,hy⟩:∃ y,its[j]?= some y:=⟨_,List.getElem?_eq_getElem (by omega)⟩
   obtain⟨b,ob,rfl,hev⟩:=HA.out (by omega)
   have HEV:=hid (hev j y hy wr (HE0.out.bel.trans (HI.out.bel.mono HE0.out.bel.size)))
   have HY:=hid hy
   have HST:=hid (seqR_step (E:=E) (V:=V) hy)
   clear hev hy
   go_upto_region 18 with (fail)
   go_wp2_with (go_at_call 39;fail)
   refine HEV.out.mono ?_
   rintro e u6 (⟨v,cs',hr,rfl,hk6,hrw,hb6⟩|⟨n,hr,rfl,hb6⟩)
   ·obtain⟨hl6,ho6⟩:=val_one hk6.val
    have HK6:=hid hk6
    have HB6:=hid hb6
    have HL6:=hid hl6
    have HO6:=hid ho6
    have HRW:=hid hrw
    have HSQ2:Hid (seqR (evalEL E V its)=(seqR (evalEL E V (its.drop (j+1)))).map ((vs ++ [v]) ++ ·)):=hid (by rw[HSEQ.out,HST.out,hr];exact map_map_app _ _ _)
    clear hk6 hb6 hl6 ho6 hrw hr HEV HST d0 d9
    have HC7:Hid (∀ i u,(enc6 ⟨cs',HL6.out⟩)[i]?= some u→(u6.alloc (.cells ⟨cs'⟩ 26)).cell? ⟨u6.heap.size,i,none⟩= some u):=hid (cells_box u6 cs' 26)
    have HB7:=hid (box_below u6 (.cells ⟨cs'⟩ 26))
    have HS7:Hid (W.heap.size≤(u6.alloc (.cells ⟨cs'⟩ 26)).heap.size):=hid (Nat.le_trans HI.out.bel.size (Nat.le_trans HB6.out.size HB7.out.size))
    have HOW:Hid (OwnSl 26 6 enc6 (u6.alloc (.cells ⟨cs'⟩ 26)) W.heap.size (.slice UA KL.length uc) KL):=hid (HI.out.own.below (HB6.out.trans (HB7.out.mono HB6.out.size)))
    have HM63:Hid (KL.length+1≤maxLen):=hid (by have:=HLEN.out;have h2:=HKLL.out;have h3:=HVL.out;unfold maxLen;omega)
    have HM88:Hid ((KL.length+1) *88≤140737488355328):=hid (by have:=HLEN.out;have h2:=HKLL.out;have h3:=HVL.out;omega)
    go_wp2_with (first|((with_reducible refine wl_build1 24 _ rfl ?hw3 26 j0 _ cs' ?hx3 Tryz.underlying24 HJ0.out HY0.out ?hs3 ?h03 ?hm3 ?_);(case hw3=>(first|exact wanted_none rfl|exact wanted_if rfl rfl rfl rfl));(case hx3=>rfl);(case hs3=>rw[HL6.out];exact HY1.out);(case h03=>rw[HL6.out];decide);(case hm3=>rw[HL6.out];decide))|(at_builtin;(refine wl_push6 rfl _ _ 24 rfl W.heap.size 26 j0 _ 6 88 enc6 Tryz.underlying24 HJ0.out HY0.out HY1.out HY2.out rfl (by decide) enc6_len (.slice UA KL.length uc) KL rfl HOW.out u6.heap.size 1 ⟨cs',HL6.out⟩ HO6.out rfl HC7.out HM63.out HM88.out HS7.out ?_;intro v' u8 hown hg hblk;have HN:=hid (RowInv.next (k:=⟨cs',HL6.out⟩) HI.out (Below.refl _ _) HB6.out HB7.out HK6.out hown hg hblk);clear hown hg hblk)))
    go_roundg g
    case measure=>omega
    case rel=>
     have hb:=HLEN.out
     have hq:wrap64 ((j:Int)+1)=((j+1:Nat):Int):=by unfold wrap64;omega
     refine⟨j+1,vs ++ [v],KL ++ [⟨cs',HL6.out⟩],?_,?_,?_,HSQ2.out,right_snoc HRI.out HRW.out,HN.out⟩
     ·omega
     ·first|rw[hq]|rfl
     ·rw[List.length_append,HVL.out];rfl
   ·have HB6:=hid hb6
    have HRE:Hid (res= .error n):=hid (by rw[HRES.out,HSEQ.out,HST.out,hr];rfl)
    clear hb6 hr HEV HST d0 d9
    go_wp2
    exact⟨rfl,.no HRE.out rfl (HEU.out.next HB6.out).bel⟩
end
end Go.Proofs.YtmpbepjjbaeebaaGreatDoor
end
section
namespace Go.Proofs.YtmpbepjjbaeebaaGreatDoor
open Go Go.RowKit
open Go.Lib (hid)
theorem named_len {k:Int} {s:ByteArray} {ns:List ByteArray} {nk:Nat} (h:namedE k s ns nk= true):ns.length≤nk:=by
 unfold namedE at h
 split at h
 ·simp only[Bool.and_eq_true,beq_iff_eq] at h;omega
 split at h
 ·simp only[Bool.and_eq_true,beq_iff_eq] at h;omega
 split at h
 ·simp only[Bool.and_eq_true,beq_iff_eq] at h;omega
 ·simp only[Bool.and_eq_true,beq_iff_eq] at h;omega
theorem lenE2 {l:List ET} (h:l.length= 2):∃ a b,l=[a,b]:=by
 match l,h with
 |[a,b],_=>exact⟨a,b,rfl⟩
theorem lenE3 {l:List ET} (h:l.length= 3):∃ a b c,l=[a,b,c]:=by
 match l,h with
 |[a,b,c],_=>exact⟨a,b,c,rfl⟩
theorem kids_lenE {k:Int} {n:Nat} (h:kidsB (wantsZ k) n= true):((k= 1∨k= 2)∧n= 0)∨((k= 3∨k= 4∨k= 18∨(20≤k∧k≤23))∧n= 1)∨(((5≤k∧k≤14)∨k= 19)∧n= 2)∨(k= 15∧n= 3)∨(k= 16∨k= 17):=by
 unfold kidsB at h
 simp only[Bool.and_eq_true,Bool.not_eq_true',beq_eq_false_iff_ne,Bool.or_eq_true,decide_eq_true_eq,beq_iff_eq] at h
 unfold wantsZ at h
 (repeat' split at h)<;>omega
theorem meval_any (mp:Nat) (va vb:Value) (E:List VarT) (V:List VT):∀ (t:ET) (d:Nat) (cs:List Value) (p o:Nat) (w:World),rightE t d= true→szE t≤200→w.rangeAt p o cs→p < w.heap.size→ExpAt w w.heap.size cs t→MacAt w mp va vb E V→
  Calls Tryz.prog 39 #[.pointer (some ⟨mp,0,none⟩),.pointer (some ⟨p,o,none⟩)] w (EvPost (evalE E V t) w):=by
 intro t
 induction t using ET.ind with
 |h k s v ns its ih=>
  intro d cs p o w hr hsz hrg hp hv hm
  rw[rightE] at hr
  simp only[Bool.and_eq_true,decide_eq_true_eq] at hr
  obtain⟨_,hk,hnm,hval,hrl⟩:=hr
  rw[rightEL_iff] at hrl
  rw[szE] at hsz
  have hlen:its.length≤199:=by have:=szEL_len its;omega
  obtain⟨v0,v1,v2,v3,v4,v5,vn,vi,rfl,_,hs,hvv,hns,hil,hi⟩:=hv.inv
  obtain⟨_,A,c,rfl,hA⟩:=hi
  have hEV:0 < its.length→∃ b ob,A= some ⟨b,ob,none⟩∧∀ j x,its[j]?= some x→EvAt mp b (ob+j*10) w (evalE E V x):=fun h0=>by
   obtain⟨b,ob,rfl,hb,hc⟩:=hA h0
   refine⟨b,ob,rfl,fun j x hx u hu=> ?_⟩
   obtain⟨ks,hkl,hkr,hkv⟩:=hc j x hx
   have hmem:=List.mem_of_getElem? hx
   exact ih x hmem (d+1) ks b (ob+j*10) u (hrl x hmem) (by have:=szEL_mem hmem;omega) (rangeAt_below hkr hu hb) (Nat.lt_of_lt_of_le hb hu.size) ((hkv.under hu).more hu.size) (hm.below hu)
  have hnl:ns.length≤1000:=by have:=named_len hnm;omega
  rcases kids_lenE hk with ⟨hk',_⟩|⟨hk',hn⟩|⟨hk',hn⟩|⟨hk',hn⟩|hk'
  ·rcases hk' with rfl|rfl
   ·unfold valB at hval
    rw[if_pos rfl] at hval
    rw[evalE,if_pos rfl]
    exact ev_const mp va vb E V p o w s v v0 v1 v2 v3 v4 v5 vn _ hrg hp hvv hval hm
   ·rw[evalE,if_neg (by decide),if_pos rfl]
    exact ev_name mp va vb E V p o w s v0 v1 v2 v3 v4 v5 vn _ hrg hp hm
  ·exact ev_else mp va vb E V p o w k s v0 v1 v2 v3 v4 v5 vn A c ns its (by simp;omega) (by simp;omega) (by simp;omega) (by simp;omega) (by simp;omega) hlen (.inr ⟨by omega,by omega,.inl hn⟩) hrg hp hns hnl hEV hm (evalE_else ⟨by omega,by omega,by omega⟩)
  ·by_cases h13:k= 13∨k= 14
   ·obtain⟨x,y,rfl⟩:=lenE2 hn
    obtain⟨b,ob,rfl,he⟩:=hEV (by simp)
    have e0:=he 0 x rfl
    have e1:=he 1 y rfl
    rw[Nat.zero_mul,Nat.add_zero] at e0
    rw[Nat.one_mul] at e1
    rcases h13 with rfl|rfl
    ·refine ev_and mp va vb E V p o w s v0 v1 v2 v3 v4 v5 vn b ob c _ _ _ ?_ hrg hp e0 e1 hm
     rw[evalE,evalEL,evalEL,evalEL,if_neg (by decide),if_neg (by decide),if_pos (by decide)]
    ·refine ev_or mp va vb E V p o w s v0 v1 v2 v3 v4 v5 vn b ob c _ _ _ ?_ hrg hp e0 e1 hm
     rw[evalE,evalEL,evalEL,evalEL,if_neg (by decide),if_neg (by decide),if_pos (by decide)]
   ·exact ev_else mp va vb E V p o w k s v0 v1 v2 v3 v4 v5 vn A c ns its (by simp;omega) (by simp;omega) (by simp;omega) (by simp;omega) (by simp;omega) hlen (.inr ⟨by omega,by omega,.inr hn⟩) hrg hp hns hnl hEV hm (evalE_else ⟨by omega,by omega,by omega⟩)
  ·subst hk'
   obtain⟨x,y,z,rfl⟩:=lenE3 hn
   obtain⟨b,ob,rfl,he⟩:=hEV (by simp)
   have e0:=he 0 x rfl
   have e1:=he 1 y rfl
   have e2:=he 2 z rfl
   rw[Nat.zero_mul,Nat.add_zero] at e0
   rw[Nat.one_mul] at e1
   refine ev_if mp va vb E V p o w s v0 v1 v2 v3 v4 v5 vn b ob c _ _ _ _ ?_ hrg hp e0 e1 e2 hm
   rw[evalE,evalEL,evalEL,evalEL,evalEL,if_neg (by decide),if_neg (by decide),if_pos (by decide)]
  ·exact ev_else mp va vb E V p o w k s v0 v1 v2 v3 v4 v5 vn A c ns its (by simp;omega) (by simp;omega) (by simp;omega) (by simp;omega) (by simp;omega) hlen (.inl hk') hrg hp hns hnl hEV hm (evalE_else ⟨by omega,by omega,by omega⟩)
end Go.Proofs.YtmpbepjjbaeebaaGreatDoor
end
