/- Parts of a proof: E10Y. -/
import Derived.Test.YtmpbepjjbaeebaaGreatDoorPackM39
set_option maxHeartbeats 8000000
set_option maxRecDepth 100000
set_option linter.unusedVariables false
set_option linter.unusedSimpArgs false
namespace Go.Proofs.YtmpbepjjbaeebaaGreatDoor
open Go Go.RowKit
open Go.Lib (hid)
theorem sized_any (P:Nat→Prop) (v:VT) (cs:List Value) (w:World) (hv:Kept P w cs v):Calls Tryz.prog 66 #[.agg ⟨cs⟩] w (UnPost P (szd v) w):=by
 have HV:=hid hv
 have HCL:=hid (val_one hv.val).1
 have HON:=hid (val_one hv.val).2
 have HVW:=hid hv.val
 clear hv
 go_enter Tryz.func66,Tryz.ntmps66
 go_upto_region 1 with (fail)
 have HST:=hid (un_start w cs)
 have hz6:(#[Value.int IntKind.i64 0,Value.int IntKind.i64 0,Value.float FloatKind.f64 0,Value.string { data:= #[] },Value.slice none 0 0,Value.slice none 0 0]:Array Value)= zV6.toArray:=rfl
 rw[hz6]
 clear hz6
 generalize (w.alloc (.cells ⟨cs⟩ 26)).alloc (.cells zV6.toArray 26)= W at*
 have HR:=hid (right_top v cs W ((HVW.out.under HST.out.bel).more HST.out.bel.size))
 obtain⟨b,hb⟩:∃ b,(decide (cntV v 0≤200) && rightV v 1)= b:=⟨_,rfl⟩
 have HB:Hid (rightW v= b):=hid hb
 rw[hb] at HR
 clear hb
 cases b with
 |true=>
  have HRES:Hid (szd v= .ok v):=hid (by unfold szd;rw[if_pos HB.out])
  go_upto_region 2 with (first|((with_reducible refine wl_sload 26 _ rfl ?hwl w.heap.size 0 cs _ rfl HST.out.wa.range Tryz.underlying26 rfl ?hil ?_);(case hwl=>(first|exact wanted_none rfl|exact wanted_if rfl rfl rfl rfl));(case hil=>rw[HCL.out];kernel_rfl))|(go_at_call 37;refine HR.out.mono ?_;rintro e z ⟨rfl,hb⟩;have HBZ:=hid hb;clear hb)|(go_at_call 36;refine(must_yes 3 _).mono ?_;rintro e z ⟨rfl,hzw⟩;rw[hzw];clear hzw z))
  have HRA:=hid (HST.out.wa.keep (HBZ.out.block _ HST.out.wa.lt))
  have HRZ:=hid (HST.out.wb.keep (HBZ.out.block _ HST.out.wb.lt))
  have HRG:=hid HRA.out.range
  go_wp2_with (first|((with_reducible refine wl_sload 26 _ rfl ?hwl w.heap.size 0 cs _ rfl HRG.out Tryz.underlying26 rfl ?hil ?_);(case hwl=>(first|exact wanted_none rfl|exact wanted_if rfl rfl rfl rfl));(case hil=>rw[HCL.out];kernel_rfl))|((with_reducible refine wl_wstore 26 _ _ rfl rfl ?hw (w.heap.size+1) zV6 (cs) HRZ.out ?h5 ?h6 ?h7 ?h8 ?h9 ?_);(case hw=>(first|exact wanted_none rfl|exact wanted_if rfl rfl rfl rfl));(case h5=>rw[HCL.out];rfl);(case h6=>rfl);(case h7=>rfl);(case h8=>rw[HCL.out];kernel_rfl);(case h9=>exact HON.out);intro Z2 hz hb;have HX:=hid hz;have HXB:=hid hb;clear hz hb))
  (try simp only[Exit.inBlock,Exit.then])
  refine bodyPost_ret (results_cellV rfl Tryz.underlying26 rfl _ _ (w.heap.size+1) (cs) (by rw[HCL.out];kernel_rfl) rfl HX.out.range) rfl ?_
  have hbel:=(HST.out.bel.trans (HBZ.out.mono HST.out.bel.size)).trans (HXB.out.below (B:=w.heap.size) (Nat.le_trans HST.out.bel.size HBZ.out.size) (by omega) (by omega))
  exact .ok HRES.out rfl (HV.out.grow hbel) hbel
 |false=>
  have HRES:Hid (szd v= .error 3):=hid (by unfold szd;rw[if_neg (by rw[HB.out];decide)])
  go_wp2_with (first|((with_reducible refine wl_sload 26 _ rfl ?hwl w.heap.size 0 cs _ rfl HST.out.wa.range Tryz.underlying26 rfl ?hil ?_);(case hwl=>(first|exact wanted_none rfl|exact wanted_if rfl rfl rfl rfl));(case hil=>rw[HCL.out];kernel_rfl))|(go_at_call 37;refine HR.out.mono ?_;rintro e z ⟨rfl,hb⟩;have HBZ:=hid hb;clear hb)|(go_at_call 36;refine(must_no 3 _).mono ?_;rintro e z ⟨rfl,hzw⟩;rw[hzw];clear hzw z))
  exact⟨rfl,.no HRES.out rfl (HST.out.bel.trans (HBZ.out.mono HST.out.bel.size))⟩
theorem flat6_inv:∀ (KL:List Cells6) (j:Nat) (u:Value),(flat enc6 KL)[j]?= some u→∃ i k r,KL[i]?= some k∧j= i*6+r∧(enc6 k)[r]?= some u
 |[],j,u,h=>by simp[flat] at h
 |k::KL,j,u,h=>by
  have h1:flat enc6 (k::KL)= enc6 k ++ flat enc6 KL:=rfl
  rw[h1] at h
  by_cases hj:j < 6
  ·rw[List.getElem?_append_left (by rw[enc6_len];exact hj)] at h
   exact⟨0,k,j,rfl,by omega,h⟩
  ·rw[List.getElem?_append_right (by rw[enc6_len];omega),enc6_len] at h
   obtain⟨i,k',r,h2,h3,h4⟩:=flat6_inv KL (j - 6) u h
   exact⟨i+1,k',r,by simpa using h2,by omega,h4⟩
theorem flat6_app:∀ (K L:List Cells6),flat enc6 (K ++ L)= flat enc6 K ++ flat enc6 L
 |[],L=>rfl
 |k::K,L=>by
  show enc6 k ++ flat enc6 (K ++ L)=(enc6 k ++ flat enc6 K) ++ flat enc6 L
  rw[flat6_app K L,List.append_assoc]
theorem flat6_len:∀ (K:List Cells6),(flat enc6 K).length= K.length*6
 |[]=>rfl
 |k::K=>by
  show(enc6 k ++ flat enc6 K).length= _
  rw[List.length_append,enc6_len,flat6_len K,List.length_cons];omega
theorem items_cells {P:Nat→Prop} {w:World} {v:Value} {its:List VT} (h:SlAt (only w P) w.heap.size 6 (ValAt (only w P) w.heap.size) v its):∃ A c,v= .slice A its.length c∧∃ KL:List Cells6,KL.length= its.length∧
  (∀ (j:Nat) (k:Cells6) (x:VT),KL[j]?= some k→its[j]?= some x→Kept P w k.1 x)∧(0 < its.length→∃ b ob,A= some ⟨b,ob,none⟩∧b < w.heap.size∧∀ j u,(flat enc6 KL)[j]?= some u→w.cell? ⟨b,ob+j,none⟩= some u)∧(∀ u∈flat enc6 KL,u.oneCell'= true):=by
 obtain⟨_,A,c,rfl,hA⟩:=h
 refine⟨A,c,rfl,?_⟩
 rcases Nat.eq_zero_or_pos its.length with h0|h0
 ·exact⟨[],by simp[h0],fun j k x hk=>by simp at hk,fun h1=>by omega,fun u hu=>by simp[flat] at hu⟩
 ·obtain⟨b,o,rfl,hb,hc⟩:=hA h0
  have hex:∀ i:Nat,∃ k:Cells6,∀ x,its[i]?= some x→(only w P).rangeAt b (o+i*6) k.1∧ValAt (only w P) w.heap.size k.1 x:=fun i=>by
   cases hx:its[i]? with
   |none=>exact⟨⟨[undef,undef,undef,undef,undef,undef],rfl⟩,fun x h=>by cases h⟩
   |some x=>
    obtain⟨ks,hl,hr,hv⟩:=hc i x hx
    exact⟨⟨ks,hl⟩,fun y hy=>by injection hy with hy;subst hy;exact⟨hr,hv⟩⟩
  obtain⟨f,hf⟩:=Classical.skolem.1 hex
  have hKL:∀ (j:Nat) (k:Cells6),((List.range its.length).map f)[j]?= some k→j < its.length∧k= f j:=fun j k hk=>by
   rw[List.getElem?_map,Option.map_eq_some_iff] at hk
   obtain⟨i,hi,rfl⟩:=hk
   obtain⟨h1,h2⟩:=List.getElem?_eq_some_iff.1 hi
   simp at h1 h2
   subst h2
   exact⟨h1,rfl⟩
  refine⟨(List.range its.length).map f,by simp,fun j k x hk hx=> ?_,fun _=>⟨b,o,rfl,hb,fun j u hu=> ?_⟩,fun u hu=> ?_⟩
  ·obtain⟨_,rfl⟩:=hKL j k hk
   exact(hf j x hx).2
  ·obtain⟨i,k,r,h1,rfl,h3⟩:=flat6_inv _ j u hu
   obtain⟨hi,rfl⟩:=hKL i k h1
   have:=(hf i its[i] (List.getElem?_eq_getElem hi)).1 r u h3
   rw[show o+i*6+r= o+ (i*6+r) by omega] at this
   exact(only_cell.1 this).2
  ·obtain⟨j,hj⟩:=List.mem_iff_getElem?.1 hu
   obtain⟨i,k,r,h1,rfl,h3⟩:=flat6_inv _ j u hj
   obtain⟨hi,rfl⟩:=hKL i k h1
   exact ValAt.one (hf i its[i] (List.getElem?_eq_getElem hi)).2 u (List.mem_of_getElem? h3)
theorem row_kept {Q:Nat→Prop} {w':World} {base:Nat} {v:Value} {KL:List Cells6} {its:List VT} (ho:OwnSl 26 6 enc6 w' base v KL) (hl:KL.length= its.length) (hm:its.length≤9223372036854775807) (hQ:∀ b,base≤b→Q b)
  (he:∀ (j:Nat) (k:Cells6) (x:VT),KL[j]?= some k→its[j]?= some x→Kept Q w' k.1 x):SlAt (only w' Q) w'.heap.size 6 (ValAt (only w' Q) w'.heap.size) v its:=by
 refine⟨hm,?_⟩
 rcases ho.2 with ⟨rfl,h0⟩|⟨g,cap,cur,hv,hg,_,_⟩
 ·exact⟨none,0,by rw[← hl,h0],fun h1=>by omega⟩
 ·refine⟨some ⟨g,0,none⟩,cap,by rw[hv,hl],fun _=> ?_⟩
  have hown:v.ownBlock= some g:=by rw[hv];rfl
  refine⟨g,0,rfl,own_lt ho hown,fun i x hx=> ?_⟩
  have hi:=(List.getElem?_eq_some_iff.1 hx).1
  have hki:KL[i]?= some (KL[i]'(by rw[hl];exact hi)):=List.getElem?_eq_getElem _
  refine⟨_,(KL[i]'(by rw[hl];exact hi)).2,fun j c hc=> ?_,he i _ x hki hx⟩
  refine only_cell.2 ⟨hQ g hg,?_⟩
  have:=World.ownsRow.cells ho hown (i*6+j) c (flat_at enc6_len KL i _ hki j c hc)
  rw[Addr.add_mid] at this
  rw[show 0+i*6+j= 0+ (i*6+j) by omega];exact this
theorem wfI_iff {n:Int}:wfI n↔(-9223372036854775808≤n∧n≤9223372036854775807):=by
 refine⟨fun h=> ?_,wfI_of⟩
 unfold wfI Lit.wf at h
 simp only[Bool.and_eq_true,decide_eq_true_eq] at h
 exact h
theorem okI_wf {m n:Int} (h:okI m= .ok n): -9223372036854775808≤n∧n≤9223372036854775807:=by
 unfold okI at h
 split at h
 ·injection h with h;subst h;assumption
 ·cases h
theorem wholeZ_wf {k a b n:Int} (ha: -9223372036854775808≤a∧a≤9223372036854775807) (h:wholeZ k a b= .ok n): -9223372036854775808≤n∧n≤9223372036854775807:=by
 unfold wholeZ at h
 split at h
 ·exact okI_wf h
 split at h
 ·exact okI_wf h
 split at h
 ·exact okI_wf h
 split at h
 ·cases h
 split at h
 ·injection h with h;subst h;exact tmod_in ha
 ·exact okI_wf h
theorem fop_wf (op:BinOp) (a b:Nat):(Lit.float .f64 (fopV op a b)).wf= true:=by
 unfold fopV
 split
 ·exact wf_canon (floatBits_wf (by assumption))
 ·decide
theorem floatsZ_wf {k:Int} {a b n:Nat} (h:floatsZ k a b= .ok n):canonF n= n∧(Lit.float .f64 n).wf= true:=by
 unfold floatsZ at h
 split at h
 ·injection h with h;subst h;exact⟨fop_canon _ _ _,fop_wf _ _ _⟩
 split at h
 ·injection h with h;subst h;exact⟨fop_canon _ _ _,fop_wf _ _ _⟩
 split at h
 ·injection h with h;subst h;exact⟨fop_canon _ _ _,fop_wf _ _ _⟩
 split at h
 ·injection h with h;subst h;exact⟨fop_canon _ _ _,fop_wf _ _ _⟩
 ·cases h
theorem info_row:(Tryz.prog.info? 24).map (fun i=>(i.zero,i.size,i.bytes))= some (some (.slice none 0 0),1,24):=by kernel_rfl
theorem run_build2s {P:Program} (w:World) (t e:TypeId) (i:TypeInfo) (z:Value) (A B:Option Addr) (n m c d:Nat) (ht:P.underlying t= some (.slice e)) (hi:P.info? e= some i) (hz:i.zero= some z) (hzc:z.cells.size= 1) (hsz:i.size= 1):
  (Instr.buildSlice t 2 #[(0,.slice A n c),(1,.slice B m d)]).run P w= .ok (.slice (some ⟨w.heap.size,0,none⟩) 2 2) (w.alloc (.cells #[.slice A n c,.slice B m d] e)):=by
 have hs:(sizeOf e).run P w= .ok 1 w:=by simp[sizeOf,typeInfo,hi,hsz]
 have hzv:(zeroValue e).run P w= .ok z w:=by simp[zeroValue,typeInfo,hi,hz]
 have hf:∀ cells:Array Value,cells.size= 2*1→Instr.fill (fun i=>some (i*1,1)) cells [(0,.slice A n c),(1,.slice B m d)]= some #[.slice A n c,.slice B m d]:=fun cells hc=>fill_two 1 [.slice A n c] [.slice B m d] cells rfl rfl hc
 unfold Instr.buildSlice
 simp only[Sem.run_bind,run_underlying ht,Result.andThen_ok,hs]
 rw[if_neg (by omega),if_neg (by omega)]
 simp only[Sem.run_bind,Sem.run_pure,Result.andThen_ok,hzv]
 rw[hf _ (by simp)]
 simp[newRow]
theorem exec_build2s {P:Program} {o:Oper} {a:Act} {w:World} (t:TypeId) (x y:Operand) (ho:o.op= .buildSlice t 2 #[(0,x),(1,y)]) (e:TypeId) (i:TypeInfo) (z:Value) (A B:Option Addr) (n m c d:Nat) (hx:a.eval x= .slice A n c) (hy:a.eval y= .slice B m d)
  (ht:P.underlying t= some (.slice e)) (hi:P.info? e= some i) (hz:i.zero= some z) (hzc:z.cells.size= 1) (hsz:i.size= 1):
  (execOp a.eval o).run P w= .ok (.value (.slice (some ⟨w.heap.size,0,none⟩) 2 2)) (w.alloc (.cells #[.slice A n c,.slice B m d] e)):=by
 unfold execOp
 have hr:=run_build2s (P:=P) w t e i z A B n m c d ht hi hz hzc hsz
 simp only[ho,List.map_toArray,List.map_cons,List.map_nil,hx,hy,Sem.run_bind,Sem.run_pure,Result.andThen_ok,hr]
section
variable (P:Nat→Prop)
theorem bi_idxx (na nb:Int) (fa fb:Nat) (sa sb:ByteArray) (nsa nsb:List ByteArray) (ia ib:List VT) (ca cb:List Value) (w:World) (ka kb:Int) (h1:(ka ==5)= false) (hv:Kept P w ca (.mk ka na fa sa nsa ia)) (hv2:Kept P w cb (.mk kb nb fb sb nsb ib)) (hra:rightW (.mk ka na fa sa nsa ia)= true) (hrb:rightW (.mk kb nb fb sb nsb ib)= true) {r:Res} (hres:r= .error 6):
  Calls Tryz.prog 69 #[.int .i64 19,.agg ⟨ca⟩,.agg ⟨cb⟩] w (UnPost P r w):=by
 have HV:=hid hv
 have HV2:=hid hv2
 have HVW:=hid hv.val
 have HVW2:=hid hv2.val
 have HRA:=hid hra
 have HRB:=hid hrb
 have HRES:=hid hres
 have HON1:=hid (val_one hv.val).2
 have HON2:=hid (val_one hv2.val).2
 obtain⟨vna,via,rfl,hkw,hnw,hfw,hsw,hns,hil,hi⟩:=ValAt.inv hv
 obtain⟨hnl,NA1,na2,rfl,hnA⟩:=hns
 have hi0:=hi
 obtain⟨hil2,A,c,rfl,hA⟩:=hi
 obtain⟨vnb,vib,rfl,hkw2,hnw2,hfw2,hsw2,hns2,hil3,hi2⟩:=ValAt.inv hv2
 obtain⟨hnl2,NB1,nb2,rfl,hnB⟩:=hns2
 have hi20:=hi2
 obtain⟨hil4,B,c2,rfl,hB⟩:=hi2
 have HWF:=hid (And.intro hnw (And.intro hfw (And.intro hnw2 hfw2)))
 have HIT:=hid hi0
 have HIT2:=hid hi20
 clear hkw hnw hfw hsw hnl hnA hil hil2 hA hkw2 hnw2 hfw2 hsw2 hnl2 hnB hil3 hil4 hB hv hv2 hra hrb hres hi0 hi20
 go_enter Tryz.func69,Tryz.ntmps69
 go_upto_region 1 with (fail)
 have HST:=hid (bb_start w [.int .i64 ka,.int .i64 na,.float .f64 fa,.string sa,.slice NA1 nsa.length na2,.slice A ia.length c] [.int .i64 kb,.int .i64 nb,.float .f64 fb,.string sb,.slice NB1 nsb.length nb2,.slice B ib.length c2])
 have hz6:(#[Value.int IntKind.i64 0,Value.int IntKind.i64 0,Value.float FloatKind.f64 0,Value.string { data:= #[] },Value.slice none 0 0,Value.slice none 0 0]:Array Value)= zV6.toArray:=rfl
 rw[hz6]
 clear hz6
 generalize ((w.alloc (.cells ⟨[.int .i64 ka,.int .i64 na,.float .f64 fa,.string sa,.slice NA1 nsa.length na2,.slice A ia.length c]⟩ 26)).alloc (.cells ⟨[.int .i64 kb,.int .i64 nb,.float .f64 fb,.string sb,.slice NB1 nsb.length nb2,.slice B ib.length c2]⟩ 26)).alloc (.cells zV6.toArray 26)= W at*
 have d0:W.cell? ⟨w.heap.size,0,none⟩= some (.int .i64 ka):=HST.out.wa.cells 0 rfl
 have c0:W.cell? ⟨w.heap.size+1,0,none⟩= some (.int .i64 kb):=HST.out.wb.cells 0 rfl
 go_wp2_with ((go_at_call 36;refine(must_no 6 _).mono ?_;rintro e z ⟨rfl,hzw⟩;rw[hzw];clear hzw z))
 exact⟨rfl,.no HRES.out rfl HST.out.bel⟩
theorem bi_idxy (na nb:Int) (fa fb:Nat) (sa sb:ByteArray) (nsa nsb:List ByteArray) (ia ib:List VT) (ca cb:List Value) (w:World) (kb:Int) (h1:(kb ==2)= false) (hv:Kept P w ca (.mk 5 na fa sa nsa ia)) (hv2:Kept P w cb (.mk kb nb fb sb nsb ib)) (hra:rightW (.mk 5 na fa sa nsa ia)= true) (hrb:rightW (.mk kb nb fb sb nsb ib)= true) {r:Res} (hres:r= .error 6):
  Calls Tryz.prog 69 #[.int .i64 19,.agg ⟨ca⟩,.agg ⟨cb⟩] w (UnPost P r w):=by
 have HV:=hid hv
 have HV2:=hid hv2
 have HVW:=hid hv.val
 have HVW2:=hid hv2.val
 have HRA:=hid hra
 have HRB:=hid hrb
 have HRES:=hid hres
 have HON1:=hid (val_one hv.val).2
 have HON2:=hid (val_one hv2.val).2
 obtain⟨vna,via,rfl,hkw,hnw,hfw,hsw,hns,hil,hi⟩:=ValAt.inv hv
 obtain⟨hnl,NA1,na2,rfl,hnA⟩:=hns
 have hi0:=hi
 obtain⟨hil2,A,c,rfl,hA⟩:=hi
 obtain⟨vnb,vib,rfl,hkw2,hnw2,hfw2,hsw2,hns2,hil3,hi2⟩:=ValAt.inv hv2
 obtain⟨hnl2,NB1,nb2,rfl,hnB⟩:=hns2
 have hi20:=hi2
 obtain⟨hil4,B,c2,rfl,hB⟩:=hi2
 have HWF:=hid (And.intro hnw (And.intro hfw (And.intro hnw2 hfw2)))
 have HIT:=hid hi0
 have HIT2:=hid hi20
 clear hkw hnw hfw hsw hnl hnA hil hil2 hA hkw2 hnw2 hfw2 hsw2 hnl2 hnB hil3 hil4 hB hv hv2 hra hrb hres hi0 hi20
 go_enter Tryz.func69,Tryz.ntmps69
 go_upto_region 1 with (fail)
 have HST:=hid (bb_start w [.int .i64 5,.int .i64 na,.float .f64 fa,.string sa,.slice NA1 nsa.length na2,.slice A ia.length c] [.int .i64 kb,.int .i64 nb,.float .f64 fb,.string sb,.slice NB1 nsb.length nb2,.slice B ib.length c2])
 have hz6:(#[Value.int IntKind.i64 0,Value.int IntKind.i64 0,Value.float FloatKind.f64 0,Value.string { data:= #[] },Value.slice none 0 0,Value.slice none 0 0]:Array Value)= zV6.toArray:=rfl
 rw[hz6]
 clear hz6
 generalize ((w.alloc (.cells ⟨[.int .i64 5,.int .i64 na,.float .f64 fa,.string sa,.slice NA1 nsa.length na2,.slice A ia.length c]⟩ 26)).alloc (.cells ⟨[.int .i64 kb,.int .i64 nb,.float .f64 fb,.string sb,.slice NB1 nsb.length nb2,.slice B ib.length c2]⟩ 26)).alloc (.cells zV6.toArray 26)= W at*
 have d0:W.cell? ⟨w.heap.size,0,none⟩= some (.int .i64 5):=HST.out.wa.cells 0 rfl
 have c0:W.cell? ⟨w.heap.size+1,0,none⟩= some (.int .i64 kb):=HST.out.wb.cells 0 rfl
 go_wp2_with ((go_at_call 36;refine(must_no 6 _).mono ?_;rintro e z ⟨rfl,hzw⟩;rw[hzw];clear hzw z))
 exact⟨rfl,.no HRES.out rfl HST.out.bel⟩
theorem bi_idxn (na nb:Int) (fa fb:Nat) (sa sb:ByteArray) (nsa nsb:List ByteArray) (ia ib:List VT) (ca cb:List Value) (w:World) (h1:decide (0≤nb)= false) (hv:Kept P w ca (.mk 5 na fa sa nsa ia)) (hv2:Kept P w cb (.mk 2 nb fb sb nsb ib)) (hra:rightW (.mk 5 na fa sa nsa ia)= true) (hrb:rightW (.mk 2 nb fb sb nsb ib)= true) {r:Res} (hres:r= .error 9):
  Calls Tryz.prog 69 #[.int .i64 19,.agg ⟨ca⟩,.agg ⟨cb⟩] w (UnPost P r w):=by
 have HV:=hid hv
 have HV2:=hid hv2
 have HVW:=hid hv.val
 have HVW2:=hid hv2.val
 have HRA:=hid hra
 have HRB:=hid hrb
 have HRES:=hid hres
 have HON1:=hid (val_one hv.val).2
 have HON2:=hid (val_one hv2.val).2
 obtain⟨vna,via,rfl,hkw,hnw,hfw,hsw,hns,hil,hi⟩:=ValAt.inv hv
 obtain⟨hnl,NA1,na2,rfl,hnA⟩:=hns
 have hi0:=hi
 obtain⟨hil2,A,c,rfl,hA⟩:=hi
 obtain⟨vnb,vib,rfl,hkw2,hnw2,hfw2,hsw2,hns2,hil3,hi2⟩:=ValAt.inv hv2
 obtain⟨hnl2,NB1,nb2,rfl,hnB⟩:=hns2
 have hi20:=hi2
 obtain⟨hil4,B,c2,rfl,hB⟩:=hi2
 have HWF:=hid (And.intro hnw (And.intro hfw (And.intro hnw2 hfw2)))
 have HIT:=hid hi0
 have HIT2:=hid hi20
 clear hkw hnw hfw hsw hnl hnA hil hil2 hA hkw2 hnw2 hfw2 hsw2 hnl2 hnB hil3 hil4 hB hv hv2 hra hrb hres hi0 hi20
 go_enter Tryz.func69,Tryz.ntmps69
 go_upto_region 1 with (fail)
 have HST:=hid (bb_start w [.int .i64 5,.int .i64 na,.float .f64 fa,.string sa,.slice NA1 nsa.length na2,.slice A ia.length c] [.int .i64 2,.int .i64 nb,.float .f64 fb,.string sb,.slice NB1 nsb.length nb2,.slice B ib.length c2])
 have hz6:(#[Value.int IntKind.i64 0,Value.int IntKind.i64 0,Value.float FloatKind.f64 0,Value.string { data:= #[] },Value.slice none 0 0,Value.slice none 0 0]:Array Value)= zV6.toArray:=rfl
 rw[hz6]
 clear hz6
 generalize ((w.alloc (.cells ⟨[.int .i64 5,.int .i64 na,.float .f64 fa,.string sa,.slice NA1 nsa.length na2,.slice A ia.length c]⟩ 26)).alloc (.cells ⟨[.int .i64 2,.int .i64 nb,.float .f64 fb,.string sb,.slice NB1 nsb.length nb2,.slice B ib.length c2]⟩ 26)).alloc (.cells zV6.toArray 26)= W at*
 have d0:W.cell? ⟨w.heap.size,0,none⟩= some (.int .i64 5):=HST.out.wa.cells 0 rfl
 have c0:W.cell? ⟨w.heap.size+1,0,none⟩= some (.int .i64 2):=HST.out.wb.cells 0 rfl
 have n1:W.cell? ⟨w.heap.size+1,1,none⟩= some (.int .i64 nb):=HST.out.wb.cells 1 rfl
 have n5:W.cell? ⟨w.heap.size,5,none⟩= some (.slice A ia.length c):=HST.out.wa.cells 5 rfl
 go_wp2_with (first|(go_at_call 36;refine(must_yes 6 _).mono ?_;rintro e z ⟨rfl,hzw⟩;rw[hzw];clear hzw z)|(go_at_call 36;refine(must_no 9 _).mono ?_;rintro e z ⟨rfl,hzw⟩;rw[hzw];clear hzw z))
 exact⟨rfl,.no HRES.out rfl HST.out.bel⟩
theorem bi_idxo (na nb:Int) (fa fb:Nat) (sa sb:ByteArray) (nsa nsb:List ByteArray) (ia ib:List VT) (ca cb:List Value) (w:World) (h1:decide (0≤nb)= true) (h2:decide (nb <(ia.length:Int))= false) (hv:Kept P w ca (.mk 5 na fa sa nsa ia)) (hv2:Kept P w cb (.mk 2 nb fb sb nsb ib)) (hra:rightW (.mk 5 na fa sa nsa ia)= true) (hrb:rightW (.mk 2 nb fb sb nsb ib)= true) {r:Res} (hres:r= .error 9):
  Calls Tryz.prog 69 #[.int .i64 19,.agg ⟨ca⟩,.agg ⟨cb⟩] w (UnPost P r w):=by
 have HV:=hid hv
 have HV2:=hid hv2
 have HVW:=hid hv.val
 have HVW2:=hid hv2.val
 have HRA:=hid hra
 have HRB:=hid hrb
 have HRES:=hid hres
 have HON1:=hid (val_one hv.val).2
 have HON2:=hid (val_one hv2.val).2
 obtain⟨vna,via,rfl,hkw,hnw,hfw,hsw,hns,hil,hi⟩:=ValAt.inv hv
 obtain⟨hnl,NA1,na2,rfl,hnA⟩:=hns
 have hi0:=hi
 obtain⟨hil2,A,c,rfl,hA⟩:=hi
 obtain⟨vnb,vib,rfl,hkw2,hnw2,hfw2,hsw2,hns2,hil3,hi2⟩:=ValAt.inv hv2
 obtain⟨hnl2,NB1,nb2,rfl,hnB⟩:=hns2
 have hi20:=hi2
 obtain⟨hil4,B,c2,rfl,hB⟩:=hi2
 have HWF:=hid (And.intro hnw (And.intro hfw (And.intro hnw2 hfw2)))
 have HIT:=hid hi0
 have HIT2:=hid hi20
 clear hkw hnw hfw hsw hnl hnA hil hil2 hA hkw2 hnw2 hfw2 hsw2 hnl2 hnB hil3 hil4 hB hv hv2 hra hrb hres hi0 hi20
 go_enter Tryz.func69,Tryz.ntmps69
 go_upto_region 1 with (fail)
 have HST:=hid (bb_start w [.int .i64 5,.int .i64 na,.float .f64 fa,.string sa,.slice NA1 nsa.length na2,.slice A ia.length c] [.int .i64 2,.int .i64 nb,.float .f64 fb,.string sb,.slice NB1 nsb.length nb2,.slice B ib.length c2])
 have hz6:(#[Value.int IntKind.i64 0,Value.int IntKind.i64 0,Value.float FloatKind.f64 0,Value.string { data:= #[] },Value.slice none 0 0,Value.slice none 0 0]:Array Value)= zV6.toArray:=rfl
 rw[hz6]
 clear hz6
 generalize ((w.alloc (.cells ⟨[.int .i64 5,.int .i64 na,.float .f64 fa,.string sa,.slice NA1 nsa.length na2,.slice A ia.length c]⟩ 26)).alloc (.cells ⟨[.int .i64 2,.int .i64 nb,.float .f64 fb,.string sb,.slice NB1 nsb.length nb2,.slice B ib.length c2]⟩ 26)).alloc (.cells zV6.toArray 26)= W at*
 have d0:W.cell? ⟨w.heap.size,0,none⟩= some (.int .i64 5):=HST.out.wa.cells 0 rfl
 have c0:W.cell? ⟨w.heap.size+1,0,none⟩= some (.int .i64 2):=HST.out.wb.cells 0 rfl
 have n1:W.cell? ⟨w.heap.size+1,1,none⟩= some (.int .i64 nb):=HST.out.wb.cells 1 rfl
 have n5:W.cell? ⟨w.heap.size,5,none⟩= some (.slice A ia.length c):=HST.out.wa.cells 5 rfl
 go_wp2_with (first|(go_at_call 36;refine(must_yes 6 _).mono ?_;rintro e z ⟨rfl,hzw⟩;rw[hzw];clear hzw z)|(go_at_call 36;refine(must_no 9 _).mono ?_;rintro e z ⟨rfl,hzw⟩;rw[hzw];clear hzw z))
 exact⟨rfl,.no HRES.out rfl HST.out.bel⟩
theorem bi_idx (na nb:Int) (fa fb:Nat) (sa sb:ByteArray) (nsa nsb:List ByteArray) (ia ib:List VT) (ca cb:List Value) (w:World) (j:Nat) (hj:j < ia.length) (hnb:Hid (nb=(j:Int))) (hv:Kept P w ca (.mk 5 na fa sa nsa ia)) (hv2:Kept P w cb (.mk 2 nb fb sb nsb ib)) (hra:rightW (.mk 5 na fa sa nsa ia)= true) (hrb:rightW (.mk 2 nb fb sb nsb ib)= true) {r:Res} (hres:r= .ok ia[j]):
  Calls Tryz.prog 69 #[.int .i64 19,.agg ⟨ca⟩,.agg ⟨cb⟩] w (UnPost P r w):=by
 have HV:=hid hv
 have HV2:=hid hv2
 have HVW:=hid hv.val
 have HVW2:=hid hv2.val
 have HRA:=hid hra
 have HRB:=hid hrb
 have HRES:=hid hres
 have HON1:=hid (val_one hv.val).2
 have HON2:=hid (val_one hv2.val).2
 obtain⟨vna,via,rfl,hkw,hnw,hfw,hsw,hns,hil,hi⟩:=ValAt.inv hv
 obtain⟨hnl,NA1,na2,rfl,hnA⟩:=hns
 have hi0:=hi
 obtain⟨hil2,A,c,rfl,hA⟩:=hi
 obtain⟨vnb,vib,rfl,hkw2,hnw2,hfw2,hsw2,hns2,hil3,hi2⟩:=ValAt.inv hv2
 obtain⟨hnl2,NB1,nb2,rfl,hnB⟩:=hns2
 have hi20:=hi2
 obtain⟨hil4,B,c2,rfl,hB⟩:=hi2
 have HWF:=hid (And.intro hnw (And.intro hfw (And.intro hnw2 hfw2)))
 have HIT:=hid hi0
 have HIT2:=hid hi20
 clear hkw hnw hfw hsw hnl hnA hil hil2 hA hkw2 hnw2 hfw2 hsw2 hnl2 hnB hil3 hil4 hB hv hv2 hra hrb hres hi0 hi20
 go_enter Tryz.func69,Tryz.ntmps69
 go_upto_region 1 with (fail)
 have HST:=hid (bb_start w [.int .i64 5,.int .i64 na,.float .f64 fa,.string sa,.slice NA1 nsa.length na2,.slice A ia.length c] [.int .i64 2,.int .i64 nb,.float .f64 fb,.string sb,.slice NB1 nsb.length nb2,.slice B ib.length c2])
 have hz6:(#[Value.int IntKind.i64 0,Value.int IntKind.i64 0,Value.float FloatKind.f64 0,Value.string { data:= #[] },Value.slice none 0 0,Value.slice none 0 0]:Array Value)= zV6.toArray:=rfl
 rw[hz6]
 clear hz6
 generalize ((w.alloc (.cells ⟨[.int .i64 5,.int .i64 na,.float .f64 fa,.string sa,.slice NA1 nsa.length na2,.slice A ia.length c]⟩ 26)).alloc (.cells ⟨[.int .i64 2,.int .i64 nb,.float .f64 fb,.string sb,.slice NB1 nsb.length nb2,.slice B ib.length c2]⟩ 26)).alloc (.cells zV6.toArray 26)= W at*
 have d0:W.cell? ⟨w.heap.size,0,none⟩= some (.int .i64 5):=HST.out.wa.cells 0 rfl
 have c0:W.cell? ⟨w.heap.size+1,0,none⟩= some (.int .i64 2):=HST.out.wb.cells 0 rfl
 have hnb:=hnb.out
 subst hnb
 have n1:W.cell? ⟨w.heap.size+1,1,none⟩= some (.int .i64 (j:Int)):=HST.out.wb.cells 1 rfl
 have n5:W.cell? ⟨w.heap.size,5,none⟩= some (.slice A ia.length c):=HST.out.wa.cells 5 rfl
 have hj2:(j:Int) <(ia.length:Int):=by omega
 have hj0:(0:Int)≤(j:Int):=by omega
 obtain⟨-,A2,c3,he2,hA⟩:=HIT.out
 simp only[Value.slice.injEq] at he2
 obtain⟨rfl, -,rfl⟩:=he2
 obtain⟨b,ob,rfl,hbb,hc⟩:=hA (by omega)
 obtain⟨ks,hkl,hkr,hkv⟩:=hc j _ (List.getElem?_eq_getElem hj)
 have HKV:Hid (Kept P w ks ia[j]):=hid hkv
 have HKL:=hid hkl
 have HKR:Hid (W.rangeAt b (ob+j*6) ks):=hid (rangeAt_below (rangeAt_cells hkr fun a v h=>(only_cell.1 h).2) HST.out.bel hbb)
 have HON:=hid (val_one HKV.out.val).2
 have HRW:=hid HST.out.wr
 clear hc hkl hkr hkv hA hbb
 go_wp2_with (first|(go_at_call 36;refine(must_yes 6 _).mono ?_;rintro e z ⟨rfl,hzw⟩;rw[hzw];clear hzw z)|(go_at_call 36;refine(must_yes 9 _).mono ?_;rintro e z ⟨rfl,hzw⟩;rw[hzw];clear hzw z)|((with_reducible refine wl_sload 26 _ rfl ?hwl b (ob+j*6) ks _ rfl HKR.out Tryz.underlying26 rfl ?hil ?_);(case hwl=>(first|exact wanted_none rfl|exact wanted_if rfl rfl rfl rfl));(case hil=>rw[HKL.out];kernel_rfl))|((with_reducible refine wl_wstore 26 _ _ rfl rfl ?hw (w.heap.size+2) zV6 (ks) HRW.out ?h5 ?h6 ?h7 ?h8 ?h9 ?_);(case hw=>(first|exact wanted_none rfl|exact wanted_if rfl rfl rfl rfl));(case h5=>rw[HKL.out];rfl);(case h6=>rfl);(case h7=>rfl);(case h8=>rw[HKL.out];kernel_rfl);(case h9=>exact HON.out);intro Z2 hz hb;have HX:=hid hz;have HXB:=hid hb;clear hz hb))
 (try simp only[Exit.inBlock,Exit.then])
 refine bodyPost_ret (results_cellV rfl Tryz.underlying26 rfl _ _ (w.heap.size+2) (ks) (by rw[HKL.out];kernel_rfl) rfl HX.out.range) rfl ?_
 have hbel:=BB.fin HST.out HXB.out
 exact .ok HRES.out rfl (HKV.out.grow hbel) hbel
theorem bi_kind (na nb:Int) (fa fb:Nat) (sa sb:ByteArray) (nsa nsb:List ByteArray) (ia ib:List VT) (ca cb:List Value) (w:World) (k ka kb:Int) (h0:(k ==19)= false) (h1:(ka ==kb)= false) (hv:Kept P w ca (.mk ka na fa sa nsa ia)) (hv2:Kept P w cb (.mk kb nb fb sb nsb ib)) (hra:rightW (.mk ka na fa sa nsa ia)= true) (hrb:rightW (.mk kb nb fb sb nsb ib)= true) {r:Res} (hres:r= .error 6):
  Calls Tryz.prog 69 #[.int .i64 k,.agg ⟨ca⟩,.agg ⟨cb⟩] w (UnPost P r w):=by
 have HV:=hid hv
 have HV2:=hid hv2
 have HVW:=hid hv.val
 have HVW2:=hid hv2.val
 have HRA:=hid hra
 have HRB:=hid hrb
 have HRES:=hid hres
 have HON1:=hid (val_one hv.val).2
 have HON2:=hid (val_one hv2.val).2
 obtain⟨vna,via,rfl,hkw,hnw,hfw,hsw,hns,hil,hi⟩:=ValAt.inv hv
 obtain⟨hnl,NA1,na2,rfl,hnA⟩:=hns
 have hi0:=hi
 obtain⟨hil2,A,c,rfl,hA⟩:=hi
 obtain⟨vnb,vib,rfl,hkw2,hnw2,hfw2,hsw2,hns2,hil3,hi2⟩:=ValAt.inv hv2
 obtain⟨hnl2,NB1,nb2,rfl,hnB⟩:=hns2
 have hi20:=hi2
 obtain⟨hil4,B,c2,rfl,hB⟩:=hi2
 have HWF:=hid (And.intro hnw (And.intro hfw (And.intro hnw2 hfw2)))
 have HIT:=hid hi0
 have HIT2:=hid hi20
 clear hkw hnw hfw hsw hnl hnA hil hil2 hA hkw2 hnw2 hfw2 hsw2 hnl2 hnB hil3 hil4 hB hv hv2 hra hrb hres hi0 hi20
 go_enter Tryz.func69,Tryz.ntmps69
 go_upto_region 1 with (fail)
 have HST:=hid (bb_start w [.int .i64 ka,.int .i64 na,.float .f64 fa,.string sa,.slice NA1 nsa.length na2,.slice A ia.length c] [.int .i64 kb,.int .i64 nb,.float .f64 fb,.string sb,.slice NB1 nsb.length nb2,.slice B ib.length c2])
 have hz6:(#[Value.int IntKind.i64 0,Value.int IntKind.i64 0,Value.float FloatKind.f64 0,Value.string { data:= #[] },Value.slice none 0 0,Value.slice none 0 0]:Array Value)= zV6.toArray:=rfl
 rw[hz6]
 clear hz6
 generalize ((w.alloc (.cells ⟨[.int .i64 ka,.int .i64 na,.float .f64 fa,.string sa,.slice NA1 nsa.length na2,.slice A ia.length c]⟩ 26)).alloc (.cells ⟨[.int .i64 kb,.int .i64 nb,.float .f64 fb,.string sb,.slice NB1 nsb.length nb2,.slice B ib.length c2]⟩ 26)).alloc (.cells zV6.toArray 26)= W at*
 have d0:W.cell? ⟨w.heap.size,0,none⟩= some (.int .i64 ka):=HST.out.wa.cells 0 rfl
 have c0:W.cell? ⟨w.heap.size+1,0,none⟩= some (.int .i64 kb):=HST.out.wb.cells 0 rfl
 go_wp2_with ((go_at_call 36;refine(must_no 6 _).mono ?_;rintro e z ⟨rfl,hzw⟩;rw[hzw];clear hzw z))
 exact⟨rfl,.no HRES.out rfl HST.out.bel⟩
theorem bi_eq (na nb:Int) (fa fb:Nat) (sa sb:ByteArray) (nsa nsb:List ByteArray) (ia ib:List VT) (ca cb:List Value) (w:World) (ka:Int) (hv:Kept P w ca (.mk ka na fa sa nsa ia)) (hv2:Kept P w cb (.mk ka nb fb sb nsb ib)) (hra:rightW (.mk ka na fa sa nsa ia)= true) (hrb:rightW (.mk ka nb fb sb nsb ib)= true) {r:Res} (hres:r= .ok (vB (eqV (.mk ka na fa sa nsa ia) (.mk ka nb fb sb nsb ib)))):
  Calls Tryz.prog 69 #[.int .i64 10,.agg ⟨ca⟩,.agg ⟨cb⟩] w (UnPost P r w):=by
 have HV:=hid hv
 have HV2:=hid hv2
 have HVW:=hid hv.val
 have HVW2:=hid hv2.val
 have HRA:=hid hra
 have HRB:=hid hrb
 have HRES:=hid hres
 have HON1:=hid (val_one hv.val).2
 have HON2:=hid (val_one hv2.val).2
 obtain⟨vna,via,rfl,hkw,hnw,hfw,hsw,hns,hil,hi⟩:=ValAt.inv hv
 obtain⟨hnl,NA1,na2,rfl,hnA⟩:=hns
 have hi0:=hi
 obtain⟨hil2,A,c,rfl,hA⟩:=hi
 obtain⟨vnb,vib,rfl,hkw2,hnw2,hfw2,hsw2,hns2,hil3,hi2⟩:=ValAt.inv hv2
 obtain⟨hnl2,NB1,nb2,rfl,hnB⟩:=hns2
 have hi20:=hi2
 obtain⟨hil4,B,c2,rfl,hB⟩:=hi2
 have HWF:=hid (And.intro hnw (And.intro hfw (And.intro hnw2 hfw2)))
 have HIT:=hid hi0
 have HIT2:=hid hi20
 clear hkw hnw hfw hsw hnl hnA hil hil2 hA hkw2 hnw2 hfw2 hsw2 hnl2 hnB hil3 hil4 hB hv hv2 hra hrb hres hi0 hi20
 go_enter Tryz.func69,Tryz.ntmps69
 go_upto_region 1 with (fail)
 have HST:=hid (bb_start w [.int .i64 ka,.int .i64 na,.float .f64 fa,.string sa,.slice NA1 nsa.length na2,.slice A ia.length c] [.int .i64 ka,.int .i64 nb,.float .f64 fb,.string sb,.slice NB1 nsb.length nb2,.slice B ib.length c2])
 have hz6:(#[Value.int IntKind.i64 0,Value.int IntKind.i64 0,Value.float FloatKind.f64 0,Value.string { data:= #[] },Value.slice none 0 0,Value.slice none 0 0]:Array Value)= zV6.toArray:=rfl
 rw[hz6]
 clear hz6
 generalize ((w.alloc (.cells ⟨[.int .i64 ka,.int .i64 na,.float .f64 fa,.string sa,.slice NA1 nsa.length na2,.slice A ia.length c]⟩ 26)).alloc (.cells ⟨[.int .i64 ka,.int .i64 nb,.float .f64 fb,.string sb,.slice NB1 nsb.length nb2,.slice B ib.length c2]⟩ 26)).alloc (.cells zV6.toArray 26)= W at*
 have d0:W.cell? ⟨w.heap.size,0,none⟩= some (.int .i64 ka):=HST.out.wa.cells 0 rfl
 have c0:W.cell? ⟨w.heap.size+1,0,none⟩= some (.int .i64 ka):=HST.out.wb.cells 0 rfl
 have HVE:=hid (vequal _ _ _ _ W ((HVW.out.under HST.out.bel).more HST.out.bel.size) ((HVW2.out.under HST.out.bel).more HST.out.bel.size))
 obtain⟨x,hx⟩:∃ x,eqV (.mk ka na fa sa nsa ia) (.mk ka nb fb sb nsb ib)= x:=⟨_,rfl⟩
 rw[hx] at HVE HRES
 clear hx
 go_wp2_with (first|(go_at_call 36;refine(must_yes 6 _).mono ?_;rintro e z ⟨rfl,hzw⟩;rw[hzw];clear hzw z)|((with_reducible refine wl_sload 26 _ rfl ?hwa w.heap.size 0 [.int .i64 ka,.int .i64 na,.float .f64 fa,.string sa,.slice NA1 nsa.length na2,.slice A ia.length c] _ rfl HST.out.wa.range Tryz.underlying26 rfl ?hia ?_);(case hwa=>(first|exact wanted_none rfl|exact wanted_if rfl rfl rfl rfl));(case hia=>kernel_rfl))|((with_reducible refine wl_sload 26 _ rfl ?hwb (w.heap.size+1) 0 [.int .i64 ka,.int .i64 nb,.float .f64 fb,.string sb,.slice NB1 nsb.length nb2,.slice B ib.length c2] _ rfl HST.out.wb.range Tryz.underlying26 rfl ?hib ?_);(case hwb=>(first|exact wanted_none rfl|exact wanted_if rfl rfl rfl rfl));(case hib=>kernel_rfl))|(go_at_call 120;refine HVE.out.mono ?_;rintro e z ⟨rfl,hb⟩;have HS1:=hid (HST.out.next hb);clear hb)|(go_at_call 65;refine(truth_tC x _).mono ?_;rintro e z ⟨rfl,hb⟩;have HSZ:=hid (BB.next HS1.out hb);have HRZ:=hid HSZ.out.wr;clear hb)|((with_reducible refine wl_wstore 26 _ _ rfl rfl ?hw (w.heap.size+2) zV6 (tC x) HRZ.out ?h5 ?h6 ?h7 ?h8 ?h9 ?_);(case hw=>(first|exact wanted_none rfl|exact wanted_if rfl rfl rfl rfl));(case h5=>rfl);(case h6=>rfl);(case h7=>rfl);(case h8=>kernel_rfl);(case h9=>exact tC_one x);intro Z2 hz hb;have HX:=hid hz;have HXB:=hid hb;clear hz hb))
 (try simp only[Exit.inBlock,Exit.then])
 refine bodyPost_ret (results_cellV rfl Tryz.underlying26 rfl _ _ (w.heap.size+2) (tC x) (by kernel_rfl) rfl HX.out.range) rfl ?_
 have hbel:=BB.fin HSZ.out HXB.out
 exact .ok HRES.out rfl (kept_vB _ _ x) hbel
theorem bi_less11 (na nb:Int) (fa fb:Nat) (sa sb:ByteArray) (nsa nsb:List ByteArray) (ia ib:List VT) (ca cb:List Value) (w:World) (ka:Int) (hv:Kept P w ca (.mk ka na fa sa nsa ia)) (hv2:Kept P w cb (.mk ka nb fb sb nsb ib)) (hra:rightW (.mk ka na fa sa nsa ia)= true) (hrb:rightW (.mk ka nb fb sb nsb ib)= true) {r:Res} (hres:r=(lessZ false (.mk ka na fa sa nsa ia) (.mk ka nb fb sb nsb ib)).map vB):
  Calls Tryz.prog 69 #[.int .i64 11,.agg ⟨ca⟩,.agg ⟨cb⟩] w (UnPost P r w):=by
 have HV:=hid hv
 have HV2:=hid hv2
 have HVW:=hid hv.val
 have HVW2:=hid hv2.val
 have HRA:=hid hra
 have HRB:=hid hrb
 have HRES:=hid hres
 have HON1:=hid (val_one hv.val).2
 have HON2:=hid (val_one hv2.val).2
 obtain⟨vna,via,rfl,hkw,hnw,hfw,hsw,hns,hil,hi⟩:=ValAt.inv hv
 obtain⟨hnl,NA1,na2,rfl,hnA⟩:=hns
 have hi0:=hi
 obtain⟨hil2,A,c,rfl,hA⟩:=hi
 obtain⟨vnb,vib,rfl,hkw2,hnw2,hfw2,hsw2,hns2,hil3,hi2⟩:=ValAt.inv hv2
 obtain⟨hnl2,NB1,nb2,rfl,hnB⟩:=hns2
 have hi20:=hi2
 obtain⟨hil4,B,c2,rfl,hB⟩:=hi2
 have HWF:=hid (And.intro hnw (And.intro hfw (And.intro hnw2 hfw2)))
 have HIT:=hid hi0
 have HIT2:=hid hi20
 clear hkw hnw hfw hsw hnl hnA hil hil2 hA hkw2 hnw2 hfw2 hsw2 hnl2 hnB hil3 hil4 hB hv hv2 hra hrb hres hi0 hi20
 go_enter Tryz.func69,Tryz.ntmps69
 go_upto_region 1 with (fail)
 have HST:=hid (bb_start w [.int .i64 ka,.int .i64 na,.float .f64 fa,.string sa,.slice NA1 nsa.length na2,.slice A ia.length c] [.int .i64 ka,.int .i64 nb,.float .f64 fb,.string sb,.slice NB1 nsb.length nb2,.slice B ib.length c2])
 have hz6:(#[Value.int IntKind.i64 0,Value.int IntKind.i64 0,Value.float FloatKind.f64 0,Value.string { data:= #[] },Value.slice none 0 0,Value.slice none 0 0]:Array Value)= zV6.toArray:=rfl
 rw[hz6]
 clear hz6
 generalize ((w.alloc (.cells ⟨[.int .i64 ka,.int .i64 na,.float .f64 fa,.string sa,.slice NA1 nsa.length na2,.slice A ia.length c]⟩ 26)).alloc (.cells ⟨[.int .i64 ka,.int .i64 nb,.float .f64 fb,.string sb,.slice NB1 nsb.length nb2,.slice B ib.length c2]⟩ 26)).alloc (.cells zV6.toArray 26)= W at*
 have d0:W.cell? ⟨w.heap.size,0,none⟩= some (.int .i64 ka):=HST.out.wa.cells 0 rfl
 have c0:W.cell? ⟨w.heap.size+1,0,none⟩= some (.int .i64 ka):=HST.out.wb.cells 0 rfl
 have HVE:=hid (less_any false ka na nb fa fb sa sb nsa nsb ia ib _ _ W ((HVW.out.under HST.out.bel).more HST.out.bel.size) ((HVW2.out.under HST.out.bel).more HST.out.bel.size))
 generalize lessZ false (.mk ka na fa sa nsa ia) (.mk ka nb fb sb nsb ib)= res at*
 go_wp2_with (first|(go_at_call 36;refine(must_yes 6 _).mono ?_;rintro e z ⟨rfl,hzw⟩;rw[hzw];clear hzw z)|((with_reducible refine wl_sload 26 _ rfl ?hwa w.heap.size 0 [.int .i64 ka,.int .i64 na,.float .f64 fa,.string sa,.slice NA1 nsa.length na2,.slice A ia.length c] _ rfl HST.out.wa.range Tryz.underlying26 rfl ?hia ?_);(case hwa=>(first|exact wanted_none rfl|exact wanted_if rfl rfl rfl rfl));(case hia=>kernel_rfl))|((with_reducible refine wl_sload 26 _ rfl ?hwb (w.heap.size+1) 0 [.int .i64 ka,.int .i64 nb,.float .f64 fb,.string sb,.slice NB1 nsb.length nb2,.slice B ib.length c2] _ rfl HST.out.wb.range Tryz.underlying26 rfl ?hib ?_);(case hwb=>(first|exact wanted_none rfl|exact wanted_if rfl rfl rfl rfl));(case hib=>kernel_rfl))|(go_at_call 121;fail))
 refine HVE.out.mono ?_
 rintro e z ⟨⟨x,rfl,rfl⟩|⟨n,rfl,rfl⟩,hb⟩
 ·have HS1:=hid (HST.out.next hb)
  have HRE2:Hid (r= .ok (vB x)):=hid HRES.out
  clear hb
  go_wp2_with (first|(go_at_call 65;refine(truth_tC x _).mono ?_;rintro e z ⟨rfl,hb⟩;have HSZ:=hid (BB.next HS1.out hb);have HRZ:=hid HSZ.out.wr;clear hb)|((with_reducible refine wl_wstore 26 _ _ rfl rfl ?hw (w.heap.size+2) zV6 (tC x) HRZ.out ?h5 ?h6 ?h7 ?h8 ?h9 ?_);(case hw=>(first|exact wanted_none rfl|exact wanted_if rfl rfl rfl rfl));(case h5=>rfl);(case h6=>rfl);(case h7=>rfl);(case h8=>kernel_rfl);(case h9=>exact tC_one x);intro Z2 hz hb;have HX:=hid hz;have HXB:=hid hb;clear hz hb))
  (try simp only[Exit.inBlock,Exit.then])
  refine bodyPost_ret (results_cellV rfl Tryz.underlying26 rfl _ _ (w.heap.size+2) (tC x) (by kernel_rfl) rfl HX.out.range) rfl ?_
  have hbel:=BB.fin HSZ.out HXB.out
  exact .ok HRE2.out rfl (kept_vB _ _ x) hbel
 ·have HS1:=hid (HST.out.next hb)
  have HRE2:Hid (r= .error n):=hid HRES.out
  clear hb
  go_wp2
  exact⟨rfl,.no HRE2.out rfl HS1.out.bel⟩
theorem bi_less12 (na nb:Int) (fa fb:Nat) (sa sb:ByteArray) (nsa nsb:List ByteArray) (ia ib:List VT) (ca cb:List Value) (w:World) (ka:Int) (hv:Kept P w ca (.mk ka na fa sa nsa ia)) (hv2:Kept P w cb (.mk ka nb fb sb nsb ib)) (hra:rightW (.mk ka na fa sa nsa ia)= true) (hrb:rightW (.mk ka nb fb sb nsb ib)= true) {r:Res} (hres:r=(lessZ true (.mk ka na fa sa nsa ia) (.mk ka nb fb sb nsb ib)).map vB):
  Calls Tryz.prog 69 #[.int .i64 12,.agg ⟨ca⟩,.agg ⟨cb⟩] w (UnPost P r w):=by
 have HV:=hid hv
 have HV2:=hid hv2
 have HVW:=hid hv.val
 have HVW2:=hid hv2.val
 have HRA:=hid hra
 have HRB:=hid hrb
 have HRES:=hid hres
 have HON1:=hid (val_one hv.val).2
 have HON2:=hid (val_one hv2.val).2
 obtain⟨vna,via,rfl,hkw,hnw,hfw,hsw,hns,hil,hi⟩:=ValAt.inv hv
 obtain⟨hnl,NA1,na2,rfl,hnA⟩:=hns
 have hi0:=hi
 obtain⟨hil2,A,c,rfl,hA⟩:=hi
 obtain⟨vnb,vib,rfl,hkw2,hnw2,hfw2,hsw2,hns2,hil3,hi2⟩:=ValAt.inv hv2
 obtain⟨hnl2,NB1,nb2,rfl,hnB⟩:=hns2
 have hi20:=hi2
 obtain⟨hil4,B,c2,rfl,hB⟩:=hi2
 have HWF:=hid (And.intro hnw (And.intro hfw (And.intro hnw2 hfw2)))
 have HIT:=hid hi0
 have HIT2:=hid hi20
 clear hkw hnw hfw hsw hnl hnA hil hil2 hA hkw2 hnw2 hfw2 hsw2 hnl2 hnB hil3 hil4 hB hv hv2 hra hrb hres hi0 hi20
 go_enter Tryz.func69,Tryz.ntmps69
 go_upto_region 1 with (fail)
 have HST:=hid (bb_start w [.int .i64 ka,.int .i64 na,.float .f64 fa,.string sa,.slice NA1 nsa.length na2,.slice A ia.length c] [.int .i64 ka,.int .i64 nb,.float .f64 fb,.string sb,.slice NB1 nsb.length nb2,.slice B ib.length c2])
 have hz6:(#[Value.int IntKind.i64 0,Value.int IntKind.i64 0,Value.float FloatKind.f64 0,Value.string { data:= #[] },Value.slice none 0 0,Value.slice none 0 0]:Array Value)= zV6.toArray:=rfl
 rw[hz6]
 clear hz6
 generalize ((w.alloc (.cells ⟨[.int .i64 ka,.int .i64 na,.float .f64 fa,.string sa,.slice NA1 nsa.length na2,.slice A ia.length c]⟩ 26)).alloc (.cells ⟨[.int .i64 ka,.int .i64 nb,.float .f64 fb,.string sb,.slice NB1 nsb.length nb2,.slice B ib.length c2]⟩ 26)).alloc (.cells zV6.toArray 26)= W at*
 have d0:W.cell? ⟨w.heap.size,0,none⟩= some (.int .i64 ka):=HST.out.wa.cells 0 rfl
 have c0:W.cell? ⟨w.heap.size+1,0,none⟩= some (.int .i64 ka):=HST.out.wb.cells 0 rfl
 have HVE:=hid (less_any true ka na nb fa fb sa sb nsa nsb ia ib _ _ W ((HVW.out.under HST.out.bel).more HST.out.bel.size) ((HVW2.out.under HST.out.bel).more HST.out.bel.size))
 generalize lessZ true (.mk ka na fa sa nsa ia) (.mk ka nb fb sb nsb ib)= res at*
 go_wp2_with (first|(go_at_call 36;refine(must_yes 6 _).mono ?_;rintro e z ⟨rfl,hzw⟩;rw[hzw];clear hzw z)|((with_reducible refine wl_sload 26 _ rfl ?hwa w.heap.size 0 [.int .i64 ka,.int .i64 na,.float .f64 fa,.string sa,.slice NA1 nsa.length na2,.slice A ia.length c] _ rfl HST.out.wa.range Tryz.underlying26 rfl ?hia ?_);(case hwa=>(first|exact wanted_none rfl|exact wanted_if rfl rfl rfl rfl));(case hia=>kernel_rfl))|((with_reducible refine wl_sload 26 _ rfl ?hwb (w.heap.size+1) 0 [.int .i64 ka,.int .i64 nb,.float .f64 fb,.string sb,.slice NB1 nsb.length nb2,.slice B ib.length c2] _ rfl HST.out.wb.range Tryz.underlying26 rfl ?hib ?_);(case hwb=>(first|exact wanted_none rfl|exact wanted_if rfl rfl rfl rfl));(case hib=>kernel_rfl))|(go_at_call 121;fail))
 refine HVE.out.mono ?_
 rintro e z ⟨⟨x,rfl,rfl⟩|⟨n,rfl,rfl⟩,hb⟩
 ·have HS1:=hid (HST.out.next hb)
  have HRE2:Hid (r= .ok (vB x)):=hid HRES.out
  clear hb
  go_wp2_with (first|(go_at_call 65;refine(truth_tC x _).mono ?_;rintro e z ⟨rfl,hb⟩;have HSZ:=hid (BB.next HS1.out hb);have HRZ:=hid HSZ.out.wr;clear hb)|((with_reducible refine wl_wstore 26 _ _ rfl rfl ?hw (w.heap.size+2) zV6 (tC x) HRZ.out ?h5 ?h6 ?h7 ?h8 ?h9 ?_);(case hw=>(first|exact wanted_none rfl|exact wanted_if rfl rfl rfl rfl));(case h5=>rfl);(case h6=>rfl);(case h7=>rfl);(case h8=>kernel_rfl);(case h9=>exact tC_one x);intro Z2 hz hb;have HX:=hid hz;have HXB:=hid hb;clear hz hb))
  (try simp only[Exit.inBlock,Exit.then])
  refine bodyPost_ret (results_cellV rfl Tryz.underlying26 rfl _ _ (w.heap.size+2) (tC x) (by kernel_rfl) rfl HX.out.range) rfl ?_
  have hbel:=BB.fin HSZ.out HXB.out
  exact .ok HRE2.out rfl (kept_vB _ _ x) hbel
 ·have HS1:=hid (HST.out.next hb)
  have HRE2:Hid (r= .error n):=hid HRES.out
  clear hb
  go_wp2
  exact⟨rfl,.no HRE2.out rfl HS1.out.bel⟩
theorem bi_int (na nb:Int) (fa fb:Nat) (sa sb:ByteArray) (nsa nsb:List ByteArray) (ia ib:List VT) (ca cb:List Value) (w:World) (k:Int) (h19:(k ==19)= false) (h10:(k ==10)= false) (h11:(k ==11)= false) (h12:(k ==12)= false) (hv:Kept P w ca (.mk 2 na fa sa nsa ia)) (hv2:Kept P w cb (.mk 2 nb fb sb nsb ib)) (hra:rightW (.mk 2 na fa sa nsa ia)= true) (hrb:rightW (.mk 2 nb fb sb nsb ib)= true) {r:Res} (hres:r=(wholeZ k na nb).map vI):
  Calls Tryz.prog 69 #[.int .i64 k,.agg ⟨ca⟩,.agg ⟨cb⟩] w (UnPost P r w):=by
 have HV:=hid hv
 have HV2:=hid hv2
 have HVW:=hid hv.val
 have HVW2:=hid hv2.val
 have HRA:=hid hra
 have HRB:=hid hrb
 have HRES:=hid hres
 have HON1:=hid (val_one hv.val).2
 have HON2:=hid (val_one hv2.val).2
 obtain⟨vna,via,rfl,hkw,hnw,hfw,hsw,hns,hil,hi⟩:=ValAt.inv hv
 obtain⟨hnl,NA1,na2,rfl,hnA⟩:=hns
 have hi0:=hi
 obtain⟨hil2,A,c,rfl,hA⟩:=hi
 obtain⟨vnb,vib,rfl,hkw2,hnw2,hfw2,hsw2,hns2,hil3,hi2⟩:=ValAt.inv hv2
 obtain⟨hnl2,NB1,nb2,rfl,hnB⟩:=hns2
 have hi20:=hi2
 obtain⟨hil4,B,c2,rfl,hB⟩:=hi2
 have HWF:=hid (And.intro hnw (And.intro hfw (And.intro hnw2 hfw2)))
 have HIT:=hid hi0
 have HIT2:=hid hi20
 clear hkw hnw hfw hsw hnl hnA hil hil2 hA hkw2 hnw2 hfw2 hsw2 hnl2 hnB hil3 hil4 hB hv hv2 hra hrb hres hi0 hi20
 go_enter Tryz.func69,Tryz.ntmps69
 go_upto_region 1 with (fail)
 have HST:=hid (bb_start w [.int .i64 2,.int .i64 na,.float .f64 fa,.string sa,.slice NA1 nsa.length na2,.slice A ia.length c] [.int .i64 2,.int .i64 nb,.float .f64 fb,.string sb,.slice NB1 nsb.length nb2,.slice B ib.length c2])
 have hz6:(#[Value.int IntKind.i64 0,Value.int IntKind.i64 0,Value.float FloatKind.f64 0,Value.string { data:= #[] },Value.slice none 0 0,Value.slice none 0 0]:Array Value)= zV6.toArray:=rfl
 rw[hz6]
 clear hz6
 generalize ((w.alloc (.cells ⟨[.int .i64 2,.int .i64 na,.float .f64 fa,.string sa,.slice NA1 nsa.length na2,.slice A ia.length c]⟩ 26)).alloc (.cells ⟨[.int .i64 2,.int .i64 nb,.float .f64 fb,.string sb,.slice NB1 nsb.length nb2,.slice B ib.length c2]⟩ 26)).alloc (.cells zV6.toArray 26)= W at*
 have d0:W.cell? ⟨w.heap.size,0,none⟩= some (.int .i64 2):=HST.out.wa.cells 0 rfl
 have c0:W.cell? ⟨w.heap.size+1,0,none⟩= some (.int .i64 2):=HST.out.wb.cells 0 rfl
 have n1:W.cell? ⟨w.heap.size+1,1,none⟩= some (.int .i64 nb):=HST.out.wb.cells 1 rfl
 have n2:W.cell? ⟨w.heap.size,1,none⟩= some (.int .i64 na):=HST.out.wa.cells 1 rfl
 have HWH:=hid (whole_any k na nb (wfI_iff.1 HWF.out.1) (wfI_iff.1 HWF.out.2.2.1) W)
 have HWR:=hid (fun n=>wholeZ_wf (k:=k) (a:=na) (b:=nb) (n:=n) (wfI_iff.1 HWF.out.1))
 generalize wholeZ k na nb= res at*
 go_wp2_with (first|(go_at_call 36;refine(must_yes 6 _).mono ?_;rintro e z ⟨rfl,hzw⟩;rw[hzw];clear hzw z)|(go_at_call 122;fail))
 refine HWH.out.mono ?_
 rintro e z ⟨⟨x,rfl,rfl⟩|⟨n,rfl,rfl⟩,hzw⟩
 ·rw[hzw]
  clear hzw z
  have HRE2:Hid (r= .ok (vI x)):=hid HRES.out
  have HWX:=hid (wfI_iff.2 (HWR.out x rfl))
  go_wp2_with (first|(go_at_call 116;refine(num_any x _).mono ?_;rintro e z ⟨rfl,hb⟩;have HSZ:=hid (BB.next HST.out hb);have HRZ:=hid HSZ.out.wr;clear hb)|((with_reducible refine wl_wstore 26 _ _ rfl rfl ?hw (w.heap.size+2) zV6 (valC 2 x 0 ⟨#[]⟩) HRZ.out ?h5 ?h6 ?h7 ?h8 ?h9 ?_);(case hw=>(first|exact wanted_none rfl|exact wanted_if rfl rfl rfl rfl));(case h5=>rfl);(case h6=>rfl);(case h7=>rfl);(case h8=>kernel_rfl);(case h9=>exact valC_one _ _ _ _);intro Z2 hz hb;have HX:=hid hz;have HXB:=hid hb;clear hz hb))
  (try simp only[Exit.inBlock,Exit.then])
  refine bodyPost_ret (results_cellV rfl Tryz.underlying26 rfl _ _ (w.heap.size+2) (valC 2 x 0 ⟨#[]⟩) (by kernel_rfl) rfl HX.out.range) rfl ?_
  have hbel:=BB.fin HSZ.out HXB.out
  exact .ok HRE2.out rfl (kept_vI _ _ x HWX.out) hbel
 ·rw[hzw]
  clear hzw z
  have HRE2:Hid (r= .error n):=hid HRES.out
  go_wp2
  exact⟨rfl,.no HRE2.out rfl HST.out.bel⟩
theorem bi_flt (na nb:Int) (fa fb:Nat) (sa sb:ByteArray) (nsa nsb:List ByteArray) (ia ib:List VT) (ca cb:List Value) (w:World) (k:Int) (h19:(k ==19)= false) (h10:(k ==10)= false) (h11:(k ==11)= false) (h12:(k ==12)= false) (hv:Kept P w ca (.mk 3 na fa sa nsa ia)) (hv2:Kept P w cb (.mk 3 nb fb sb nsb ib)) (hra:rightW (.mk 3 na fa sa nsa ia)= true) (hrb:rightW (.mk 3 nb fb sb nsb ib)= true) {r:Res} (hres:r=(floatsZ k fa fb).map vF):
  Calls Tryz.prog 69 #[.int .i64 k,.agg ⟨ca⟩,.agg ⟨cb⟩] w (UnPost P r w):=by
 have HV:=hid hv
 have HV2:=hid hv2
 have HVW:=hid hv.val
 have HVW2:=hid hv2.val
 have HRA:=hid hra
 have HRB:=hid hrb
 have HRES:=hid hres
 have HON1:=hid (val_one hv.val).2
 have HON2:=hid (val_one hv2.val).2
 obtain⟨vna,via,rfl,hkw,hnw,hfw,hsw,hns,hil,hi⟩:=ValAt.inv hv
 obtain⟨hnl,NA1,na2,rfl,hnA⟩:=hns
 have hi0:=hi
 obtain⟨hil2,A,c,rfl,hA⟩:=hi
 obtain⟨vnb,vib,rfl,hkw2,hnw2,hfw2,hsw2,hns2,hil3,hi2⟩:=ValAt.inv hv2
 obtain⟨hnl2,NB1,nb2,rfl,hnB⟩:=hns2
 have hi20:=hi2
 obtain⟨hil4,B,c2,rfl,hB⟩:=hi2
 have HWF:=hid (And.intro hnw (And.intro hfw (And.intro hnw2 hfw2)))
 have HIT:=hid hi0
 have HIT2:=hid hi20
 clear hkw hnw hfw hsw hnl hnA hil hil2 hA hkw2 hnw2 hfw2 hsw2 hnl2 hnB hil3 hil4 hB hv hv2 hra hrb hres hi0 hi20
 go_enter Tryz.func69,Tryz.ntmps69
 go_upto_region 1 with (fail)
 have HST:=hid (bb_start w [.int .i64 3,.int .i64 na,.float .f64 fa,.string sa,.slice NA1 nsa.length na2,.slice A ia.length c] [.int .i64 3,.int .i64 nb,.float .f64 fb,.string sb,.slice NB1 nsb.length nb2,.slice B ib.length c2])
 have hz6:(#[Value.int IntKind.i64 0,Value.int IntKind.i64 0,Value.float FloatKind.f64 0,Value.string { data:= #[] },Value.slice none 0 0,Value.slice none 0 0]:Array Value)= zV6.toArray:=rfl
 rw[hz6]
 clear hz6
 generalize ((w.alloc (.cells ⟨[.int .i64 3,.int .i64 na,.float .f64 fa,.string sa,.slice NA1 nsa.length na2,.slice A ia.length c]⟩ 26)).alloc (.cells ⟨[.int .i64 3,.int .i64 nb,.float .f64 fb,.string sb,.slice NB1 nsb.length nb2,.slice B ib.length c2]⟩ 26)).alloc (.cells zV6.toArray 26)= W at*
 have d0:W.cell? ⟨w.heap.size,0,none⟩= some (.int .i64 3):=HST.out.wa.cells 0 rfl
 have c0:W.cell? ⟨w.heap.size+1,0,none⟩= some (.int .i64 3):=HST.out.wb.cells 0 rfl
 have n1:W.cell? ⟨w.heap.size+1,2,none⟩= some (.float .f64 fb):=HST.out.wb.cells 2 rfl
 have n2:W.cell? ⟨w.heap.size,2,none⟩= some (.float .f64 fa):=HST.out.wa.cells 2 rfl
 have HWH:=hid (floats_any k fa fb W)
 have HWR:=hid (fun n=>floatsZ_wf (k:=k) (a:=fa) (b:=fb) (n:=n))
 generalize floatsZ k fa fb= res at*
 go_wp2_with (first|(go_at_call 36;refine(must_yes 6 _).mono ?_;rintro e z ⟨rfl,hzw⟩;rw[hzw];clear hzw z)|(go_at_call 123;fail))
 refine HWH.out.mono ?_
 rintro e z ⟨⟨x,rfl,rfl⟩|⟨n,rfl,rfl⟩,hb⟩
 ·have HS1:=hid (HST.out.next hb)
  have HRE2:Hid (r= .ok (vF (canonF x))):=hid (by rw[(HWR.out x rfl).1];exact HRES.out)
  have HWX:=hid (HWR.out x rfl).2
  clear hb
  go_wp2_with (first|(go_at_call 113;refine(fl_any x _).mono ?_;rintro e z ⟨rfl,hb⟩;have HSZ:=hid (BB.next HS1.out hb);have HRZ:=hid HSZ.out.wr;clear hb)|((with_reducible refine wl_wstore 26 _ _ rfl rfl ?hw (w.heap.size+2) zV6 (valC 3 0 (canonF x) ⟨#[]⟩) HRZ.out ?h5 ?h6 ?h7 ?h8 ?h9 ?_);(case hw=>(first|exact wanted_none rfl|exact wanted_if rfl rfl rfl rfl));(case h5=>rfl);(case h6=>rfl);(case h7=>rfl);(case h8=>kernel_rfl);(case h9=>exact valC_one _ _ _ _);intro Z2 hz hb;have HX:=hid hz;have HXB:=hid hb;clear hz hb))
  (try simp only[Exit.inBlock,Exit.then])
  refine bodyPost_ret (results_cellV rfl Tryz.underlying26 rfl _ _ (w.heap.size+2) (valC 3 0 (canonF x) ⟨#[]⟩) (by kernel_rfl) rfl HX.out.range) rfl ?_
  have hbel:=BB.fin HSZ.out HXB.out
  exact .ok HRE2.out rfl (kept_vF _ _ _ (wf_canon HWX.out)) hbel
 ·have HS1:=hid (HST.out.next hb)
  have HRE2:Hid (r= .error n):=hid HRES.out
  clear hb
  go_wp2
  exact⟨rfl,.no HRE2.out rfl HS1.out.bel⟩
theorem bi_no (na nb:Int) (fa fb:Nat) (sa sb:ByteArray) (nsa nsb:List ByteArray) (ia ib:List VT) (ca cb:List Value) (w:World) (k:Int) (h19:(k ==19)= false) (h10:(k ==10)= false) (h11:(k ==11)= false) (h12:(k ==12)= false) (ka:Int) (h2:(ka ==2)= false) (h3:(ka ==3)= false) (h5:(k ==5)= false) (hv:Kept P w ca (.mk ka na fa sa nsa ia)) (hv2:Kept P w cb (.mk ka nb fb sb nsb ib)) (hra:rightW (.mk ka na fa sa nsa ia)= true) (hrb:rightW (.mk ka nb fb sb nsb ib)= true) {r:Res} (hres:r= .error 6):
  Calls Tryz.prog 69 #[.int .i64 k,.agg ⟨ca⟩,.agg ⟨cb⟩] w (UnPost P r w):=by
 have HV:=hid hv
 have HV2:=hid hv2
 have HVW:=hid hv.val
 have HVW2:=hid hv2.val
 have HRA:=hid hra
 have HRB:=hid hrb
 have HRES:=hid hres
 have HON1:=hid (val_one hv.val).2
 have HON2:=hid (val_one hv2.val).2
 obtain⟨vna,via,rfl,hkw,hnw,hfw,hsw,hns,hil,hi⟩:=ValAt.inv hv
 obtain⟨hnl,NA1,na2,rfl,hnA⟩:=hns
 have hi0:=hi
 obtain⟨hil2,A,c,rfl,hA⟩:=hi
 obtain⟨vnb,vib,rfl,hkw2,hnw2,hfw2,hsw2,hns2,hil3,hi2⟩:=ValAt.inv hv2
 obtain⟨hnl2,NB1,nb2,rfl,hnB⟩:=hns2
 have hi20:=hi2
 obtain⟨hil4,B,c2,rfl,hB⟩:=hi2
 have HWF:=hid (And.intro hnw (And.intro hfw (And.intro hnw2 hfw2)))
 have HIT:=hid hi0
 have HIT2:=hid hi20
 clear hkw hnw hfw hsw hnl hnA hil hil2 hA hkw2 hnw2 hfw2 hsw2 hnl2 hnB hil3 hil4 hB hv hv2 hra hrb hres hi0 hi20
 go_enter Tryz.func69,Tryz.ntmps69
 go_upto_region 1 with (fail)
 have HST:=hid (bb_start w [.int .i64 ka,.int .i64 na,.float .f64 fa,.string sa,.slice NA1 nsa.length na2,.slice A ia.length c] [.int .i64 ka,.int .i64 nb,.float .f64 fb,.string sb,.slice NB1 nsb.length nb2,.slice B ib.length c2])
 have hz6:(#[Value.int IntKind.i64 0,Value.int IntKind.i64 0,Value.float FloatKind.f64 0,Value.string { data:= #[] },Value.slice none 0 0,Value.slice none 0 0]:Array Value)= zV6.toArray:=rfl
 rw[hz6]
 clear hz6
 generalize ((w.alloc (.cells ⟨[.int .i64 ka,.int .i64 na,.float .f64 fa,.string sa,.slice NA1 nsa.length na2,.slice A ia.length c]⟩ 26)).alloc (.cells ⟨[.int .i64 ka,.int .i64 nb,.float .f64 fb,.string sb,.slice NB1 nsb.length nb2,.slice B ib.length c2]⟩ 26)).alloc (.cells zV6.toArray 26)= W at*
 have d0:W.cell? ⟨w.heap.size,0,none⟩= some (.int .i64 ka):=HST.out.wa.cells 0 rfl
 have c0:W.cell? ⟨w.heap.size+1,0,none⟩= some (.int .i64 ka):=HST.out.wb.cells 0 rfl
 go_wp2_with (go_at_call 36;first|((with_reducible refine(must_yes 6 _).mono ?_);rintro e z ⟨rfl,hzw⟩;rw[hzw];clear hzw z)|((with_reducible refine(must_no 6 _).mono ?_);rintro e z ⟨rfl,hzw⟩;rw[hzw];clear hzw z))
 exact⟨rfl,.no HRES.out rfl HST.out.bel⟩
theorem bi_no5 (na nb:Int) (fa fb:Nat) (sa sb:ByteArray) (nsa nsb:List ByteArray) (ia ib:List VT) (ca cb:List Value) (w:World) (ka:Int) (h2:(ka ==2)= false) (h3:(ka ==3)= false) (h4:(ka ==4)= false) (h5:(ka ==5)= false) (hv:Kept P w ca (.mk ka na fa sa nsa ia)) (hv2:Kept P w cb (.mk ka nb fb sb nsb ib)) (hra:rightW (.mk ka na fa sa nsa ia)= true) (hrb:rightW (.mk ka nb fb sb nsb ib)= true) {r:Res} (hres:r= .error 6):
  Calls Tryz.prog 69 #[.int .i64 5,.agg ⟨ca⟩,.agg ⟨cb⟩] w (UnPost P r w):=by
 have HV:=hid hv
 have HV2:=hid hv2
 have HVW:=hid hv.val
 have HVW2:=hid hv2.val
 have HRA:=hid hra
 have HRB:=hid hrb
 have HRES:=hid hres
 have HON1:=hid (val_one hv.val).2
 have HON2:=hid (val_one hv2.val).2
 obtain⟨vna,via,rfl,hkw,hnw,hfw,hsw,hns,hil,hi⟩:=ValAt.inv hv
 obtain⟨hnl,NA1,na2,rfl,hnA⟩:=hns
 have hi0:=hi
 obtain⟨hil2,A,c,rfl,hA⟩:=hi
 obtain⟨vnb,vib,rfl,hkw2,hnw2,hfw2,hsw2,hns2,hil3,hi2⟩:=ValAt.inv hv2
 obtain⟨hnl2,NB1,nb2,rfl,hnB⟩:=hns2
 have hi20:=hi2
 obtain⟨hil4,B,c2,rfl,hB⟩:=hi2
 have HWF:=hid (And.intro hnw (And.intro hfw (And.intro hnw2 hfw2)))
 have HIT:=hid hi0
 have HIT2:=hid hi20
 clear hkw hnw hfw hsw hnl hnA hil hil2 hA hkw2 hnw2 hfw2 hsw2 hnl2 hnB hil3 hil4 hB hv hv2 hra hrb hres hi0 hi20
 go_enter Tryz.func69,Tryz.ntmps69
 go_upto_region 1 with (fail)
 have HST:=hid (bb_start w [.int .i64 ka,.int .i64 na,.float .f64 fa,.string sa,.slice NA1 nsa.length na2,.slice A ia.length c] [.int .i64 ka,.int .i64 nb,.float .f64 fb,.string sb,.slice NB1 nsb.length nb2,.slice B ib.length c2])
 have hz6:(#[Value.int IntKind.i64 0,Value.int IntKind.i64 0,Value.float FloatKind.f64 0,Value.string { data:= #[] },Value.slice none 0 0,Value.slice none 0 0]:Array Value)= zV6.toArray:=rfl
 rw[hz6]
 clear hz6
 generalize ((w.alloc (.cells ⟨[.int .i64 ka,.int .i64 na,.float .f64 fa,.string sa,.slice NA1 nsa.length na2,.slice A ia.length c]⟩ 26)).alloc (.cells ⟨[.int .i64 ka,.int .i64 nb,.float .f64 fb,.string sb,.slice NB1 nsb.length nb2,.slice B ib.length c2]⟩ 26)).alloc (.cells zV6.toArray 26)= W at*
 have d0:W.cell? ⟨w.heap.size,0,none⟩= some (.int .i64 ka):=HST.out.wa.cells 0 rfl
 have c0:W.cell? ⟨w.heap.size+1,0,none⟩= some (.int .i64 ka):=HST.out.wb.cells 0 rfl
 go_wp2_with (go_at_call 36;first|((with_reducible refine(must_yes 6 _).mono ?_);rintro e z ⟨rfl,hzw⟩;rw[hzw];clear hzw z)|((with_reducible refine(must_no 6 _).mono ?_);rintro e z ⟨rfl,hzw⟩;rw[hzw];clear hzw z))
 exact⟨rfl,.no HRES.out rfl HST.out.bel⟩
theorem bi_add4 (na nb:Int) (fa fb:Nat) (sa sb:ByteArray) (nsa nsb:List ByteArray) (ia ib:List VT) (ca cb:List Value) (w:World) (hv:Kept P w ca (.mk 4 na fa sa nsa ia)) (hv2:Kept P w cb (.mk 4 nb fb sb nsb ib)) (hra:rightW (.mk 4 na fa sa nsa ia)= true) (hrb:rightW (.mk 4 nb fb sb nsb ib)= true) {r:Res} (hres:r= szd (.mk 4 0 0 (sa ++ sb) [] (ia ++ ib))):
  Calls Tryz.prog 69 #[.int .i64 5,.agg ⟨ca⟩,.agg ⟨cb⟩] w (UnPost P r w):=by
 have HV:=hid hv
 have HV2:=hid hv2
 have HVW:=hid hv.val
 have HVW2:=hid hv2.val
 have HRA:=hid hra
 have HRB:=hid hrb
 have HRES:=hid hres
 have HON1:=hid (val_one hv.val).2
 have HON2:=hid (val_one hv2.val).2
 obtain⟨vna,via,rfl,hkw,hnw,hfw,hsw,hns,hil,hi⟩:=ValAt.inv hv
 obtain⟨hnl,NA1,na2,rfl,hnA⟩:=hns
 have hi0:=hi
 obtain⟨hil2,A,c,rfl,hA⟩:=hi
 obtain⟨vnb,vib,rfl,hkw2,hnw2,hfw2,hsw2,hns2,hil3,hi2⟩:=ValAt.inv hv2
 obtain⟨hnl2,NB1,nb2,rfl,hnB⟩:=hns2
 have hi20:=hi2
 obtain⟨hil4,B,c2,rfl,hB⟩:=hi2
 have HWF:=hid (And.intro hnw (And.intro hfw (And.intro hnw2 hfw2)))
 have HIT:=hid hi0
 have HIT2:=hid hi20
 clear hkw hnw hfw hsw hnl hnA hil hil2 hA hkw2 hnw2 hfw2 hsw2 hnl2 hnB hil3 hil4 hB hv hv2 hra hrb hres hi0 hi20
 go_enter Tryz.func69,Tryz.ntmps69
 go_upto_region 1 with (fail)
 have HST:=hid (bb_start w [.int .i64 4,.int .i64 na,.float .f64 fa,.string sa,.slice NA1 nsa.length na2,.slice A ia.length c] [.int .i64 4,.int .i64 nb,.float .f64 fb,.string sb,.slice NB1 nsb.length nb2,.slice B ib.length c2])
 have hz6:(#[Value.int IntKind.i64 0,Value.int IntKind.i64 0,Value.float FloatKind.f64 0,Value.string { data:= #[] },Value.slice none 0 0,Value.slice none 0 0]:Array Value)= zV6.toArray:=rfl
 rw[hz6]
 clear hz6
 generalize ((w.alloc (.cells ⟨[.int .i64 4,.int .i64 na,.float .f64 fa,.string sa,.slice NA1 nsa.length na2,.slice A ia.length c]⟩ 26)).alloc (.cells ⟨[.int .i64 4,.int .i64 nb,.float .f64 fb,.string sb,.slice NB1 nsb.length nb2,.slice B ib.length c2]⟩ 26)).alloc (.cells zV6.toArray 26)= W at*
 have d0:W.cell? ⟨w.heap.size,0,none⟩= some (.int .i64 4):=HST.out.wa.cells 0 rfl
 have c0:W.cell? ⟨w.heap.size+1,0,none⟩= some (.int .i64 4):=HST.out.wb.cells 0 rfl
 have n3:W.cell? ⟨w.heap.size,3,none⟩= some (.string sa):=HST.out.wa.cells 3 rfl
 have n5:W.cell? ⟨w.heap.size,5,none⟩= some (.slice A ia.length c):=HST.out.wa.cells 5 rfl
 have m3:W.cell? ⟨w.heap.size+1,3,none⟩= some (.string sb):=HST.out.wb.cells 3 rfl
 have m5:W.cell? ⟨w.heap.size+1,5,none⟩= some (.slice B ib.length c2):=HST.out.wb.cells 5 rfl
 have hcat:∀ W:World,(Op.stringOp .add sa sb).run Tryz.prog W= .ok (.string (sa ++ sb)) W:=fun W=>run_string_add_sum W _ _ (by have h1:=right_size HRA.out;have h2:=right_size HRB.out;simp;omega)
 have hcat2:∀ W:World,(binOp .add 9 (.string sa) (.string sb)).run Tryz.prog W= .ok (.string (sa ++ sb)) W:=fun W=>hcat W
 have HLA1:=hid HST.out.wa.lt
 have HLB1:=hid HST.out.wb.lt
 obtain⟨A',cA,heA,KLA,hlA,hkA,hcA,hoA⟩:=items_cells HIT.out
 obtain⟨B',cB,heB,KLB,hlB,hkB,hcB,hoB⟩:=items_cells HIT2.out
 simp only[Value.slice.injEq,true_and] at heA heB
 obtain⟨rfl,rfl⟩:=heA
 obtain⟨rfl,rfl⟩:=heB
 have HKA:=hid (And.intro hlA (And.intro hkA (And.intro hcA hoA)))
 have HKB:=hid (And.intro hlB (And.intro hkB (And.intro hcB hoB)))
 clear hlA hkA hcA hoA hlB hkB hcB hoB
 obtain⟨j0,hi,hz0,hz1,hz2⟩:=info_partsV info_row
 have HJ0:=hid hi
 have HY0:=hid hz0
 have HY1:=hid hz1
 clear hi hz0 hz1 hz2
 go_upto_region 15 with ((go_at_call 36;refine(must_yes 6 _).mono ?_;rintro e z ⟨rfl,hzw⟩;rw[hzw];clear hzw z))
 refine wp_region_ord_tail 14 [(0,true),(1,true),(2,true),(3,true),(4,true),(5,true),(6,true),(7,true),(8,true),(9,true),(10,true),(11,false),(12,false),(13,true)] (fun z=>Below W.heap.size W z) (by kernel_rfl) (by kernel_rfl) rfl (by intro c a d v w h;cases d<;>exact h) ?_
 have hs:Below W.heap.size W W.drew:=(Below.refl _ _).drew
 refine ord_load (some 97) (.pointer (some ⟨w.heap.size,0,none⟩)) _ rfl rfl (by first|exact wanted_none rfl|exact wanted_if rfl rfl rfl rfl) hs (fun z hz=>by go_simp) ?_
 go_frame
 refine ord_load (some 98) (.int .i64 4) _ rfl rfl (by first|exact wanted_none rfl|exact wanted_if rfl rfl rfl rfl) hs (fun z hz=>by have e4:=(hz.cell (p:=⟨w.heap.size,0,none⟩) HLA1.out).trans d0;clear hz;go_simp) ?_
 go_frame
 refine ord_load (some 99) (.pointer (some ⟨w.heap.size,3,none⟩)) _ rfl rfl (by first|exact wanted_none rfl|exact wanted_if rfl rfl rfl rfl) hs (fun z hz=>by go_simp) ?_
 go_frame
 refine ord_load (some 100) (.string sa) _ rfl rfl (by first|exact wanted_none rfl|exact wanted_if rfl rfl rfl rfl) hs (fun z hz=>by have e4:=(hz.cell (p:=⟨w.heap.size,3,none⟩) HLA1.out).trans n3;clear hz;go_simp) ?_
 go_frame
 refine ord_load (some 101) (.pointer (some ⟨w.heap.size+1,3,none⟩)) _ rfl rfl (by first|exact wanted_none rfl|exact wanted_if rfl rfl rfl rfl) hs (fun z hz=>by go_simp) ?_
 go_frame
 refine ord_load (some 102) (.string sb) _ rfl rfl (by first|exact wanted_none rfl|exact wanted_if rfl rfl rfl rfl) hs (fun z hz=>by have e4:=(hz.cell (p:=⟨w.heap.size+1,3,none⟩) HLB1.out).trans m3;clear hz;go_simp) ?_
 go_frame
 refine ord_load (some 103) (.string (sa ++ sb)) _ rfl rfl (by first|exact wanted_none rfl|exact wanted_if rfl rfl rfl rfl) hs (fun z hz=>by go_simp) ?_
 go_frame
 refine ord_load (some 104) (.pointer (some ⟨w.heap.size,5,none⟩)) _ rfl rfl (by first|exact wanted_none rfl|exact wanted_if rfl rfl rfl rfl) hs (fun z hz=>by go_simp) ?_
 go_frame
 refine ord_load (some 105) (.slice A ia.length c) _ rfl rfl (by first|exact wanted_none rfl|exact wanted_if rfl rfl rfl rfl) hs (fun z hz=>by have e4:=(hz.cell (p:=⟨w.heap.size,5,none⟩) HLA1.out).trans n5;clear hz;go_simp) ?_
 go_frame
 refine ord_load (some 106) (.pointer (some ⟨w.heap.size+1,5,none⟩)) _ rfl rfl (by first|exact wanted_none rfl|exact wanted_if rfl rfl rfl rfl) hs (fun z hz=>by go_simp) ?_
 go_frame
 refine ord_load (some 107) (.slice B ib.length c2) _ rfl rfl (by first|exact wanted_none rfl|exact wanted_if rfl rfl rfl rfl) hs (fun z hz=>by have e4:=(hz.cell (p:=⟨w.heap.size+1,5,none⟩) HLB1.out).trans m5;clear hz;go_simp) ?_
 go_frame
 have hs2:Below W.heap.size W (W.drew.alloc (.cells #[.slice A ia.length c,.slice B ib.length c2] 24)):=hs.trans ((box_below W.drew _).mono hs.size)
 refine ord_run (some 108) (.slice (some ⟨W.drew.heap.size,0,none⟩) 2 2) (W.drew.alloc (.cells #[.slice A ia.length c,.slice B ib.length c2] 24)) _ rfl rfl (by first|exact wanted_none rfl|exact wanted_if rfl rfl rfl rfl) (exec_build2s 176 _ _ rfl 24 j0 _ A B ia.length ib.length c c2 rfl rfl Tryz.underlying176 HJ0.out HY0.out rfl HY1.out) hs2 ?_
 go_frame
 have HS2:=hid hs2
 have e0:=cell_box W.drew #[.slice A ia.length c,.slice B ib.length c2] 24 0
 have e1:=cell_box W.drew #[.slice A ia.length c,.slice B ib.length c2] 24 1
 simp only[List.getElem?_toArray,List.getElem?_cons_zero,List.getElem?_cons_succ] at e0 e1
 have HE:=hid (And.intro e0 e1)
 have HSZ:Hid (W.drew.heap.size <(W.drew.alloc (.cells #[.slice A ia.length c,.slice B ib.length c2] 24)).heap.size):=hid (by simp)
 clear e0 e1 hs hs2 d0 c0 n3 n5 m3 m5 hcat hcat2
 generalize W.drew.alloc (.cells #[.slice A ia.length c,.slice B ib.length c2] 24)= V at*
 generalize W.drew.heap.size= hb at*
 have HWV:=hid (HST.out.bel.trans (HS2.out.mono HST.out.bel.size))
 have HCC:=hid (concat_any hb A B ia.length ib.length c c2 (flat enc6 KLA) (flat enc6 KLB) V (by rw[flat6_len,HKA.out.1]) (by rw[flat6_len,HKB.out.1])
  (fun h0=>by obtain⟨b,ob,e,hbl,hc⟩:=HKA.out.2.2.1 h0;exact⟨b,ob,e,Nat.lt_of_lt_of_le hbl HWV.out.size,fun j u hj=>(HWV.out.cell (p:=⟨b,ob+j,none⟩) hbl).trans (hc j u hj)⟩)
  (fun h0=>by obtain⟨b,ob,e,hbl,hc⟩:=HKB.out.2.2.1 h0;exact⟨b,ob,e,Nat.lt_of_lt_of_le hbl HWV.out.size,fun j u hj=>(HWV.out.cell (p:=⟨b,ob+j,none⟩) hbl).trans (hc j u hj)⟩)
  HKA.out.2.2.2 HKB.out.2.2.2 HE.out.1 HE.out.2 HSZ.out (by have h1:=(right_len HRA.out).1;have h2:=(right_len HRB.out).1;omega))
 refine ord_to (some 109) 124 Tryz.func124 (by kernel_rfl) (by kernel_rfl) [.slice (some ⟨hb,0,none⟩) 2 2] _ _ _ rfl rfl rfl (by first|exact wanted_none rfl|exact wanted_if rfl rfl rfl rfl) rfl ?_
 refine HCC.out.mono ?_
 rintro e z ⟨v,rfl,hown,hbz⟩
 have hs3:Below W.heap.size W z:=HS2.out.trans (hbz.mono HS2.out.size)
 refine⟨_,rfl,hs3,?_⟩
 have HS3:=hid hs3
 have HBZ:=hid hbz
 have ho:OwnSl 26 6 enc6 z V.heap.size v (KLA ++ KLB):=by
  unfold OwnSl
  rw[flat6_app,List.length_append,HKA.out.1,HKB.out.1]
  exact hown
 obtain⟨VA,vn,vc,rfl⟩:=own_form ho
 have hW3:w.heap.size+2 < W.heap.size:=HST.out.wr.lt
 have HW3:=hid (And.intro hW3 HS3.out.size)
 have HKV:Hid (Kept (fun b=>(P b∧b < w.heap.size)∨W.heap.size≤b) z [.int .i64 4,.int .i64 0,.float .f64 0,.string (sa ++ sb),.slice none 0 0,.slice VA vn vc] (.mk 4 0 0 (sa ++ sb) [] (ia ++ ib))):=hid (by
  have hWZ:Below w.heap.size w z:=HWV.out.trans (hbz.mono HWV.out.size)
  have hl1:=(right_len HRA.out).1
  have hl2:=(right_len HRB.out).1
  have hs1:=right_size HRA.out
  have hs2:=right_size HRB.out
  refine ValAt.of (wfI_of (by omega)) (wfI_of (by omega)) (by decide) (by unfold maxLen;simp;omega) (SlAt.nil _ _ _ _) (by unfold maxLen;simp;omega) (row_kept ho (by simp[HKA.out.1,HKB.out.1]) (by simp;omega) (fun b hb=> .inr (Nat.le_trans HS2.out.size hb)) fun j k x hk hx=> ?_)
  rcases Nat.lt_or_ge j KLA.length with hj|hj
  ·rw[List.getElem?_append_left hj] at hk
   rw[List.getElem?_append_left (by rw[← HKA.out.1];exact hj)] at hx
   exact(HKA.out.2.1 j k x hk hx).to (fun b hp hlt=>⟨.inl ⟨hp,hlt⟩,hWZ.block b hlt⟩) hWZ.size
  ·rw[List.getElem?_append_right hj] at hk
   rw[List.getElem?_append_right (by rw[← HKA.out.1];exact hj),← HKA.out.1] at hx
   exact(HKB.out.2.1 _ k x hk hx).to (fun b hp hlt=>⟨.inl ⟨hp,hlt⟩,hWZ.block b hlt⟩) hWZ.size)
 have HSD:=hid (sized_any (fun b=>(P b∧b < w.heap.size)∨W.heap.size≤b) _ _ z HKV.out)
 have HBB:Hid (BB w z [.int .i64 4,.int .i64 na,.float .f64 fa,.string sa,.slice NA1 nsa.length na2,.slice A ia.length c] [.int .i64 4,.int .i64 nb,.float .f64 fb,.string sb,.slice NB1 nsb.length nb2,.slice B ib.length c2]):=hid (HST.out.next HS3.out)
 have hs:=hs3
 clear hown ho hW3 hbz hs3 HST HS2 HE HCC HKV HSZ HS3
 go_frame
 refine ord_load (some 110) (.agg ⟨[.int .i64 4,.int .i64 0,.float .f64 0,.string (sa ++ sb),.slice none 0 0,.slice VA vn vc]⟩) _ rfl rfl (by first|exact wanted_none rfl|exact wanted_if rfl rfl rfl rfl) hs (fun z hz=>by clear hz;go_simp) ?_
 go_frame
 refine ord_tail ?_
 clear hs
 generalize (.mk 4 0 0 (sa ++ sb) [] (ia ++ ib):VT)= vv at*
 generalize sa ++ sb= ss at*
 go_wp2_with (go_at_call 66;fail)
 refine HSD.out.mono ?_
 rintro e z2 (⟨u,cs',hr,rfl,hk,hb⟩|⟨n,hr,rfl,hb⟩)
 ·have HSZ:=hid (HBB.out.next hb)
  have HRZ:=hid HSZ.out.wr
  have HKZ:=hid hk
  have HCL:=hid (val_one hk.val).1
  have HON:=hid (val_one hk.val).2
  have HRE2:Hid (r= .ok u):=hid (HRES.out.trans hr)
  clear hk hb hr
  go_wp2_with (((with_reducible refine wl_wstore 26 _ _ rfl rfl ?hw (w.heap.size+2) zV6 (cs') HRZ.out ?h5 ?h6 ?h7 ?h8 ?h9 ?_);(case hw=>(first|exact wanted_none rfl|exact wanted_if rfl rfl rfl rfl));(case h5=>rw[HCL.out];rfl);(case h6=>rfl);(case h7=>rfl);(case h8=>rw[HCL.out];kernel_rfl);(case h9=>exact HON.out);intro Z2 hz hb;have HX:=hid hz;have HXB:=hid hb;clear hz hb))
  (try simp only[Exit.inBlock,Exit.then])
  refine bodyPost_ret (results_cellV rfl Tryz.underlying26 rfl _ _ (w.heap.size+2) (cs') (by rw[HCL.out];kernel_rfl) rfl HX.out.range) rfl ?_
  have hbel:=BB.fin HSZ.out HXB.out
  exact .ok HRE2.out rfl (HKZ.out.to (fun b hp hlt=>by have h1:=HW3.out;rcases hp with (⟨h2,h3⟩|h2)|h2;exact⟨.inl h2,HXB.out.block b hlt (by omega) (by omega)⟩;exact⟨.inr (by omega),HXB.out.block b hlt (by omega) (by omega)⟩;exact⟨.inr (by omega),HXB.out.block b hlt (by omega) (by omega)⟩) HXB.out.size) hbel
 ·have HS1:=hid (HBB.out.next hb)
  have HRE2:Hid (r= .error n):=hid (HRES.out.trans hr)
  clear hb hr
  go_wp2
  exact⟨rfl,.no HRE2.out rfl HS1.out.bel⟩
theorem bi_add5 (na nb:Int) (fa fb:Nat) (sa sb:ByteArray) (nsa nsb:List ByteArray) (ia ib:List VT) (ca cb:List Value) (w:World) (hv:Kept P w ca (.mk 5 na fa sa nsa ia)) (hv2:Kept P w cb (.mk 5 nb fb sb nsb ib)) (hra:rightW (.mk 5 na fa sa nsa ia)= true) (hrb:rightW (.mk 5 nb fb sb nsb ib)= true) {r:Res} (hres:r= szd (.mk 5 0 0 (sa ++ sb) [] (ia ++ ib))):
  Calls Tryz.prog 69 #[.int .i64 5,.agg ⟨ca⟩,.agg ⟨cb⟩] w (UnPost P r w):=by
 have HV:=hid hv
 have HV2:=hid hv2
 have HVW:=hid hv.val
 have HVW2:=hid hv2.val
 have HRA:=hid hra
 have HRB:=hid hrb
 have HRES:=hid hres
 have HON1:=hid (val_one hv.val).2
 have HON2:=hid (val_one hv2.val).2
 obtain⟨vna,via,rfl,hkw,hnw,hfw,hsw,hns,hil,hi⟩:=ValAt.inv hv
 obtain⟨hnl,NA1,na2,rfl,hnA⟩:=hns
 have hi0:=hi
 obtain⟨hil2,A,c,rfl,hA⟩:=hi
 obtain⟨vnb,vib,rfl,hkw2,hnw2,hfw2,hsw2,hns2,hil3,hi2⟩:=ValAt.inv hv2
 obtain⟨hnl2,NB1,nb2,rfl,hnB⟩:=hns2
 have hi20:=hi2
 obtain⟨hil4,B,c2,rfl,hB⟩:=hi2
 have HWF:=hid (And.intro hnw (And.intro hfw (And.intro hnw2 hfw2)))
 have HIT:=hid hi0
 have HIT2:=hid hi20
 clear hkw hnw hfw hsw hnl hnA hil hil2 hA hkw2 hnw2 hfw2 hsw2 hnl2 hnB hil3 hil4 hB hv hv2 hra hrb hres hi0 hi20
 go_enter Tryz.func69,Tryz.ntmps69
 go_upto_region 1 with (fail)
 have HST:=hid (bb_start w [.int .i64 5,.int .i64 na,.float .f64 fa,.string sa,.slice NA1 nsa.length na2,.slice A ia.length c] [.int .i64 5,.int .i64 nb,.float .f64 fb,.string sb,.slice NB1 nsb.length nb2,.slice B ib.length c2])
 have hz6:(#[Value.int IntKind.i64 0,Value.int IntKind.i64 0,Value.float FloatKind.f64 0,Value.string { data:= #[] },Value.slice none 0 0,Value.slice none 0 0]:Array Value)= zV6.toArray:=rfl
 rw[hz6]
 clear hz6
 generalize ((w.alloc (.cells ⟨[.int .i64 5,.int .i64 na,.float .f64 fa,.string sa,.slice NA1 nsa.length na2,.slice A ia.length c]⟩ 26)).alloc (.cells ⟨[.int .i64 5,.int .i64 nb,.float .f64 fb,.string sb,.slice NB1 nsb.length nb2,.slice B ib.length c2]⟩ 26)).alloc (.cells zV6.toArray 26)= W at*
 have d0:W.cell? ⟨w.heap.size,0,none⟩= some (.int .i64 5):=HST.out.wa.cells 0 rfl
 have c0:W.cell? ⟨w.heap.size+1,0,none⟩= some (.int .i64 5):=HST.out.wb.cells 0 rfl
 have n3:W.cell? ⟨w.heap.size,3,none⟩= some (.string sa):=HST.out.wa.cells 3 rfl
 have n5:W.cell? ⟨w.heap.size,5,none⟩= some (.slice A ia.length c):=HST.out.wa.cells 5 rfl
 have m3:W.cell? ⟨w.heap.size+1,3,none⟩= some (.string sb):=HST.out.wb.cells 3 rfl
 have m5:W.cell? ⟨w.heap.size+1,5,none⟩= some (.slice B ib.length c2):=HST.out.wb.cells 5 rfl
 have hcat:∀ W:World,(Op.stringOp .add sa sb).run Tryz.prog W= .ok (.string (sa ++ sb)) W:=fun W=>run_string_add_sum W _ _ (by have h1:=right_size HRA.out;have h2:=right_size HRB.out;simp;omega)
 have hcat2:∀ W:World,(binOp .add 9 (.string sa) (.string sb)).run Tryz.prog W= .ok (.string (sa ++ sb)) W:=fun W=>hcat W
 have HLA1:=hid HST.out.wa.lt
 have HLB1:=hid HST.out.wb.lt
 obtain⟨A',cA,heA,KLA,hlA,hkA,hcA,hoA⟩:=items_cells HIT.out
 obtain⟨B',cB,heB,KLB,hlB,hkB,hcB,hoB⟩:=items_cells HIT2.out
 simp only[Value.slice.injEq,true_and] at heA heB
 obtain⟨rfl,rfl⟩:=heA
 obtain⟨rfl,rfl⟩:=heB
 have HKA:=hid (And.intro hlA (And.intro hkA (And.intro hcA hoA)))
 have HKB:=hid (And.intro hlB (And.intro hkB (And.intro hcB hoB)))
 clear hlA hkA hcA hoA hlB hkB hcB hoB
 obtain⟨j0,hi,hz0,hz1,hz2⟩:=info_partsV info_row
 have HJ0:=hid hi
 have HY0:=hid hz0
 have HY1:=hid hz1
 clear hi hz0 hz1 hz2
 go_upto_region 15 with ((go_at_call 36;refine(must_yes 6 _).mono ?_;rintro e z ⟨rfl,hzw⟩;rw[hzw];clear hzw z))
 refine wp_region_ord_tail 14 [(0,true),(1,true),(2,true),(3,true),(4,true),(5,true),(6,true),(7,true),(8,true),(9,true),(10,true),(11,false),(12,false),(13,true)] (fun z=>Below W.heap.size W z) (by kernel_rfl) (by kernel_rfl) rfl (by intro c a d v w h;cases d<;>exact h) ?_
 have hs:Below W.heap.size W W.drew:=(Below.refl _ _).drew
 refine ord_load (some 97) (.pointer (some ⟨w.heap.size,0,none⟩)) _ rfl rfl (by first|exact wanted_none rfl|exact wanted_if rfl rfl rfl rfl) hs (fun z hz=>by go_simp) ?_
 go_frame
 refine ord_load (some 98) (.int .i64 5) _ rfl rfl (by first|exact wanted_none rfl|exact wanted_if rfl rfl rfl rfl) hs (fun z hz=>by have e4:=(hz.cell (p:=⟨w.heap.size,0,none⟩) HLA1.out).trans d0;clear hz;go_simp) ?_
 go_frame
 refine ord_load (some 99) (.pointer (some ⟨w.heap.size,3,none⟩)) _ rfl rfl (by first|exact wanted_none rfl|exact wanted_if rfl rfl rfl rfl) hs (fun z hz=>by go_simp) ?_
 go_frame
 refine ord_load (some 100) (.string sa) _ rfl rfl (by first|exact wanted_none rfl|exact wanted_if rfl rfl rfl rfl) hs (fun z hz=>by have e4:=(hz.cell (p:=⟨w.heap.size,3,none⟩) HLA1.out).trans n3;clear hz;go_simp) ?_
 go_frame
 refine ord_load (some 101) (.pointer (some ⟨w.heap.size+1,3,none⟩)) _ rfl rfl (by first|exact wanted_none rfl|exact wanted_if rfl rfl rfl rfl) hs (fun z hz=>by go_simp) ?_
 go_frame
 refine ord_load (some 102) (.string sb) _ rfl rfl (by first|exact wanted_none rfl|exact wanted_if rfl rfl rfl rfl) hs (fun z hz=>by have e4:=(hz.cell (p:=⟨w.heap.size+1,3,none⟩) HLB1.out).trans m3;clear hz;go_simp) ?_
 go_frame
 refine ord_load (some 103) (.string (sa ++ sb)) _ rfl rfl (by first|exact wanted_none rfl|exact wanted_if rfl rfl rfl rfl) hs (fun z hz=>by go_simp) ?_
 go_frame
 refine ord_load (some 104) (.pointer (some ⟨w.heap.size,5,none⟩)) _ rfl rfl (by first|exact wanted_none rfl|exact wanted_if rfl rfl rfl rfl) hs (fun z hz=>by go_simp) ?_
 go_frame
 refine ord_load (some 105) (.slice A ia.length c) _ rfl rfl (by first|exact wanted_none rfl|exact wanted_if rfl rfl rfl rfl) hs (fun z hz=>by have e4:=(hz.cell (p:=⟨w.heap.size,5,none⟩) HLA1.out).trans n5;clear hz;go_simp) ?_
 go_frame
 refine ord_load (some 106) (.pointer (some ⟨w.heap.size+1,5,none⟩)) _ rfl rfl (by first|exact wanted_none rfl|exact wanted_if rfl rfl rfl rfl) hs (fun z hz=>by go_simp) ?_
 go_frame
 refine ord_load (some 107) (.slice B ib.length c2) _ rfl rfl (by first|exact wanted_none rfl|exact wanted_if rfl rfl rfl rfl) hs (fun z hz=>by have e4:=(hz.cell (p:=⟨w.heap.size+1,5,none⟩) HLB1.out).trans m5;clear hz;go_simp) ?_
 go_frame
 have hs2:Below W.heap.size W (W.drew.alloc (.cells #[.slice A ia.length c,.slice B ib.length c2] 24)):=hs.trans ((box_below W.drew _).mono hs.size)
 refine ord_run (some 108) (.slice (some ⟨W.drew.heap.size,0,none⟩) 2 2) (W.drew.alloc (.cells #[.slice A ia.length c,.slice B ib.length c2] 24)) _ rfl rfl (by first|exact wanted_none rfl|exact wanted_if rfl rfl rfl rfl) (exec_build2s 176 _ _ rfl 24 j0 _ A B ia.length ib.length c c2 rfl rfl Tryz.underlying176 HJ0.out HY0.out rfl HY1.out) hs2 ?_
 go_frame
 have HS2:=hid hs2
 have e0:=cell_box W.drew #[.slice A ia.length c,.slice B ib.length c2] 24 0
 have e1:=cell_box W.drew #[.slice A ia.length c,.slice B ib.length c2] 24 1
 simp only[List.getElem?_toArray,List.getElem?_cons_zero,List.getElem?_cons_succ] at e0 e1
 have HE:=hid (And.intro e0 e1)
 have HSZ:Hid (W.drew.heap.size <(W.drew.alloc (.cells #[.slice A ia.length c,.slice B ib.length c2] 24)).heap.size):=hid (by simp)
 clear e0 e1 hs hs2 d0 c0 n3 n5 m3 m5 hcat hcat2
 generalize W.drew.alloc (.cells #[.slice A ia.length c,.slice B ib.length c2] 24)= V at*
 generalize W.drew.heap.size= hb at*
 have HWV:=hid (HST.out.bel.trans (HS2.out.mono HST.out.bel.size))
 have HCC:=hid (concat_any hb A B ia.length ib.length c c2 (flat enc6 KLA) (flat enc6 KLB) V (by rw[flat6_len,HKA.out.1]) (by rw[flat6_len,HKB.out.1])
  (fun h0=>by obtain⟨b,ob,e,hbl,hc⟩:=HKA.out.2.2.1 h0;exact⟨b,ob,e,Nat.lt_of_lt_of_le hbl HWV.out.size,fun j u hj=>(HWV.out.cell (p:=⟨b,ob+j,none⟩) hbl).trans (hc j u hj)⟩)
  (fun h0=>by obtain⟨b,ob,e,hbl,hc⟩:=HKB.out.2.2.1 h0;exact⟨b,ob,e,Nat.lt_of_lt_of_le hbl HWV.out.size,fun j u hj=>(HWV.out.cell (p:=⟨b,ob+j,none⟩) hbl).trans (hc j u hj)⟩)
  HKA.out.2.2.2 HKB.out.2.2.2 HE.out.1 HE.out.2 HSZ.out (by have h1:=(right_len HRA.out).1;have h2:=(right_len HRB.out).1;omega))
 refine ord_to (some 109) 124 Tryz.func124 (by kernel_rfl) (by kernel_rfl) [.slice (some ⟨hb,0,none⟩) 2 2] _ _ _ rfl rfl rfl (by first|exact wanted_none rfl|exact wanted_if rfl rfl rfl rfl) rfl ?_
 refine HCC.out.mono ?_
 rintro e z ⟨v,rfl,hown,hbz⟩
 have hs3:Below W.heap.size W z:=HS2.out.trans (hbz.mono HS2.out.size)
 refine⟨_,rfl,hs3,?_⟩
 have HS3:=hid hs3
 have HBZ:=hid hbz
 have ho:OwnSl 26 6 enc6 z V.heap.size v (KLA ++ KLB):=by
  unfold OwnSl
  rw[flat6_app,List.length_append,HKA.out.1,HKB.out.1]
  exact hown
 obtain⟨VA,vn,vc,rfl⟩:=own_form ho
 have hW3:w.heap.size+2 < W.heap.size:=HST.out.wr.lt
 have HW3:=hid (And.intro hW3 HS3.out.size)
 have HKV:Hid (Kept (fun b=>(P b∧b < w.heap.size)∨W.heap.size≤b) z [.int .i64 5,.int .i64 0,.float .f64 0,.string (sa ++ sb),.slice none 0 0,.slice VA vn vc] (.mk 5 0 0 (sa ++ sb) [] (ia ++ ib))):=hid (by
  have hWZ:Below w.heap.size w z:=HWV.out.trans (hbz.mono HWV.out.size)
  have hl1:=(right_len HRA.out).1
  have hl2:=(right_len HRB.out).1
  have hs1:=right_size HRA.out
  have hs2:=right_size HRB.out
  refine ValAt.of (wfI_of (by omega)) (wfI_of (by omega)) (by decide) (by unfold maxLen;simp;omega) (SlAt.nil _ _ _ _) (by unfold maxLen;simp;omega) (row_kept ho (by simp[HKA.out.1,HKB.out.1]) (by simp;omega) (fun b hb=> .inr (Nat.le_trans HS2.out.size hb)) fun j k x hk hx=> ?_)
  rcases Nat.lt_or_ge j KLA.length with hj|hj
  ·rw[List.getElem?_append_left hj] at hk
   rw[List.getElem?_append_left (by rw[← HKA.out.1];exact hj)] at hx
   exact(HKA.out.2.1 j k x hk hx).to (fun b hp hlt=>⟨.inl ⟨hp,hlt⟩,hWZ.block b hlt⟩) hWZ.size
  ·rw[List.getElem?_append_right hj] at hk
   rw[List.getElem?_append_right (by rw[← HKA.out.1];exact hj),← HKA.out.1] at hx
   exact(HKB.out.2.1 _ k x hk hx).to (fun b hp hlt=>⟨.inl ⟨hp,hlt⟩,hWZ.block b hlt⟩) hWZ.size)
 have HSD:=hid (sized_any (fun b=>(P b∧b < w.heap.size)∨W.heap.size≤b) _ _ z HKV.out)
 have HBB:Hid (BB w z [.int .i64 5,.int .i64 na,.float .f64 fa,.string sa,.slice NA1 nsa.length na2,.slice A ia.length c] [.int .i64 5,.int .i64 nb,.float .f64 fb,.string sb,.slice NB1 nsb.length nb2,.slice B ib.length c2]):=hid (HST.out.next HS3.out)
 have hs:=hs3
 clear hown ho hW3 hbz hs3 HST HS2 HE HCC HKV HSZ HS3
 go_frame
 refine ord_load (some 110) (.agg ⟨[.int .i64 5,.int .i64 0,.float .f64 0,.string (sa ++ sb),.slice none 0 0,.slice VA vn vc]⟩) _ rfl rfl (by first|exact wanted_none rfl|exact wanted_if rfl rfl rfl rfl) hs (fun z hz=>by clear hz;go_simp) ?_
 go_frame
 refine ord_tail ?_
 clear hs
 generalize (.mk 5 0 0 (sa ++ sb) [] (ia ++ ib):VT)= vv at*
 generalize sa ++ sb= ss at*
 go_wp2_with (go_at_call 66;fail)
 refine HSD.out.mono ?_
 rintro e z2 (⟨u,cs',hr,rfl,hk,hb⟩|⟨n,hr,rfl,hb⟩)
 ·have HSZ:=hid (HBB.out.next hb)
  have HRZ:=hid HSZ.out.wr
  have HKZ:=hid hk
  have HCL:=hid (val_one hk.val).1
  have HON:=hid (val_one hk.val).2
  have HRE2:Hid (r= .ok u):=hid (HRES.out.trans hr)
  clear hk hb hr
  go_wp2_with (((with_reducible refine wl_wstore 26 _ _ rfl rfl ?hw (w.heap.size+2) zV6 (cs') HRZ.out ?h5 ?h6 ?h7 ?h8 ?h9 ?_);(case hw=>(first|exact wanted_none rfl|exact wanted_if rfl rfl rfl rfl));(case h5=>rw[HCL.out];rfl);(case h6=>rfl);(case h7=>rfl);(case h8=>rw[HCL.out];kernel_rfl);(case h9=>exact HON.out);intro Z2 hz hb;have HX:=hid hz;have HXB:=hid hb;clear hz hb))
  (try simp only[Exit.inBlock,Exit.then])
  refine bodyPost_ret (results_cellV rfl Tryz.underlying26 rfl _ _ (w.heap.size+2) (cs') (by rw[HCL.out];kernel_rfl) rfl HX.out.range) rfl ?_
  have hbel:=BB.fin HSZ.out HXB.out
  exact .ok HRE2.out rfl (HKZ.out.to (fun b hp hlt=>by have h1:=HW3.out;rcases hp with (⟨h2,h3⟩|h2)|h2;exact⟨.inl h2,HXB.out.block b hlt (by omega) (by omega)⟩;exact⟨.inr (by omega),HXB.out.block b hlt (by omega) (by omega)⟩;exact⟨.inr (by omega),HXB.out.block b hlt (by omega) (by omega)⟩) HXB.out.size) hbel
 ·have HS1:=hid (HBB.out.next hb)
  have HRE2:Hid (r= .error n):=hid (HRES.out.trans hr)
  clear hb hr
  go_wp2
  exact⟨rfl,.no HRE2.out rfl HS1.out.bel⟩
theorem binary_any (k:Int) (a b:VT) (ca cb:List Value) (w:World) (hv:Kept P w ca a) (hv2:Kept P w cb b) (hra:rightW a= true) (hrb:rightW b= true):
  Calls Tryz.prog 69 #[.int .i64 k,.agg ⟨ca⟩,.agg ⟨cb⟩] w (UnPost P (binV k a b) w):=by
 cases a with
 |mk ka na fa sa nsa ia=>
 cases b with
 |mk kb nb fb sb nsb ib=>
 rw[binV]
 by_cases k19:k= 19
 ·subst k19
  rw[if_pos rfl]
  by_cases h5:ka= 5
  ·subst h5
   by_cases h2:kb= 2
   ·subst h2
    rw[if_pos ⟨rfl,rfl⟩]
    by_cases hn:0≤nb∧nb <(ia.length:Int)
    ·rw[if_pos hn]
     have hj:nb.toNat < ia.length:=by omega
     have:ia.getD nb.toNat v0= ia[nb.toNat]:=by simp[List.getD,List.getElem?_eq_getElem hj]
     rw[this]
     exact bi_idx P na nb fa fb sa sb nsa nsb ia ib ca cb w nb.toNat hj (hid (by omega)) hv hv2 hra hrb rfl
    ·rw[if_neg hn]
     by_cases h0:0≤nb
     ·exact bi_idxo P na nb fa fb sa sb nsa nsb ia ib ca cb w (decide_eq_true h0) (decide_eq_false (by omega)) hv hv2 hra hrb rfl
     ·exact bi_idxn P na nb fa fb sa sb nsa nsb ia ib ca cb w (decide_eq_false h0) hv hv2 hra hrb rfl
   ·rw[if_neg (by simp[h2])];exact bi_idxy P na nb fa fb sa sb nsa nsb ia ib ca cb w kb (by simpa using h2) hv hv2 hra hrb rfl
  ·rw[if_neg (by simp[h5])];exact bi_idxx P na nb fa fb sa sb nsa nsb ia ib ca cb w ka kb (by simpa using h5) hv hv2 hra hrb rfl
 rw[if_neg k19]
 have e19:(k ==19)= false:=by simpa using k19
 by_cases hkk:ka= kb
 ·subst hkk
  rw[if_neg (by simp)]
  by_cases k10:k= 10
  ·subst k10;rw[if_pos rfl];exact bi_eq P na nb fa fb sa sb nsa nsb ia ib ca cb w ka hv hv2 hra hrb rfl
  rw[if_neg k10]
  by_cases k11:k= 11
  ·subst k11;rw[if_pos (Or.inl rfl)];exact bi_less11 P na nb fa fb sa sb nsa nsb ia ib ca cb w ka hv hv2 hra hrb rfl
  by_cases k12:k= 12
  ·subst k12;rw[if_pos (Or.inr rfl)];exact bi_less12 P na nb fa fb sa sb nsa nsb ia ib ca cb w ka hv hv2 hra hrb rfl
  rw[if_neg (by omega)]
  have e10:(k ==10)= false:=by simpa using k10
  have e11:(k ==11)= false:=by simpa using k11
  have e12:(k ==12)= false:=by simpa using k12
  by_cases h2:ka= 2
  ·subst h2;rw[if_pos rfl];exact bi_int P na nb fa fb sa sb nsa nsb ia ib ca cb w k e19 e10 e11 e12 hv hv2 hra hrb rfl
  rw[if_neg h2]
  by_cases h3:ka= 3
  ·subst h3;rw[if_pos rfl];exact bi_flt P na nb fa fb sa sb nsa nsb ia ib ca cb w k e19 e10 e11 e12 hv hv2 hra hrb rfl
  rw[if_neg h3]
  have e2:(ka ==2)= false:=by simpa using h2
  have e3:(ka ==3)= false:=by simpa using h3
  by_cases k5:k= 5
  ·subst k5
   by_cases h4:ka= 4
   ·subst h4;rw[if_pos ⟨rfl,Or.inl rfl⟩];exact bi_add4 P na nb fa fb sa sb nsa nsb ia ib ca cb w hv hv2 hra hrb rfl
   by_cases h5:ka= 5
   ·subst h5;rw[if_pos ⟨rfl,Or.inr rfl⟩];exact bi_add5 P na nb fa fb sa sb nsa nsb ia ib ca cb w hv hv2 hra hrb rfl
   rw[if_neg (by omega)]
   exact bi_no5 P na nb fa fb sa sb nsa nsb ia ib ca cb w ka e2 e3 (by simpa using h4) (by simpa using h5) hv hv2 hra hrb rfl
  ·rw[if_neg (by omega)]
   exact bi_no P na nb fa fb sa sb nsa nsb ia ib ca cb w k e19 e10 e11 e12 ka e2 e3 (by simpa using k5) hv hv2 hra hrb rfl
 ·rw[if_pos hkk];exact bi_kind P na nb fa fb sa sb nsa nsb ia ib ca cb w k ka kb e19 (by simpa using hkk) hv hv2 hra hrb rfl
end
end Go.Proofs.YtmpbepjjbaeebaaGreatDoor
