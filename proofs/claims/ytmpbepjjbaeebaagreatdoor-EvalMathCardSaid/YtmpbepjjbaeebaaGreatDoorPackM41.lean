/- Parts of a proof: E10V. -/
import Derived.Test.YtmpbepjjbaeebaaGreatDoorPackM27
import Derived.Test.YtmpbepjjbaeebaaGreatDoorPackM30
import Derived.Test.YtmpbepjjbaeebaaGreatDoorPackM34
import Derived.Test.YtmpbepjjbaeebaaGreatDoorPackM37
import Derived.Test.YtmpbepjjbaeebaaGreatDoorPackM40
set_option maxHeartbeats 8000000
set_option maxRecDepth 100000
set_option linter.unusedVariables false
set_option linter.unusedSimpArgs false
namespace Go.Proofs.YtmpbepjjbaeebaaGreatDoor
open Go Go.RowKit
open Go.Lib (hid)
structure EB (w W:World) (q:Nat):Prop where
 wb:Whole 26 W q zV6
 bel:Below w.heap.size w W
 ge:w.heap.size≤q
 lt:q < W.heap.size
theorem eb_start {w W:World} (h:Below w.heap.size w W):EB w (W.alloc (.cells zV6.toArray 26)) W.heap.size:=⟨Whole.new W zV6 26,h.trans ((box_below W _).mono h.size),h.size,by simp⟩
theorem EB.next {w W W':World} {q:Nat} (h:EB w W q) (hb:Below W.heap.size W W'):EB w W' q:=⟨h.wb.keep (hb.block _ h.lt),h.bel.trans (hb.mono h.bel.size),h.ge,Nat.lt_of_lt_of_le h.lt hb.size⟩
theorem EB.drew {w W:World} {q:Nat} (h:EB w W q):EB w W.drew q:=h.next (Below.refl _ _).drew
theorem EB.fin {w W Z:World} {q:Nat} (h:EB w W q) (hx:But W Z q q):Below w.heap.size w Z:=h.bel.trans (hx.below (B:=w.heap.size) h.bel.size h.ge h.ge)
theorem EB.kept {w W Z:World} {q:Nat} {cs:List Value} {v:VT} (he:EB w W q) (h:Kept (fun b=>q < b) W cs v) (hx:But W Z q q):Kept (fun b=>w.heap.size≤b) Z cs v:=
 h.to (fun b hp hlt=>⟨Nat.le_trans he.ge (Nat.le_of_lt hp),hx.block b hlt (Nat.ne_of_gt hp) (Nat.ne_of_gt hp)⟩) hx.size
theorem EB.keptN {w W:World} {q:Nat} (he:EB w W q) {z:World} {cs:List Value} {v:VT} (h:Kept (fun b=>W.heap.size≤b) z cs v):Kept (fun b=>q < b) z cs v:=h.to (fun b hp hlt=>⟨Nat.lt_of_lt_of_le he.lt hp,rfl⟩) (Nat.le_refl _)
theorem EvPost.ok {r:Res} {w:World} {e:Ending} {w':World} {v:VT} {cs:List Value} (hr:r= .ok v) (he:e= .returned (.agg ⟨cs⟩)) (hk:Kept (fun b=>w.heap.size≤b) w' cs v) (hw:rightW v= true) (hb:Below w.heap.size w w'):EvPost r w e w':= .inl ⟨v,cs,hr,he,hk,hw,hb⟩
theorem EvPost.no {r:Res} {w:World} {e:Ending} {w':World} {n:Int} (hr:r= .error n) (he:e= panE n) (hb:Below w.heap.size w w'):EvPost r w e w':= .inr ⟨n,hr,he,hb⟩
theorem mname_any (mp:Nat) (va vb:Value) (E:List VarT) (V:List VT) (s:ByteArray) (w:World) (hm:MacAt w mp va vb E V):Calls Tryz.prog 63 #[.pointer (some ⟨mp,0,none⟩),.string s] w (EvPost (nameR E V s) w):=by
 have HM:=hid hm
 have hvl:=hm.vals.1
 obtain⟨VB,vc,rfl,hvA⟩:=hm.vals.2
 have HVA:=hid hvA
 have HFC:=idx_findV E s
 clear hm hvA
 go_enter Tryz.func63,Tryz.ntmps63
 go_upto_region 1 with (fail)
 have hz6:(#[Value.int IntKind.i64 0,Value.int IntKind.i64 0,Value.float FloatKind.f64 0,Value.string { data:= #[] },Value.slice none 0 0,Value.slice none 0 0]:Array Value)= zV6.toArray:=rfl
 rw[hz6]
 clear hz6
 have HE0:=hid (eb_start (box_below w (.cells #[.string s] 9)))
 have c0:=cell_box w #[.string s] 9 0
 simp only[List.getElem?_toArray,List.getElem?_cons_zero] at c0
 have HC0:=hid ((box_below (w.alloc (.cells #[.string s] 9)) (.cells zV6.toArray 26)).cell (p:=⟨w.heap.size,0,none⟩) (by simp)|>.trans c0)
 have hs1:(w.alloc (.cells #[.string s] 9)).heap.size= w.heap.size+1:=by simp
 rw[hs1] at HE0
 clear c0 hs1
 generalize (w.alloc (.cells #[.string s] 9)).alloc (.cells zV6.toArray 26)= W at*
 have HMW:=hid (HM.out.below HE0.out.bel)
 have HLS:Hid (w.heap.size < W.heap.size):=hid (by have:=HE0.out.lt;omega)
 have HIX:=hid (indexN_any E s va w.heap.size W HMW.out.vars HMW.out.few HC0.out HLS.out)
 have m0:W.cell? ⟨mp,0,none⟩= some va:=HMW.out.cells 0 _ rfl
 obtain⟨ix,hix⟩:∃ ix,findV E s= ix:=⟨_,rfl⟩
 have HRN:Hid (nameR E V s= if ix= -1 then .error 11 else match V[ix.toNat]? with|some v=> .ok (canonV v)|none=> .error 11):=hid (by unfold nameR;rw[hix];rfl)
 rw[hix] at HIX HFC
 generalize nameR E V s= res at*
 clear hix
 have hmf:∀ (fn:Fn) (first cap:Array Value) (w:World),(Instr.makeFunc fn first cap).run Tryz.prog w= .ok (.func fn first cap) w:=fun _ _ _ _=>rfl
 go_upto_region 2 with (go_at_call 110;refine HIX.out.mono ?_;rintro e z ⟨rfl,hb⟩;have HBZ:=hid hb;clear hb)
 have HMZ:=hid (HMW.out.below HBZ.out)
 have HEZ:=hid (HE0.out.next HBZ.out)
 clear m0 hmf HIX HMW HE0 HC0 HLS HBZ
 have m1:z.cell? ⟨mp,1,none⟩= some (.slice VB V.length vc):=HMZ.out.cells 1 _ rfl
 rcases HFC with rfl|⟨h0,h1⟩
 ·have HRES:Hid (res= .error 11):=hid (by rw[HRN.out,if_pos rfl])
  clear m1
  go_wp2_with ((go_at_call 36;refine(must_no 11 _).mono ?_;rintro e z ⟨rfl,hzw⟩;rw[hzw];clear hzw z))
  exact⟨rfl,.no HRES.out rfl HEZ.out.bel⟩
 ·obtain⟨j,rfl⟩:∃ j:Nat,ix=(j:Int):=⟨ix.toNat,by omega⟩
  have hj0:(0:Int)≤(j:Int):=by omega
  have hne: ¬ ((j:Int)= -1):=by omega
  have htn:(j:Int).toNat= j:=by omega
  rw[if_neg hne,htn] at HRN
  by_cases hj:j < V.length
  ·have hj1:(j:Int) <(V.length:Int):=by omega
   obtain⟨v,hv⟩:∃ v,V[j]?= some v:=⟨_,List.getElem?_eq_getElem hj⟩
   have HRES:Hid (res= .ok (canonV v)):=hid (by rw[HRN.out,hv])
   have hrv:=HM.out.right v (List.mem_of_getElem? hv)
   have HRW:Hid (rightW (canonV v)= true):=hid (by rw[canon_rightW];exact hrv)
   obtain⟨b,ob,rfl,hbb,hc⟩:=HVA.out (by omega)
   obtain⟨ks,hkl,hkr,hkv⟩:=hc j v hv
   have HCLL:=hid hkl
   have HBE:=hid HEZ.out.bel
   have HKR:Hid (z.rangeAt b (ob+j*6) ks):=hid (rangeAt_below hkr HBE.out hbb)
   have HCN:=hid (canon_any v ks z (fit_right v hrv) ((hkv.under HBE.out).more HBE.out.size))
   clear hc hkl hkr hkv hrv hv h0 h1 hne htn
   go_upto_region 3 with ((go_at_call 36;refine(must_yes 11 _).mono ?_;rintro e z ⟨rfl,hzw⟩;rw[hzw];clear hzw z))
   go_wp2_with (first|((with_reducible refine wl_sload 26 _ rfl ?hwl b (ob+j*6) ks _ rfl HKR.out Tryz.underlying26 rfl ?hil ?_);(case hwl=>(first|exact wanted_none rfl|exact wanted_if rfl rfl rfl rfl));(case hil=>rw[HCLL.out];kernel_rfl))|(go_at_call 62;refine HCN.out.mono ?_;rintro e z2 ⟨cs',rfl,hk,hb⟩;have HCL:=hid (val_one hk.val).1;have HON:=hid (val_one hk.val).2;have HKZ:=hid (HEZ.out.keptN hk);have HE2:=hid (HEZ.out.next hb);clear hk hb)|((with_reducible refine wl_wstore 26 _ _ rfl rfl ?hw (w.heap.size+1) zV6 (cs') HE2.out.wb ?h5 ?h6 ?h7 ?h8 ?h9 ?_);(case hw=>(first|exact wanted_none rfl|exact wanted_if rfl rfl rfl rfl));(case h5=>rw[HCL.out];rfl);(case h6=>rfl);(case h7=>rfl);(case h8=>rw[HCL.out];kernel_rfl);(case h9=>exact HON.out);intro Z2 hz hb;have HX:=hid hz;have HXB:=hid hb;clear hz hb))
   (try simp only[Exit.inBlock,Exit.then])
   refine bodyPost_ret (results_cellV rfl Tryz.underlying26 rfl _ _ (w.heap.size+1) (cs') (by rw[HCL.out];kernel_rfl) rfl HX.out.range) rfl ?_
   exact .ok HRES.out rfl (HE2.out.kept HKZ.out HXB.out) (HRW.out) (HE2.out.fin HXB.out)
  ·have hj1: ¬ ((j:Int) <(V.length:Int)):=by omega
   have HRES:Hid (res= .error 11):=hid (by rw[HRN.out,List.getElem?_eq_none (by omega)])
   clear h0 h1 hne htn
   go_wp2_with ((go_at_call 36;refine(must_no 11 _).mono ?_;rintro e z ⟨rfl,hzw⟩;rw[hzw];clear hzw z))
   exact⟨rfl,.no HRES.out rfl HEZ.out.bel⟩
theorem mbool_any (mp p o:Nat) (r:Res) (w:World) (h:Calls Tryz.prog 39 #[.pointer (some ⟨mp,0,none⟩),.pointer (some ⟨p,o,none⟩)] w (EvPost r w)):Calls Tryz.prog 64 #[.pointer (some ⟨mp,0,none⟩),.pointer (some ⟨p,o,none⟩)] w (BoolPost (boolR r) w):=by
 have HE:=hid h
 clear h
 go_enter Tryz.func64,Tryz.ntmps64
 go_wp2_with (go_at_call 39;fail)
 refine HE.out.mono ?_
 rintro e z (⟨v,cs,rfl,rfl,hk,hr,hb⟩|⟨n,rfl,rfl,hb⟩)
 ·have HCL:=hid (val_one hk.val).1
  have HON:=hid (val_one hk.val).2
  have HB:=hid hb
  cases v with
  |mk kv n f sv ns its=>
  obtain⟨vn,vi,rfl, -, -, -, -, -, -, -⟩:=ValAt.inv hk
  have HRB:Hid (boolR (.ok (.mk kv n f sv ns its))= if kv= 1 then .ok (n ==1) else .error 6):=hid (by rw[boolR])
  clear hk hr hb HE
  generalize boolR (.ok (.mk kv n f sv ns its))= res at*
  go_upto_region 2 with (first|((with_reducible refine wl_sbox 26 _ _ rfl ?hwx z ?zz [.int .i64 kv,.int .i64 n,.float .f64 f,.string sv,vn,vi] ?hwld ?hz ?hx ?hy ?hi ?h1 ?_);(case hwld=>rfl);(case hx=>rfl);(case hy=>rfl);(case hwx=>(first|exact wanted_none rfl|exact wanted_if rfl rfl rfl rfl));(case hz=>rfl);(case hi=>kernel_rfl);(case h1=>exact HON.out);intro Z hZ;have HX:=hid hZ;clear hZ))
  have d0:Z.cell? ⟨z.heap.size,0,none⟩= some (.int .i64 kv):=by have:=HX.out.range 0 _ rfl;rwa [Nat.zero_add] at this
  have d1:Z.cell? ⟨z.heap.size,1,none⟩= some (.int .i64 n):=by have:=HX.out.range 1 _ rfl;rwa [Nat.zero_add] at this
  have HBZ:=hid (HB.out.trans (HX.out.below.mono HB.out.size))
  by_cases h1:kv= 1
  ·subst h1
   have HRES:Hid (res= .ok (n ==1)):=hid (by rw[HRB.out,if_pos rfl])
   go_wp2_with ((go_at_call 36;refine(must_yes 6 _).mono ?_;rintro e z ⟨rfl,hzw⟩;rw[hzw];clear hzw z))
   go_ret
   exact⟨.inl ⟨_,HRES.out,rfl⟩,HBZ.out⟩
  ·have h1b:(kv ==1)= false:=by simpa using h1
   have HRES:Hid (res= .error 6):=hid (by rw[HRB.out,if_neg h1])
   clear h1
   go_wp2_with ((go_at_call 36;refine(must_no 6 _).mono ?_;rintro e z ⟨rfl,hzw⟩;rw[hzw];clear hzw z))
   exact⟨rfl,.inr ⟨_,HRES.out,rfl⟩,HBZ.out⟩
 ·have HB:=hid hb
  clear hb HE
  go_wp2
  exact⟨rfl,.inr ⟨_,rfl,rfl⟩,HB.out⟩
theorem lz_if {a b c:Res}:lazyR 15 [a,b,c]= match boolR a with| .error e=> .error e| .ok x=>if x= true then b else c:=by
 unfold lazyR
 rw[show ∀ l:List Res,(a::l).getD 0 (.error 0)= a from fun _=>rfl]
 cases boolR a with
 |error e=>rfl
 |ok x=>cases x<;>rfl
theorem lz_and {a b:Res}:lazyR 13 [a,b]= match boolR a with| .error e=> .error e| .ok x=>if x= true then(boolR b).map vB else .ok (vB false):=by
 unfold lazyR
 rw[show ∀ l:List Res,(a::l).getD 0 (.error 0)= a from fun _=>rfl]
 cases boolR a with
 |error e=>rfl
 |ok x=>cases x<;>rfl
theorem lz_or {a b:Res}:lazyR 14 [a,b]= match boolR a with| .error e=> .error e| .ok x=>if x= true then .ok (vB true) else(boolR b).map vB:=by
 unfold lazyR
 rw[show ∀ l:List Res,(a::l).getD 0 (.error 0)= a from fun _=>rfl]
 cases boolR a with
 |error e=>rfl
 |ok x=>cases x<;>rfl
def EvAt (mp b o:Nat) (W:World) (r:Res):Prop:=∀ u,Below W.heap.size W u→Calls Tryz.prog 39 #[.pointer (some ⟨mp,0,none⟩),.pointer (some ⟨b,o,none⟩)] u (EvPost r u)
theorem EvAt.later {mp b o:Nat} {W W':World} {r:Res} (h:EvAt mp b o W r) (hb:Below W.heap.size W W'):EvAt mp b o W' r:=fun u hu=>h u (hb.trans (hu.mono hb.size))
section
variable (mp:Nat) (va vb:Value) (E:List VarT) (V:List VT) (p o:Nat) (w:World)
theorem ev_const (s:ByteArray) (v:VT) (v0 v1 v2 v3 v4 v5 vn vi:Value) (hr:w.rangeAt p o [.int .i64 1,.string s,v0,v1,v2,v3,v4,v5,vn,vi]) (hp:p < w.heap.size) (hvv:ValAt w w.heap.size [v0,v1,v2,v3,v4,v5] v) (hc:constV v= true) (hm:MacAt w mp va vb E V):
  Calls Tryz.prog 39 #[.pointer (some ⟨mp,0,none⟩),.pointer (some ⟨p,o,none⟩)] w (EvPost (.ok (canonV v)) w):=by
 have HM:=hid hm
 have HR0:=hid hr
 have HP:=hid hp
 have hrv:rightW v= true:=by cases v;unfold constV at hc;rw[Bool.and_eq_true] at hc;exact hc.2
 have HRW:Hid (rightW (canonV v)= true):=hid (by rw[canon_rightW];exact hrv)
 have HVV:=hid hvv
 have HFT:=hid (fit_right v hrv)
 clear hm hr hp hvv hc hrv
 go_enter Tryz.func39,Tryz.ntmps39
 go_upto_region 1 with (fail)
 have hz6:(#[Value.int IntKind.i64 0,Value.int IntKind.i64 0,Value.float FloatKind.f64 0,Value.string { data:= #[] },Value.slice none 0 0,Value.slice none 0 0]:Array Value)= zV6.toArray:=rfl
 rw[hz6]
 clear hz6
 have HE0:=hid (eb_start (Below.refl w.heap.size w))
 generalize w.alloc (.cells zV6.toArray 26)= W at*
 have HMW:=hid (HM.out.below HE0.out.bel)
 have HRR:Hid (W.rangeAt p o [.int .i64 1,.string s,v0,v1,v2,v3,v4,v5,vn,vi]):=hid (rangeAt_below HR0.out HE0.out.bel HP.out)
 have d0:W.cell? ⟨p,o,none⟩= some (.int .i64 1):=HRR.out 0 _ rfl
 have HVR:Hid (W.rangeAt p (o+2) [v0,v1,v2,v3,v4,v5]):=hid (erange_sub HRR.out (fun j x h=>match j,h with|0,h=>h|1,h=>h|2,h=>h|3,h=>h|4,h=>h|5,h=>h|j+6,h=>by simp at h))
 have HCN:=hid (canon_any v [v0,v1,v2,v3,v4,v5] W HFT.out ((HVV.out.under HE0.out.bel).more HE0.out.bel.size))
 go_upto_region 3 with (fail)
 clear d0
 go_wp2_with (first|((with_reducible refine wl_sload 26 _ rfl ?hwl p (o+2) [v0,v1,v2,v3,v4,v5] _ rfl HVR.out Tryz.underlying26 rfl ?hil ?_);(case hwl=>(first|exact wanted_none rfl|exact wanted_if rfl rfl rfl rfl));(case hil=>kernel_rfl))|(go_at_call 62;refine HCN.out.mono ?_;rintro e z2 ⟨cs',rfl,hk,hb⟩;have HCL:=hid (val_one hk.val).1;have HON:=hid (val_one hk.val).2;have HKZ:=hid (HE0.out.keptN hk);have HEZ:=hid (HE0.out.next hb);clear hk hb)|((with_reducible refine wl_wstore 26 _ _ rfl rfl ?hw (w.heap.size) zV6 (cs') HEZ.out.wb ?h5 ?h6 ?h7 ?h8 ?h9 ?_);(case hw=>(first|exact wanted_none rfl|exact wanted_if rfl rfl rfl rfl));(case h5=>rw[HCL.out];rfl);(case h6=>rfl);(case h7=>rfl);(case h8=>rw[HCL.out];kernel_rfl);(case h9=>exact HON.out);intro Z2 hz hb;have HX:=hid hz;have HXB:=hid hb;clear hz hb))
 (try simp only[Exit.inBlock,Exit.then])
 refine bodyPost_ret (results_cellV rfl Tryz.underlying26 rfl _ _ (w.heap.size) (cs') (by rw[HCL.out];kernel_rfl) rfl HX.out.range) rfl ?_
 exact .ok rfl rfl (HEZ.out.kept HKZ.out HXB.out) (HRW.out) (HEZ.out.fin HXB.out)
theorem ev_name (s:ByteArray) (v0 v1 v2 v3 v4 v5 vn vi:Value) (hr:w.rangeAt p o [.int .i64 2,.string s,v0,v1,v2,v3,v4,v5,vn,vi]) (hp:p < w.heap.size) (hm:MacAt w mp va vb E V):
  Calls Tryz.prog 39 #[.pointer (some ⟨mp,0,none⟩),.pointer (some ⟨p,o,none⟩)] w (EvPost (nameR E V s) w):=by
 have HM:=hid hm
 have HR0:=hid hr
 have HP:=hid hp
 clear hm hr hp
 go_enter Tryz.func39,Tryz.ntmps39
 go_upto_region 1 with (fail)
 have hz6:(#[Value.int IntKind.i64 0,Value.int IntKind.i64 0,Value.float FloatKind.f64 0,Value.string { data:= #[] },Value.slice none 0 0,Value.slice none 0 0]:Array Value)= zV6.toArray:=rfl
 rw[hz6]
 clear hz6
 have HE0:=hid (eb_start (Below.refl w.heap.size w))
 generalize w.alloc (.cells zV6.toArray 26)= W at*
 have HMW:=hid (HM.out.below HE0.out.bel)
 have HRR:Hid (W.rangeAt p o [.int .i64 2,.string s,v0,v1,v2,v3,v4,v5,vn,vi]):=hid (rangeAt_below HR0.out HE0.out.bel HP.out)
 have d0:W.cell? ⟨p,o,none⟩= some (.int .i64 2):=HRR.out 0 _ rfl
 have d1:W.cell? ⟨p,o+1,none⟩= some (.string s):=HRR.out 1 _ rfl
 have HN:=hid (mname_any mp va vb E V s W HMW.out)
 generalize nameR E V s= res at*
 go_wp2_with (go_at_call 63;fail)
 refine HN.out.mono ?_
 rintro e z (⟨v,cs',rfl,rfl,hk,hrw,hb⟩|⟨n,rfl,rfl,hb⟩)
 ·have HCL:=hid (val_one hk.val).1
  have HON:=hid (val_one hk.val).2
  have HKZ:=hid (HE0.out.keptN hk)
  have HEZ:=hid (HE0.out.next hb)
  have HRW:=hid hrw
  clear hk hb hrw d0 d1
  go_wp2_with (((with_reducible refine wl_wstore 26 _ _ rfl rfl ?hw (w.heap.size) zV6 (cs') HEZ.out.wb ?h5 ?h6 ?h7 ?h8 ?h9 ?_);(case hw=>(first|exact wanted_none rfl|exact wanted_if rfl rfl rfl rfl));(case h5=>rw[HCL.out];rfl);(case h6=>rfl);(case h7=>rfl);(case h8=>rw[HCL.out];kernel_rfl);(case h9=>exact HON.out);intro Z2 hz hb;have HX:=hid hz;have HXB:=hid hb;clear hz hb))
  (try simp only[Exit.inBlock,Exit.then])
  refine bodyPost_ret (results_cellV rfl Tryz.underlying26 rfl _ _ (w.heap.size) (cs') (by rw[HCL.out];kernel_rfl) rfl HX.out.range) rfl ?_
  exact .ok rfl rfl (HEZ.out.kept HKZ.out HXB.out) (HRW.out) (HEZ.out.fin HXB.out)
 ·have HB:=hid hb
  clear hb d0 d1
  go_wp2
  exact⟨rfl,.no rfl rfl (HE0.out.next HB.out).bel⟩
theorem ev_if (s:ByteArray) (v0 v1 v2 v3 v4 v5 vn:Value) (b ob c:Nat) (ra rb rc res:Res) (hres:res= lazyR 15 [ra,rb,rc]) (hr:w.rangeAt p o [.int .i64 15,.string s,v0,v1,v2,v3,v4,v5,vn,.slice (some ⟨b,ob,none⟩) 3 c]) (hp:p < w.heap.size) (ha:EvAt mp b ob w ra) (hb:EvAt mp b (ob+10) w rb) (hc:EvAt mp b (ob+20) w rc) (hm:MacAt w mp va vb E V):
  Calls Tryz.prog 39 #[.pointer (some ⟨mp,0,none⟩),.pointer (some ⟨p,o,none⟩)] w (EvPost res w):=by
 have HM:=hid hm
 have HR0:=hid hr
 have HP:=hid hp
 rw[lz_if] at hres
 have HRES0:=hid hres
 have HA:=hid ha
 have HBB:=hid hb
 have HCC:=hid hc
 clear hm hr hp ha hb hc hres
 go_enter Tryz.func39,Tryz.ntmps39
 go_upto_region 1 with (fail)
 have hz6:(#[Value.int IntKind.i64 0,Value.int IntKind.i64 0,Value.float FloatKind.f64 0,Value.string { data:= #[] },Value.slice none 0 0,Value.slice none 0 0]:Array Value)= zV6.toArray:=rfl
 rw[hz6]
 clear hz6
 have HE0:=hid (eb_start (Below.refl w.heap.size w))
 generalize w.alloc (.cells zV6.toArray 26)= W at*
 have HMW:=hid (HM.out.below HE0.out.bel)
 have HRR:Hid (W.rangeAt p o [.int .i64 15,.string s,v0,v1,v2,v3,v4,v5,vn,.slice (some ⟨b,ob,none⟩) 3 c]):=hid (rangeAt_below HR0.out HE0.out.bel HP.out)
 have d0:W.cell? ⟨p,o,none⟩= some (.int .i64 15):=HRR.out 0 _ rfl
 have d9:W.cell? ⟨p,o+9,none⟩= some (.slice (some ⟨b,ob,none⟩) 3 c):=HRR.out 9 _ rfl
 have HB0:=hid (mbool_any mp b ob ra W (HA.out W HE0.out.bel))
 have HB1:=HBB.out.later HE0.out.bel
 have HC1:=HCC.out.later HE0.out.bel
 have HX1:=hid HB1
 have HX2:=hid HC1
 clear HB1 HC1
 go_wp2_with (go_at_call 64;fail)
 refine HB0.out.mono ?_
 rintro e z ⟨⟨x,hx,rfl⟩|⟨n,hx,rfl⟩,hbz⟩
 ·have HBZ:=hid hbz
  have d9':z.cell? ⟨p,o+9,none⟩= some (.slice (some ⟨b,ob,none⟩) 3 c):=(hbz.cell (p:=⟨p,o+9,none⟩) (Nat.lt_of_lt_of_le HP.out HE0.out.bel.size)).trans d9
  rw[hx] at HRES0
  clear hbz hx d0 d9
  cases x with
  |true=>
   have HRR2:Hid (res= rb):=hid HRES0.out
   go_wp2_with (go_at_call 39;fail)
   refine(HX1.out _ HBZ.out).mono ?_
   rintro e z2 (⟨v,cs',hres,rfl,hk,hrw,hb⟩|⟨n,hres,rfl,hb⟩)
   ·have HE1:=hid (HE0.out.next HBZ.out)
    have HCL:=hid (val_one hk.val).1
    have HON:=hid (val_one hk.val).2
    have HKZ:=hid (HE1.out.keptN hk)
    have HEZ:=hid (HE1.out.next hb)
    have HRW:=hid hrw
    have HRES:=hid (HRR2.out.trans hres)
    clear hk hb hrw hres
    go_wp2_with (((with_reducible refine wl_wstore 26 _ _ rfl rfl ?hw (w.heap.size) zV6 (cs') HEZ.out.wb ?h5 ?h6 ?h7 ?h8 ?h9 ?_);(case hw=>(first|exact wanted_none rfl|exact wanted_if rfl rfl rfl rfl));(case h5=>rw[HCL.out];rfl);(case h6=>rfl);(case h7=>rfl);(case h8=>rw[HCL.out];kernel_rfl);(case h9=>exact HON.out);intro Z2 hz hb;have HX:=hid hz;have HXB:=hid hb;clear hz hb))
    (try simp only[Exit.inBlock,Exit.then])
    refine bodyPost_ret (results_cellV rfl Tryz.underlying26 rfl _ _ (w.heap.size) (cs') (by rw[HCL.out];kernel_rfl) rfl HX.out.range) rfl ?_
    exact .ok HRES.out rfl (HEZ.out.kept HKZ.out HXB.out) (HRW.out) (HEZ.out.fin HXB.out)
   ·have HB:=hid hb
    have HRES:=hid (HRR2.out.trans hres)
    clear hb hres
    go_wp2
    exact⟨rfl,.no HRES.out rfl ((HE0.out.next HBZ.out).next HB.out).bel⟩
  |false=>
   have HRR2:Hid (res= rc):=hid HRES0.out
   go_wp2_with (go_at_call 39;fail)
   refine(HX2.out _ HBZ.out).mono ?_
   rintro e z2 (⟨v,cs',hres,rfl,hk,hrw,hb⟩|⟨n,hres,rfl,hb⟩)
   ·have HE1:=hid (HE0.out.next HBZ.out)
    have HCL:=hid (val_one hk.val).1
    have HON:=hid (val_one hk.val).2
    have HKZ:=hid (HE1.out.keptN hk)
    have HEZ:=hid (HE1.out.next hb)
    have HRW:=hid hrw
    have HRES:=hid (HRR2.out.trans hres)
    clear hk hb hrw hres
    go_wp2_with (((with_reducible refine wl_wstore 26 _ _ rfl rfl ?hw (w.heap.size) zV6 (cs') HEZ.out.wb ?h5 ?h6 ?h7 ?h8 ?h9 ?_);(case hw=>(first|exact wanted_none rfl|exact wanted_if rfl rfl rfl rfl));(case h5=>rw[HCL.out];rfl);(case h6=>rfl);(case h7=>rfl);(case h8=>rw[HCL.out];kernel_rfl);(case h9=>exact HON.out);intro Z2 hz hb;have HX:=hid hz;have HXB:=hid hb;clear hz hb))
    (try simp only[Exit.inBlock,Exit.then])
    refine bodyPost_ret (results_cellV rfl Tryz.underlying26 rfl _ _ (w.heap.size) (cs') (by rw[HCL.out];kernel_rfl) rfl HX.out.range) rfl ?_
    exact .ok HRES.out rfl (HEZ.out.kept HKZ.out HXB.out) (HRW.out) (HEZ.out.fin HXB.out)
   ·have HB:=hid hb
    have HRES:=hid (HRR2.out.trans hres)
    clear hb hres
    go_wp2
    exact⟨rfl,.no HRES.out rfl ((HE0.out.next HBZ.out).next HB.out).bel⟩
 ·have HB:=hid hbz
  have HRES:Hid (res= .error n):=hid (by rw[HRES0.out,hx])
  clear hbz hx d0 d9
  go_wp2
  exact⟨rfl,.no HRES.out rfl (HE0.out.next HB.out).bel⟩
theorem ev_and (s:ByteArray) (v0 v1 v2 v3 v4 v5 vn:Value) (b ob c:Nat) (ra rb res:Res) (hres:res= lazyR 13 [ra,rb]) (hr:w.rangeAt p o [.int .i64 13,.string s,v0,v1,v2,v3,v4,v5,vn,.slice (some ⟨b,ob,none⟩) 2 c]) (hp:p < w.heap.size) (ha:EvAt mp b ob w ra) (hb:EvAt mp b (ob+10) w rb) (hm:MacAt w mp va vb E V):
  Calls Tryz.prog 39 #[.pointer (some ⟨mp,0,none⟩),.pointer (some ⟨p,o,none⟩)] w (EvPost res w):=by
 have HM:=hid hm
 have HR0:=hid hr
 have HP:=hid hp
 rw[lz_and] at hres
 have HRES0:=hid hres
 have HA:=hid ha
 have HBB:=hid hb
 clear hm hr hp ha hb hres
 go_enter Tryz.func39,Tryz.ntmps39
 go_upto_region 1 with (fail)
 have hz6:(#[Value.int IntKind.i64 0,Value.int IntKind.i64 0,Value.float FloatKind.f64 0,Value.string { data:= #[] },Value.slice none 0 0,Value.slice none 0 0]:Array Value)= zV6.toArray:=rfl
 rw[hz6]
 clear hz6
 have HE0:=hid (eb_start (Below.refl w.heap.size w))
 generalize w.alloc (.cells zV6.toArray 26)= W at*
 have HMW:=hid (HM.out.below HE0.out.bel)
 have HRR:Hid (W.rangeAt p o [.int .i64 13,.string s,v0,v1,v2,v3,v4,v5,vn,.slice (some ⟨b,ob,none⟩) 2 c]):=hid (rangeAt_below HR0.out HE0.out.bel HP.out)
 have d0:W.cell? ⟨p,o,none⟩= some (.int .i64 13):=HRR.out 0 _ rfl
 have d9:W.cell? ⟨p,o+9,none⟩= some (.slice (some ⟨b,ob,none⟩) 2 c):=HRR.out 9 _ rfl
 have HB0:=hid (mbool_any mp b ob ra W (HA.out W HE0.out.bel))
 have HB1:=HBB.out.later HE0.out.bel
 have HX1:=hid HB1
 clear HB1
 go_wp2_with (go_at_call 64;fail)
 refine HB0.out.mono ?_
 rintro e z ⟨⟨x,hx,rfl⟩|⟨n,hx,rfl⟩,hbz⟩
 ·have HBZ:=hid hbz
  have d9':z.cell? ⟨p,o+9,none⟩= some (.slice (some ⟨b,ob,none⟩) 2 c):=(hbz.cell (p:=⟨p,o+9,none⟩) (Nat.lt_of_lt_of_le HP.out HE0.out.bel.size)).trans d9
  rw[hx] at HRES0
  have HE1:=hid (HE0.out.next HBZ.out)
  clear hbz hx d0 d9
  cases x with
  |true=>
   have HRR2:Hid (res=(boolR rb).map vB):=hid HRES0.out
   have HB2:=hid (mbool_any mp b (ob+10) rb z (HX1.out z HBZ.out))
   go_wp2_with (go_at_call 64;fail)
   refine HB2.out.mono ?_
   rintro e z2 ⟨⟨y,hy,rfl⟩|⟨n,hy,rfl⟩,hbz⟩
   ·rw[hy] at HRR2
    have HRES:Hid (res= .ok (vB y)):=hid HRR2.out
    have HE2:=hid (HE1.out.next hbz)
    clear hbz hy
    go_wp2_with (first|(go_at_call 65;refine(truth_tC y _).mono ?_;rintro e z3 ⟨rfl,hb⟩;have HEZ:=hid (HE2.out.next hb);clear hb)|((with_reducible refine wl_wstore 26 _ _ rfl rfl ?hw (w.heap.size) zV6 (tC y) HEZ.out.wb ?h5 ?h6 ?h7 ?h8 ?h9 ?_);(case hw=>(first|exact wanted_none rfl|exact wanted_if rfl rfl rfl rfl));(case h5=>rfl);(case h6=>rfl);(case h7=>rfl);(case h8=>kernel_rfl);(case h9=>exact tC_one y);intro Z2 hz hb;have HX:=hid hz;have HXB:=hid hb;clear hz hb))
    (try simp only[Exit.inBlock,Exit.then])
    refine bodyPost_ret (results_cellV rfl Tryz.underlying26 rfl _ _ (w.heap.size) (tC y) (by kernel_rfl) rfl HX.out.range) rfl ?_
    exact .ok HRES.out rfl (kept_vB _ _ y) (vB_right y) (HEZ.out.fin HXB.out)
   ·rw[hy] at HRR2
    have HRES:Hid (res= .error n):=hid HRR2.out
    have HE2:=hid (HE1.out.next hbz)
    clear hbz hy
    go_wp2
    exact⟨rfl,.no HRES.out rfl HE2.out.bel⟩
  |false=>
   have HRES:Hid (res= .ok (vB false)):=hid HRES0.out
   go_wp2_with (first|(go_at_call 65;refine(truth_tC false _).mono ?_;rintro e z3 ⟨rfl,hb⟩;have HEZ:=hid (HE1.out.next hb);clear hb)|((with_reducible refine wl_wstore 26 _ _ rfl rfl ?hw (w.heap.size) zV6 (tC false) HEZ.out.wb ?h5 ?h6 ?h7 ?h8 ?h9 ?_);(case hw=>(first|exact wanted_none rfl|exact wanted_if rfl rfl rfl rfl));(case h5=>rfl);(case h6=>rfl);(case h7=>rfl);(case h8=>kernel_rfl);(case h9=>exact tC_one false);intro Z2 hz hb;have HX:=hid hz;have HXB:=hid hb;clear hz hb))
   (try simp only[Exit.inBlock,Exit.then])
   refine bodyPost_ret (results_cellV rfl Tryz.underlying26 rfl _ _ (w.heap.size) (tC false) (by kernel_rfl) rfl HX.out.range) rfl ?_
   exact .ok HRES.out rfl (kept_vB _ _ false) (vB_right false) (HEZ.out.fin HXB.out)
 ·have HB:=hid hbz
  have HRES:Hid (res= .error n):=hid (by rw[HRES0.out,hx])
  clear hbz hx d0 d9
  go_wp2
  exact⟨rfl,.no HRES.out rfl (HE0.out.next HB.out).bel⟩
theorem ev_or (s:ByteArray) (v0 v1 v2 v3 v4 v5 vn:Value) (b ob c:Nat) (ra rb res:Res) (hres:res= lazyR 14 [ra,rb]) (hr:w.rangeAt p o [.int .i64 14,.string s,v0,v1,v2,v3,v4,v5,vn,.slice (some ⟨b,ob,none⟩) 2 c]) (hp:p < w.heap.size) (ha:EvAt mp b ob w ra) (hb:EvAt mp b (ob+10) w rb) (hm:MacAt w mp va vb E V):
  Calls Tryz.prog 39 #[.pointer (some ⟨mp,0,none⟩),.pointer (some ⟨p,o,none⟩)] w (EvPost res w):=by
 have HM:=hid hm
 have HR0:=hid hr
 have HP:=hid hp
 rw[lz_or] at hres
 have HRES0:=hid hres
 have HA:=hid ha
 have HBB:=hid hb
 clear hm hr hp ha hb hres
 go_enter Tryz.func39,Tryz.ntmps39
 go_upto_region 1 with (fail)
 have hz6:(#[Value.int IntKind.i64 0,Value.int IntKind.i64 0,Value.float FloatKind.f64 0,Value.string { data:= #[] },Value.slice none 0 0,Value.slice none 0 0]:Array Value)= zV6.toArray:=rfl
 rw[hz6]
 clear hz6
 have HE0:=hid (eb_start (Below.refl w.heap.size w))
 generalize w.alloc (.cells zV6.toArray 26)= W at*
 have HMW:=hid (HM.out.below HE0.out.bel)
 have HRR:Hid (W.rangeAt p o [.int .i64 14,.string s,v0,v1,v2,v3,v4,v5,vn,.slice (some ⟨b,ob,none⟩) 2 c]):=hid (rangeAt_below HR0.out HE0.out.bel HP.out)
 have d0:W.cell? ⟨p,o,none⟩= some (.int .i64 14):=HRR.out 0 _ rfl
 have d9:W.cell? ⟨p,o+9,none⟩= some (.slice (some ⟨b,ob,none⟩) 2 c):=HRR.out 9 _ rfl
 have HB0:=hid (mbool_any mp b ob ra W (HA.out W HE0.out.bel))
 have HB1:=HBB.out.later HE0.out.bel
 have HX1:=hid HB1
 clear HB1
 go_wp2_with (go_at_call 64;fail)
 refine HB0.out.mono ?_
 rintro e z ⟨⟨x,hx,rfl⟩|⟨n,hx,rfl⟩,hbz⟩
 ·have HBZ:=hid hbz
  have d9':z.cell? ⟨p,o+9,none⟩= some (.slice (some ⟨b,ob,none⟩) 2 c):=(hbz.cell (p:=⟨p,o+9,none⟩) (Nat.lt_of_lt_of_le HP.out HE0.out.bel.size)).trans d9
  rw[hx] at HRES0
  have HE1:=hid (HE0.out.next HBZ.out)
  clear hbz hx d0 d9
  cases x with
  |false=>
   have HRR2:Hid (res=(boolR rb).map vB):=hid HRES0.out
   have HB2:=hid (mbool_any mp b (ob+10) rb z (HX1.out z HBZ.out))
   go_wp2_with (go_at_call 64;fail)
   refine HB2.out.mono ?_
   rintro e z2 ⟨⟨y,hy,rfl⟩|⟨n,hy,rfl⟩,hbz⟩
   ·rw[hy] at HRR2
    have HRES:Hid (res= .ok (vB y)):=hid HRR2.out
    have HE2:=hid (HE1.out.next hbz)
    clear hbz hy
    go_wp2_with (first|(go_at_call 65;refine(truth_tC y _).mono ?_;rintro e z3 ⟨rfl,hb⟩;have HEZ:=hid (HE2.out.next hb);clear hb)|((with_reducible refine wl_wstore 26 _ _ rfl rfl ?hw (w.heap.size) zV6 (tC y) HEZ.out.wb ?h5 ?h6 ?h7 ?h8 ?h9 ?_);(case hw=>(first|exact wanted_none rfl|exact wanted_if rfl rfl rfl rfl));(case h5=>rfl);(case h6=>rfl);(case h7=>rfl);(case h8=>kernel_rfl);(case h9=>exact tC_one y);intro Z2 hz hb;have HX:=hid hz;have HXB:=hid hb;clear hz hb))
    (try simp only[Exit.inBlock,Exit.then])
    refine bodyPost_ret (results_cellV rfl Tryz.underlying26 rfl _ _ (w.heap.size) (tC y) (by kernel_rfl) rfl HX.out.range) rfl ?_
    exact .ok HRES.out rfl (kept_vB _ _ y) (vB_right y) (HEZ.out.fin HXB.out)
   ·rw[hy] at HRR2
    have HRES:Hid (res= .error n):=hid HRR2.out
    have HE2:=hid (HE1.out.next hbz)
    clear hbz hy
    go_wp2
    exact⟨rfl,.no HRES.out rfl HE2.out.bel⟩
  |true=>
   have HRES:Hid (res= .ok (vB true)):=hid HRES0.out
   go_wp2_with (first|(go_at_call 65;refine(truth_tC true _).mono ?_;rintro e z3 ⟨rfl,hb⟩;have HEZ:=hid (HE1.out.next hb);clear hb)|((with_reducible refine wl_wstore 26 _ _ rfl rfl ?hw (w.heap.size) zV6 (tC true) HEZ.out.wb ?h5 ?h6 ?h7 ?h8 ?h9 ?_);(case hw=>(first|exact wanted_none rfl|exact wanted_if rfl rfl rfl rfl));(case h5=>rfl);(case h6=>rfl);(case h7=>rfl);(case h8=>kernel_rfl);(case h9=>exact tC_one true);intro Z2 hz hb;have HX:=hid hz;have HXB:=hid hb;clear hz hb))
   (try simp only[Exit.inBlock,Exit.then])
   refine bodyPost_ret (results_cellV rfl Tryz.underlying26 rfl _ _ (w.heap.size) (tC true) (by kernel_rfl) rfl HX.out.range) rfl ?_
   exact .ok HRES.out rfl (kept_vB _ _ true) (vB_right true) (HEZ.out.fin HXB.out)
 ·have HB:=hid hbz
  have HRES:Hid (res= .error n):=hid (by rw[HRES0.out,hx])
  clear hbz hx d0 d9
  go_wp2
  exact⟨rfl,.no HRES.out rfl (HE0.out.next HB.out).bel⟩
end
end Go.Proofs.YtmpbepjjbaeebaaGreatDoor
