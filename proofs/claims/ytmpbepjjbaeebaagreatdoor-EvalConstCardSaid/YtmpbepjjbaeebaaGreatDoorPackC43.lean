/- Parts of a proof: E10V, E10W, E10Z. -/
import Derived.Test.YtmpbepjjbaeebaaGreatDoorPackC17
import Derived.Test.YtmpbepjjbaeebaaGreatDoorPackC30
import Derived.Test.YtmpbepjjbaeebaaGreatDoorPackC37
import Derived.Test.YtmpbepjjbaeebaaGreatDoorPackC40
import Derived.Test.YtmpbepjjbaeebaaGreatDoorPackC42
set_option maxHeartbeats 8000000
set_option maxRecDepth 100000
set_option linter.unusedVariables false
set_option linter.unusedSimpArgs false
namespace Go.Proofs.YtmpbepjjbaeebaaGreatDoor
section
open Go Go.RowKit
structure EB (w W:World) (q:Nat):Prop where
 wb:Whole 26 W q zV6
 bel:Below w.heap.size w W
 ge:w.heap.size<=q
 lt:q < W.heap.size
theorem z1b {w W:World} (h:Below w.heap.size w W):EB w (W.alloc (.cells zV6.toArray 26)) W.heap.size:=⟨Whole.new W zV6 26,h.trans ((ze W _).mono h.size),h.size,by simp⟩
theorem EB.next {w W W':World} {q:Nat} (h:EB w W q) (hb:Below W.heap.size W W'):EB w W' q:=⟨h.wb.keep (hb.block _ h.lt),h.bel.trans (hb.mono h.bel.size),h.ge,Nat.lt_of_lt_of_le h.lt hb.size⟩
theorem EB.drew {w W:World} {q:Nat} (h:EB w W q):EB w W.drew q:=h.next (Below.refl _ _).drew
theorem EB.fin {w W Z:World} {q:Nat} (h:EB w W q) (hx:But W Z q q):Below w.heap.size w Z:=h.bel.trans (hx.below (B:=w.heap.size) h.bel.size h.ge h.ge)
theorem EB.kept {w W Z:World} {q:Nat} {cs:List Value} {v:VT} (he:EB w W q) (h:Kept (fun b=>q < b) W cs v) (hx:But W Z q q):Kept (fun b=>w.heap.size<=b) Z cs v:=
 h.to (fun b hp hlt=>⟨Nat.le_trans he.ge (Nat.le_of_lt hp),hx.block b hlt (Nat.ne_of_gt hp) (Nat.ne_of_gt hp)⟩) hx.size
theorem EB.keptN {w W:World} {q:Nat} (he:EB w W q) {z:World} {cs:List Value} {v:VT} (h:Kept (fun b=>W.heap.size<=b) z cs v):Kept (fun b=>q < b) z cs v:=h.to (fun b hp hlt=>⟨Nat.lt_of_lt_of_le he.lt hp,rfl⟩) (Nat.le_refl _)
theorem EvPost.ok {r:Res} {w:World} {e:Ending} {w':World} {v:VT} {cs:List Value} (hr:r= .ok v) (he:e= .returned (.agg ⟨cs⟩)) (hk:Kept (fun b=>w.heap.size<=b) w' cs v) (hw:zj v= true) (hb:Below w.heap.size w w'):EvPost r w e w':= .inl ⟨v,cs,hr,he,hk,hw,hb⟩
theorem EvPost.no {r:Res} {w:World} {e:Ending} {w':World} {n:Int} (hr:r= .error n) (he:e= panE n) (hb:Below w.heap.size w w'):EvPost r w e w':= .inr ⟨n,hr,he,hb⟩
theorem zbC (mp:Nat) (va vb:Value) (E:List VarT) (V:List VT) (s:ByteArray) (w:World) (hm:MacAt w mp va vb E V):Calls Tryz.prog 63 #[.pointer (some ⟨mp,0,none⟩),.string s] w (EvPost (nameR E V s) w):=by
 have HM:=I hm
 have hvl:=hm.vals.1
 obtain⟨VB,vc,rfl,hvA⟩:=hm.vals.2
 have HVA:=I hvA
 have HFC:=zaF E s
 clear hm hvA
 go_enter Tryz.func63,Tryz.ntmps63
 go_upto_region 1 with (fail)
 rw[zv]
 have HE0:=I (z1b (ze w (.cells #[.string s] 9)))
 have c0:=zA w #[.string s] 9 0
 simp only[List.getElem?_toArray,List.getElem?_cons_zero] at c0
 have HC0:=I ((ze (w.alloc (.cells #[.string s] 9)) (.cells zV6.toArray 26)).cell (p:=⟨w.heap.size,0,none⟩) (by simp)|>.trans c0)
 have hs1:(w.alloc (.cells #[.string s] 9)).heap.size= w.heap.size+1:=by simp
 rw[hs1] at HE0
 clear c0 hs1
 generalize (w.alloc (.cells #[.string s] 9)).alloc (.cells zV6.toArray 26)= W at*
 have HMW:=I (HM.out.below HE0.out.bel)
 have HLS:Hid (w.heap.size < W.heap.size):=I (by have:=HE0.out.lt;omega)
 have HIX:=I (z9m E s va w.heap.size W HMW.out.vars HMW.out.few HC0.out HLS.out)
 have m0:W.cell? ⟨mp,0,none⟩= some va:=HMW.out.cells 0 _ rfl
 obtain⟨ix,hix⟩:∃ ix,findV E s= ix:=⟨_,rfl⟩
 have HRN:Hid (nameR E V s= if ix= -1 then .error 11 else match V[ix.toNat]? with|some v=> .ok (z0a v)|none=> .error 11):=I (by unfold nameR;rw[hix];rfl)
 rw[hix] at HIX HFC
 generalize nameR E V s= res at*
 clear hix
 have hmf:∀ (fn:Fn) (first cap:Array Value) (w:World),(Instr.makeFunc fn first cap).run Tryz.prog w= .ok (.func fn first cap) w:=fun _ _ _ _=>rfl
 go_upto_region 2 with (go_at_call 110;refine HIX.out.mono ?_;rintro e z ⟨rfl,hb⟩;have HBZ:=I hb;clear hb)
 have HMZ:=I (HMW.out.below HBZ.out)
 have HEZ:=I (HE0.out.next HBZ.out)
 clear m0 hmf HIX HMW HE0 HC0 HLS HBZ
 have m1:z.cell? ⟨mp,1,none⟩= some (.slice VB V.length vc):=HMZ.out.cells 1 _ rfl
 rcases HFC with rfl|⟨h0,h1⟩
 ·have HRES:Hid (res= .error 11):=I (by rw[HRN.out,if_pos rfl])
  clear m1
  go_wp2_with ((go_at_call 36;refine(zB 11 _).mono ?_;rintro e z ⟨rfl,hzw⟩;rw[hzw];clear hzw z))
  exact⟨rfl,.no HRES.out rfl HEZ.out.bel⟩
 ·obtain⟨j,rfl⟩:∃ j:Nat,ix=(j:Int):=⟨ix.toNat,by omega⟩
  have hj0:(0:Int)<=(j:Int):=by omega
  have hne: ¬ ((j:Int)= -1):=by omega
  have htn:(j:Int).toNat= j:=by omega
  rw[if_neg hne,htn] at HRN
  by_cases hj:j < V.length
  ·have hj1:(j:Int) <(V.length:Int):=by omega
   obtain⟨v,hv⟩:∃ v,V[j]?= some v:=⟨_,List.getElem?_eq_getElem hj⟩
   have HRES:Hid (res= .ok (z0a v)):=I (by rw[HRN.out,hv])
   have hrv:=HM.out.right v (List.mem_of_getElem? hv)
   have HRW:Hid (zj (z0a v)= true):=I (by rw[z3L];exact hrv)
   obtain⟨b,ob,rfl,hbb,hc⟩:=HVA.out (by omega)
   obtain⟨ks,hkl,hkr,hkv⟩:=hc j v hv
   have HCLL:=I hkl
   have HBE:=I HEZ.out.bel
   have HKR:Hid (z.rangeAt b (ob+j*6) ks):=I (zd hkr HBE.out hbb)
   have HCN:=I (z6A v ks z (z6z v hrv) ((hkv.under HBE.out).more HBE.out.size))
   clear hc hkl hkr hkv hrv hv h0 h1 hne htn
   go_upto_region 3 with ((go_at_call 36;refine(zp 11 _).mono ?_;rintro e z ⟨rfl,hzw⟩;rw[hzw];clear hzw z))
   go_wp2_with (first|((with_reducible refine zc 26 _ rfl ?hwl b (ob+j*6) ks _ rfl HKR.out Tryz.underlying26 rfl ?hil ?_);(case hwl=>(exact wantA rfl));(case hil=>rw[HCLL.out];kernel_rfl))|(go_at_call 62;refine HCN.out.mono ?_;rintro e z2 ⟨cs',rfl,hk,hb⟩;have HCL:=I (zi hk.val).1;have HON:=I (zi hk.val).2;have HKZ:=I (HEZ.out.keptN hk);have HE2:=I (HEZ.out.next hb);clear hk hb)|((with_reducible refine zh 26 _ _ rfl rfl ?hw (w.heap.size+1) zV6 (cs') HE2.out.wb ?h5 ?h6 ?h7 ?h8 ?h9 ?_);(case hw=>(exact wantA rfl));(case h5=>rw[HCL.out];rfl);(case h6=>rfl);(case h7=>rfl);(case h8=>rw[HCL.out];kernel_rfl);(case h9=>exact HON.out);intro Z2 hz hb;have HX:=I hz;have HXB:=I hb;clear hz hb))
   (try simp only[Exit.inBlock,Exit.then])
   refine bodyPost_ret (zl rfl Tryz.underlying26 rfl _ _ (w.heap.size+1) (cs') (by rw[HCL.out];kernel_rfl) rfl HX.out.range) rfl ?_
   exact .ok HRES.out rfl (HE2.out.kept HKZ.out HXB.out) (HRW.out) (HE2.out.fin HXB.out)
  ·have hj1: ¬ ((j:Int) <(V.length:Int)):=by omega
   have HRES:Hid (res= .error 11):=I (by rw[HRN.out,List.getElem?_eq_none (by omega)])
   clear h0 h1 hne htn
   go_wp2_with ((go_at_call 36;refine(zB 11 _).mono ?_;rintro e z ⟨rfl,hzw⟩;rw[hzw];clear hzw z))
   exact⟨rfl,.no HRES.out rfl HEZ.out.bel⟩
theorem z1F (mp p o:Nat) (r:Res) (w:World) (h:Calls Tryz.prog 39 #[.pointer (some ⟨mp,0,none⟩),.pointer (some ⟨p,o,none⟩)] w (EvPost r w)):Calls Tryz.prog 64 #[.pointer (some ⟨mp,0,none⟩),.pointer (some ⟨p,o,none⟩)] w (z7S (boolR r) w):=by
 have HE:=I h
 clear h
 go_enter Tryz.func64,Tryz.ntmps64
 go_wp2_with (go_at_call 39;fail)
 refine HE.out.mono ?_
 rintro e z (⟨v,cs,rfl,rfl,hk,hr,hb⟩|⟨n,rfl,rfl,hb⟩)
 ·have HCL:=I (zi hk.val).1
  have HON:=I (zi hk.val).2
  have HB:=I hb
  cases v with
  |mk kv n f sv ns its=>
  obtain⟨vn,vi,rfl, -, -, -, -, -, -, -⟩:=ValAt.inv hk
  have HRB:Hid (boolR (.ok (.mk kv n f sv ns its))= if kv= 1 then .ok (n ==1) else .error 6):=I (by rw[boolR])
  clear hk hr hb HE
  generalize boolR (.ok (.mk kv n f sv ns its))= res at*
  go_upto_region 2 with (first|((with_reducible refine z09 26 _ _ rfl ?hwx z ?zz [.int .i64 kv,.int .i64 n,.float .f64 f,.string sv,vn,vi] ?hwld ?hz ?hx ?hy ?hi ?h1 ?_);(case hwld=>rfl);(case hx=>rfl);(case hy=>rfl);(case hwx=>(exact wantA rfl));(case hz=>rfl);(case hi=>kernel_rfl);(case h1=>exact HON.out);intro Z hZ;have HX:=I hZ;clear hZ))
  have d0:Z.cell? ⟨z.heap.size,0,none⟩= some (.int .i64 kv):=by have:=HX.out.range 0 _ rfl;rwa [Nat.zero_add] at this
  have d1:Z.cell? ⟨z.heap.size,1,none⟩= some (.int .i64 n):=by have:=HX.out.range 1 _ rfl;rwa [Nat.zero_add] at this
  have HBZ:=I (HB.out.trans (HX.out.below.mono HB.out.size))
  by_cases h1:kv= 1
  ·subst h1
   have HRES:Hid (res= .ok (n ==1)):=I (by rw[HRB.out,if_pos rfl])
   go_wp2_with ((go_at_call 36;refine(zp 6 _).mono ?_;rintro e z ⟨rfl,hzw⟩;rw[hzw];clear hzw z))
   go_ret
   exact⟨.inl ⟨_,HRES.out,rfl⟩,HBZ.out⟩
  ·have h1b:(kv ==1)= false:=by simpa using h1
   have HRES:Hid (res= .error 6):=I (by rw[HRB.out,if_neg h1])
   clear h1
   go_wp2_with ((go_at_call 36;refine(zB 6 _).mono ?_;rintro e z ⟨rfl,hzw⟩;rw[hzw];clear hzw z))
   exact⟨rfl,.inr ⟨_,HRES.out,rfl⟩,HBZ.out⟩
 ·have HB:=I hb
  clear hb HE
  go_wp2
  exact⟨rfl,.inr ⟨_,rfl,rfl⟩,HB.out⟩
theorem lz_if {a b c:Res}:lazyR 15 [a,b,c]= match boolR a with| .error e=> .error e| .ok x=>if x= true then b else c:=by
 unfold lazyR
 rw[show ∀ l:List Res,(a::l).getD 0 (.error 0)= a from fun _=>rfl]
 cases boolR a with
 |error e=>rfl
 |ok x=>cases x<;>rfl
theorem zeE {a b:Res}:lazyR 13 [a,b]= match boolR a with| .error e=> .error e| .ok x=>if x= true then(boolR b).map vB else .ok (vB false):=by
 unfold lazyR
 rw[show ∀ l:List Res,(a::l).getD 0 (.error 0)= a from fun _=>rfl]
 cases boolR a with
 |error e=>rfl
 |ok x=>cases x<;>rfl
theorem lz_or {a b:Res}:lazyR 14 [a,b]= match boolR a with| .error e=> .error e| .ok x=>if x= true then .ok (vB true) else(boolR b).map vB:=by
 unfold lazyR
 rw[show ∀ l:List Res,(a::l).getD 0 (.error 0)= a from fun _=>rfl]
 cases boolR a with
 |error e=>rfl
 |ok x=>cases x<;>rfl
def EvAt (mp b o:Nat) (W:World) (r:Res):Prop:=∀ u,Below W.heap.size W u->Calls Tryz.prog 39 #[.pointer (some ⟨mp,0,none⟩),.pointer (some ⟨b,o,none⟩)] u (EvPost r u)
theorem EvAt.later {mp b o:Nat} {W W':World} {r:Res} (h:EvAt mp b o W r) (hb:Below W.heap.size W W'):EvAt mp b o W' r:=fun u hu=>h u (hb.trans (hu.mono hb.size))
section
variable (mp:Nat) (va vb:Value) (E:List VarT) (V:List VT) (p o:Nat) (w:World)
theorem zcm (s:ByteArray) (v:VT) (v0 v1 v2 v3 v4 v5 vn vi:Value) (hr:w.rangeAt p o [.int .i64 1,.string s,v0,v1,v2,v3,v4,v5,vn,vi]) (hp:p < w.heap.size) (hvv:ValAt w w.heap.size [v0,v1,v2,v3,v4,v5] v) (hc:zN v= true) (hm:MacAt w mp va vb E V):
  Calls Tryz.prog 39 #[.pointer (some ⟨mp,0,none⟩),.pointer (some ⟨p,o,none⟩)] w (EvPost (.ok (z0a v)) w):=by
 have HM:=I hm
 have HR0:=I hr
 have HP:=I hp
 have hrv:zj v= true:=by cases v;unfold zN at hc;rw[Bool.and_eq_true] at hc;exact hc.2
 have HRW:Hid (zj (z0a v)= true):=I (by rw[z3L];exact hrv)
 have HVV:=I hvv
 have HFT:=I (z6z v hrv)
 clear hm hr hp hvv hc hrv
 go_enter Tryz.func39,Tryz.ntmps39
 go_upto_region 1 with (fail)
 rw[zv]
 have HE0:=I (z1b (Below.refl w.heap.size w))
 generalize w.alloc (.cells zV6.toArray 26)= W at*
 have HMW:=I (HM.out.below HE0.out.bel)
 have HRR:Hid (W.rangeAt p o [.int .i64 1,.string s,v0,v1,v2,v3,v4,v5,vn,vi]):=I (zd HR0.out HE0.out.bel HP.out)
 have d0:W.cell? ⟨p,o,none⟩= some (.int .i64 1):=HRR.out 0 _ rfl
 have HVR:Hid (W.rangeAt p (o+2) [v0,v1,v2,v3,v4,v5]):=I (z3a HRR.out (fun j x h=>match j,h with|0,h=>h|1,h=>h|2,h=>h|3,h=>h|4,h=>h|5,h=>h|j+6,h=>by simp at h))
 have HCN:=I (z6A v [v0,v1,v2,v3,v4,v5] W HFT.out ((HVV.out.under HE0.out.bel).more HE0.out.bel.size))
 go_upto_region 3 with (fail)
 clear d0
 go_wp2_with (first|((with_reducible refine zc 26 _ rfl ?hwl p (o+2) [v0,v1,v2,v3,v4,v5] _ rfl HVR.out Tryz.underlying26 rfl ?hil ?_);(case hwl=>(exact wantA rfl));(case hil=>kernel_rfl))|(go_at_call 62;refine HCN.out.mono ?_;rintro e z2 ⟨cs',rfl,hk,hb⟩;have HCL:=I (zi hk.val).1;have HON:=I (zi hk.val).2;have HKZ:=I (HE0.out.keptN hk);have HEZ:=I (HE0.out.next hb);clear hk hb)|((with_reducible refine zh 26 _ _ rfl rfl ?hw (w.heap.size) zV6 (cs') HEZ.out.wb ?h5 ?h6 ?h7 ?h8 ?h9 ?_);(case hw=>(exact wantA rfl));(case h5=>rw[HCL.out];rfl);(case h6=>rfl);(case h7=>rfl);(case h8=>rw[HCL.out];kernel_rfl);(case h9=>exact HON.out);intro Z2 hz hb;have HX:=I hz;have HXB:=I hb;clear hz hb))
 (try simp only[Exit.inBlock,Exit.then])
 refine bodyPost_ret (zl rfl Tryz.underlying26 rfl _ _ (w.heap.size) (cs') (by rw[HCL.out];kernel_rfl) rfl HX.out.range) rfl ?_
 exact .ok rfl rfl (HEZ.out.kept HKZ.out HXB.out) (HRW.out) (HEZ.out.fin HXB.out)
theorem zdF (s:ByteArray) (v0 v1 v2 v3 v4 v5 vn vi:Value) (hr:w.rangeAt p o [.int .i64 2,.string s,v0,v1,v2,v3,v4,v5,vn,vi]) (hp:p < w.heap.size) (hm:MacAt w mp va vb E V):
  Calls Tryz.prog 39 #[.pointer (some ⟨mp,0,none⟩),.pointer (some ⟨p,o,none⟩)] w (EvPost (nameR E V s) w):=by
 have HM:=I hm
 have HR0:=I hr
 have HP:=I hp
 clear hm hr hp
 go_enter Tryz.func39,Tryz.ntmps39
 go_upto_region 1 with (fail)
 rw[zv]
 have HE0:=I (z1b (Below.refl w.heap.size w))
 generalize w.alloc (.cells zV6.toArray 26)= W at*
 have HMW:=I (HM.out.below HE0.out.bel)
 have HRR:Hid (W.rangeAt p o [.int .i64 2,.string s,v0,v1,v2,v3,v4,v5,vn,vi]):=I (zd HR0.out HE0.out.bel HP.out)
 have d0:W.cell? ⟨p,o,none⟩= some (.int .i64 2):=HRR.out 0 _ rfl
 have d1:W.cell? ⟨p,o+1,none⟩= some (.string s):=HRR.out 1 _ rfl
 have HN:=I (zbC mp va vb E V s W HMW.out)
 generalize nameR E V s= res at*
 go_wp2_with (go_at_call 63;fail)
 refine HN.out.mono ?_
 rintro e z (⟨v,cs',rfl,rfl,hk,hrw,hb⟩|⟨n,rfl,rfl,hb⟩)
 ·have HCL:=I (zi hk.val).1
  have HON:=I (zi hk.val).2
  have HKZ:=I (HE0.out.keptN hk)
  have HEZ:=I (HE0.out.next hb)
  have HRW:=I hrw
  clear hk hb hrw d0 d1
  go_wp2_with (((with_reducible refine zh 26 _ _ rfl rfl ?hw (w.heap.size) zV6 (cs') HEZ.out.wb ?h5 ?h6 ?h7 ?h8 ?h9 ?_);(case hw=>(exact wantA rfl));(case h5=>rw[HCL.out];rfl);(case h6=>rfl);(case h7=>rfl);(case h8=>rw[HCL.out];kernel_rfl);(case h9=>exact HON.out);intro Z2 hz hb;have HX:=I hz;have HXB:=I hb;clear hz hb))
  (try simp only[Exit.inBlock,Exit.then])
  refine bodyPost_ret (zl rfl Tryz.underlying26 rfl _ _ (w.heap.size) (cs') (by rw[HCL.out];kernel_rfl) rfl HX.out.range) rfl ?_
  exact .ok rfl rfl (HEZ.out.kept HKZ.out HXB.out) (HRW.out) (HEZ.out.fin HXB.out)
 ·have HB:=I hb
  clear hb d0 d1
  go_wp2
  exact⟨rfl,.no rfl rfl (HE0.out.next HB.out).bel⟩
theorem ev_if (s:ByteArray) (v0 v1 v2 v3 v4 v5 vn:Value) (b ob c:Nat) (ra rb rc res:Res) (hres:res= lazyR 15 [ra,rb,rc]) (hr:w.rangeAt p o [.int .i64 15,.string s,v0,v1,v2,v3,v4,v5,vn,.slice (some ⟨b,ob,none⟩) 3 c]) (hp:p < w.heap.size) (ha:EvAt mp b ob w ra) (hb:EvAt mp b (ob+10) w rb) (hc:EvAt mp b (ob+20) w rc) (hm:MacAt w mp va vb E V):
  Calls Tryz.prog 39 #[.pointer (some ⟨mp,0,none⟩),.pointer (some ⟨p,o,none⟩)] w (EvPost res w):=by
 have HM:=I hm
 have HR0:=I hr
 have HP:=I hp
 rw[lz_if] at hres
 have HRES0:=I hres
 have HA:=I ha
 have HBB:=I hb
 have HCC:=I hc
 clear hm hr hp ha hb hc hres
 go_enter Tryz.func39,Tryz.ntmps39
 go_upto_region 1 with (fail)
 rw[zv]
 have HE0:=I (z1b (Below.refl w.heap.size w))
 generalize w.alloc (.cells zV6.toArray 26)= W at*
 have HMW:=I (HM.out.below HE0.out.bel)
 have HRR:Hid (W.rangeAt p o [.int .i64 15,.string s,v0,v1,v2,v3,v4,v5,vn,.slice (some ⟨b,ob,none⟩) 3 c]):=I (zd HR0.out HE0.out.bel HP.out)
 have d0:W.cell? ⟨p,o,none⟩= some (.int .i64 15):=HRR.out 0 _ rfl
 have d9:W.cell? ⟨p,o+9,none⟩= some (.slice (some ⟨b,ob,none⟩) 3 c):=HRR.out 9 _ rfl
 have HB0:=I (z1F mp b ob ra W (HA.out W HE0.out.bel))
 have HB1:=HBB.out.later HE0.out.bel
 have HC1:=HCC.out.later HE0.out.bel
 have HX1:=I HB1
 have HX2:=I HC1
 clear HB1 HC1
 go_wp2_with (go_at_call 64;fail)
 refine HB0.out.mono ?_
 rintro e z ⟨⟨x,hx,rfl⟩|⟨n,hx,rfl⟩,hbz⟩
 ·have HBZ:=I hbz
  have d9':z.cell? ⟨p,o+9,none⟩= some (.slice (some ⟨b,ob,none⟩) 3 c):=(hbz.cell (p:=⟨p,o+9,none⟩) (Nat.lt_of_lt_of_le HP.out HE0.out.bel.size)).trans d9
  rw[hx] at HRES0
  clear hbz hx d0 d9
  cases x with
  |true=>
   have HRR2:Hid (res= rb):=I HRES0.out
   go_wp2_with (go_at_call 39;fail)
   refine(HX1.out _ HBZ.out).mono ?_
   rintro e z2 (⟨v,cs',hres,rfl,hk,hrw,hb⟩|⟨n,hres,rfl,hb⟩)
   ·have HE1:=I (HE0.out.next HBZ.out)
    have HCL:=I (zi hk.val).1
    have HON:=I (zi hk.val).2
    have HKZ:=I (HE1.out.keptN hk)
    have HEZ:=I (HE1.out.next hb)
    have HRW:=I hrw
    have HRES:=I (HRR2.out.trans hres)
    clear hk hb hrw hres
    go_wp2_with (((with_reducible refine zh 26 _ _ rfl rfl ?hw (w.heap.size) zV6 (cs') HEZ.out.wb ?h5 ?h6 ?h7 ?h8 ?h9 ?_);(case hw=>(exact wantA rfl));(case h5=>rw[HCL.out];rfl);(case h6=>rfl);(case h7=>rfl);(case h8=>rw[HCL.out];kernel_rfl);(case h9=>exact HON.out);intro Z2 hz hb;have HX:=I hz;have HXB:=I hb;clear hz hb))
    (try simp only[Exit.inBlock,Exit.then])
    refine bodyPost_ret (zl rfl Tryz.underlying26 rfl _ _ (w.heap.size) (cs') (by rw[HCL.out];kernel_rfl) rfl HX.out.range) rfl ?_
    exact .ok HRES.out rfl (HEZ.out.kept HKZ.out HXB.out) (HRW.out) (HEZ.out.fin HXB.out)
   ·have HB:=I hb
    have HRES:=I (HRR2.out.trans hres)
    clear hb hres
    go_wp2
    exact⟨rfl,.no HRES.out rfl ((HE0.out.next HBZ.out).next HB.out).bel⟩
  |false=>
   have HRR2:Hid (res= rc):=I HRES0.out
   go_wp2_with (go_at_call 39;fail)
   refine(HX2.out _ HBZ.out).mono ?_
   rintro e z2 (⟨v,cs',hres,rfl,hk,hrw,hb⟩|⟨n,hres,rfl,hb⟩)
   ·have HE1:=I (HE0.out.next HBZ.out)
    have HCL:=I (zi hk.val).1
    have HON:=I (zi hk.val).2
    have HKZ:=I (HE1.out.keptN hk)
    have HEZ:=I (HE1.out.next hb)
    have HRW:=I hrw
    have HRES:=I (HRR2.out.trans hres)
    clear hk hb hrw hres
    go_wp2_with (((with_reducible refine zh 26 _ _ rfl rfl ?hw (w.heap.size) zV6 (cs') HEZ.out.wb ?h5 ?h6 ?h7 ?h8 ?h9 ?_);(case hw=>(exact wantA rfl));(case h5=>rw[HCL.out];rfl);(case h6=>rfl);(case h7=>rfl);(case h8=>rw[HCL.out];kernel_rfl);(case h9=>exact HON.out);intro Z2 hz hb;have HX:=I hz;have HXB:=I hb;clear hz hb))
    (try simp only[Exit.inBlock,Exit.then])
    refine bodyPost_ret (zl rfl Tryz.underlying26 rfl _ _ (w.heap.size) (cs') (by rw[HCL.out];kernel_rfl) rfl HX.out.range) rfl ?_
    exact .ok HRES.out rfl (HEZ.out.kept HKZ.out HXB.out) (HRW.out) (HEZ.out.fin HXB.out)
   ·have HB:=I hb
    have HRES:=I (HRR2.out.trans hres)
    clear hb hres
    go_wp2
    exact⟨rfl,.no HRES.out rfl ((HE0.out.next HBZ.out).next HB.out).bel⟩
 ·have HB:=I hbz
  have HRES:Hid (res= .error n):=I (by rw[HRES0.out,hx])
  clear hbz hx d0 d9
  go_wp2
  exact⟨rfl,.no HRES.out rfl (HE0.out.next HB.out).bel⟩
theorem ze8 (s:ByteArray) (v0 v1 v2 v3 v4 v5 vn:Value) (b ob c:Nat) (ra rb res:Res) (hres:res= lazyR 13 [ra,rb]) (hr:w.rangeAt p o [.int .i64 13,.string s,v0,v1,v2,v3,v4,v5,vn,.slice (some ⟨b,ob,none⟩) 2 c]) (hp:p < w.heap.size) (ha:EvAt mp b ob w ra) (hb:EvAt mp b (ob+10) w rb) (hm:MacAt w mp va vb E V):
  Calls Tryz.prog 39 #[.pointer (some ⟨mp,0,none⟩),.pointer (some ⟨p,o,none⟩)] w (EvPost res w):=by
 have HM:=I hm
 have HR0:=I hr
 have HP:=I hp
 rw[zeE] at hres
 have HRES0:=I hres
 have HA:=I ha
 have HBB:=I hb
 clear hm hr hp ha hb hres
 go_enter Tryz.func39,Tryz.ntmps39
 go_upto_region 1 with (fail)
 rw[zv]
 have HE0:=I (z1b (Below.refl w.heap.size w))
 generalize w.alloc (.cells zV6.toArray 26)= W at*
 have HMW:=I (HM.out.below HE0.out.bel)
 have HRR:Hid (W.rangeAt p o [.int .i64 13,.string s,v0,v1,v2,v3,v4,v5,vn,.slice (some ⟨b,ob,none⟩) 2 c]):=I (zd HR0.out HE0.out.bel HP.out)
 have d0:W.cell? ⟨p,o,none⟩= some (.int .i64 13):=HRR.out 0 _ rfl
 have d9:W.cell? ⟨p,o+9,none⟩= some (.slice (some ⟨b,ob,none⟩) 2 c):=HRR.out 9 _ rfl
 have HB0:=I (z1F mp b ob ra W (HA.out W HE0.out.bel))
 have HB1:=HBB.out.later HE0.out.bel
 have HX1:=I HB1
 clear HB1
 go_wp2_with (go_at_call 64;fail)
 refine HB0.out.mono ?_
 rintro e z ⟨⟨x,hx,rfl⟩|⟨n,hx,rfl⟩,hbz⟩
 ·have HBZ:=I hbz
  have d9':z.cell? ⟨p,o+9,none⟩= some (.slice (some ⟨b,ob,none⟩) 2 c):=(hbz.cell (p:=⟨p,o+9,none⟩) (Nat.lt_of_lt_of_le HP.out HE0.out.bel.size)).trans d9
  rw[hx] at HRES0
  have HE1:=I (HE0.out.next HBZ.out)
  clear hbz hx d0 d9
  cases x with
  |true=>
   have HRR2:Hid (res=(boolR rb).map vB):=I HRES0.out
   have HB2:=I (z1F mp b (ob+10) rb z (HX1.out z HBZ.out))
   go_wp2_with (go_at_call 64;fail)
   refine HB2.out.mono ?_
   rintro e z2 ⟨⟨y,hy,rfl⟩|⟨n,hy,rfl⟩,hbz⟩
   ·rw[hy] at HRR2
    have HRES:Hid (res= .ok (vB y)):=I HRR2.out
    have HE2:=I (HE1.out.next hbz)
    clear hbz hy
    go_wp2_with (first|(go_at_call 65;refine(z0Y y _).mono ?_;rintro e z3 ⟨rfl,hb⟩;have HEZ:=I (HE2.out.next hb);clear hb)|((with_reducible refine zh 26 _ _ rfl rfl ?hw (w.heap.size) zV6 (tC y) HEZ.out.wb ?h5 ?h6 ?h7 ?h8 ?h9 ?_);(case hw=>(exact wantA rfl));(case h5=>rfl);(case h6=>rfl);(case h7=>rfl);(case h8=>kernel_rfl);(case h9=>exact z1N y);intro Z2 hz hb;have HX:=I hz;have HXB:=I hb;clear hz hb))
    (try simp only[Exit.inBlock,Exit.then])
    refine bodyPost_ret (zl rfl Tryz.underlying26 rfl _ _ (w.heap.size) (tC y) (by kernel_rfl) rfl HX.out.range) rfl ?_
    exact .ok HRES.out rfl (z1f _ _ y) (z1c y) (HEZ.out.fin HXB.out)
   ·rw[hy] at HRR2
    have HRES:Hid (res= .error n):=I HRR2.out
    have HE2:=I (HE1.out.next hbz)
    clear hbz hy
    go_wp2
    exact⟨rfl,.no HRES.out rfl HE2.out.bel⟩
  |false=>
   have HRES:Hid (res= .ok (vB false)):=I HRES0.out
   go_wp2_with (first|(go_at_call 65;refine(z0Y false _).mono ?_;rintro e z3 ⟨rfl,hb⟩;have HEZ:=I (HE1.out.next hb);clear hb)|((with_reducible refine zh 26 _ _ rfl rfl ?hw (w.heap.size) zV6 (tC false) HEZ.out.wb ?h5 ?h6 ?h7 ?h8 ?h9 ?_);(case hw=>(exact wantA rfl));(case h5=>rfl);(case h6=>rfl);(case h7=>rfl);(case h8=>kernel_rfl);(case h9=>exact z1N false);intro Z2 hz hb;have HX:=I hz;have HXB:=I hb;clear hz hb))
   (try simp only[Exit.inBlock,Exit.then])
   refine bodyPost_ret (zl rfl Tryz.underlying26 rfl _ _ (w.heap.size) (tC false) (by kernel_rfl) rfl HX.out.range) rfl ?_
   exact .ok HRES.out rfl (z1f _ _ false) (z1c false) (HEZ.out.fin HXB.out)
 ·have HB:=I hbz
  have HRES:Hid (res= .error n):=I (by rw[HRES0.out,hx])
  clear hbz hx d0 d9
  go_wp2
  exact⟨rfl,.no HRES.out rfl (HE0.out.next HB.out).bel⟩
theorem ev_or (s:ByteArray) (v0 v1 v2 v3 v4 v5 vn:Value) (b ob c:Nat) (ra rb res:Res) (hres:res= lazyR 14 [ra,rb]) (hr:w.rangeAt p o [.int .i64 14,.string s,v0,v1,v2,v3,v4,v5,vn,.slice (some ⟨b,ob,none⟩) 2 c]) (hp:p < w.heap.size) (ha:EvAt mp b ob w ra) (hb:EvAt mp b (ob+10) w rb) (hm:MacAt w mp va vb E V):
  Calls Tryz.prog 39 #[.pointer (some ⟨mp,0,none⟩),.pointer (some ⟨p,o,none⟩)] w (EvPost res w):=by
 have HM:=I hm
 have HR0:=I hr
 have HP:=I hp
 rw[lz_or] at hres
 have HRES0:=I hres
 have HA:=I ha
 have HBB:=I hb
 clear hm hr hp ha hb hres
 go_enter Tryz.func39,Tryz.ntmps39
 go_upto_region 1 with (fail)
 rw[zv]
 have HE0:=I (z1b (Below.refl w.heap.size w))
 generalize w.alloc (.cells zV6.toArray 26)= W at*
 have HMW:=I (HM.out.below HE0.out.bel)
 have HRR:Hid (W.rangeAt p o [.int .i64 14,.string s,v0,v1,v2,v3,v4,v5,vn,.slice (some ⟨b,ob,none⟩) 2 c]):=I (zd HR0.out HE0.out.bel HP.out)
 have d0:W.cell? ⟨p,o,none⟩= some (.int .i64 14):=HRR.out 0 _ rfl
 have d9:W.cell? ⟨p,o+9,none⟩= some (.slice (some ⟨b,ob,none⟩) 2 c):=HRR.out 9 _ rfl
 have HB0:=I (z1F mp b ob ra W (HA.out W HE0.out.bel))
 have HB1:=HBB.out.later HE0.out.bel
 have HX1:=I HB1
 clear HB1
 go_wp2_with (go_at_call 64;fail)
 refine HB0.out.mono ?_
 rintro e z ⟨⟨x,hx,rfl⟩|⟨n,hx,rfl⟩,hbz⟩
 ·have HBZ:=I hbz
  have d9':z.cell? ⟨p,o+9,none⟩= some (.slice (some ⟨b,ob,none⟩) 2 c):=(hbz.cell (p:=⟨p,o+9,none⟩) (Nat.lt_of_lt_of_le HP.out HE0.out.bel.size)).trans d9
  rw[hx] at HRES0
  have HE1:=I (HE0.out.next HBZ.out)
  clear hbz hx d0 d9
  cases x with
  |false=>
   have HRR2:Hid (res=(boolR rb).map vB):=I HRES0.out
   have HB2:=I (z1F mp b (ob+10) rb z (HX1.out z HBZ.out))
   go_wp2_with (go_at_call 64;fail)
   refine HB2.out.mono ?_
   rintro e z2 ⟨⟨y,hy,rfl⟩|⟨n,hy,rfl⟩,hbz⟩
   ·rw[hy] at HRR2
    have HRES:Hid (res= .ok (vB y)):=I HRR2.out
    have HE2:=I (HE1.out.next hbz)
    clear hbz hy
    go_wp2_with (first|(go_at_call 65;refine(z0Y y _).mono ?_;rintro e z3 ⟨rfl,hb⟩;have HEZ:=I (HE2.out.next hb);clear hb)|((with_reducible refine zh 26 _ _ rfl rfl ?hw (w.heap.size) zV6 (tC y) HEZ.out.wb ?h5 ?h6 ?h7 ?h8 ?h9 ?_);(case hw=>(exact wantA rfl));(case h5=>rfl);(case h6=>rfl);(case h7=>rfl);(case h8=>kernel_rfl);(case h9=>exact z1N y);intro Z2 hz hb;have HX:=I hz;have HXB:=I hb;clear hz hb))
    (try simp only[Exit.inBlock,Exit.then])
    refine bodyPost_ret (zl rfl Tryz.underlying26 rfl _ _ (w.heap.size) (tC y) (by kernel_rfl) rfl HX.out.range) rfl ?_
    exact .ok HRES.out rfl (z1f _ _ y) (z1c y) (HEZ.out.fin HXB.out)
   ·rw[hy] at HRR2
    have HRES:Hid (res= .error n):=I HRR2.out
    have HE2:=I (HE1.out.next hbz)
    clear hbz hy
    go_wp2
    exact⟨rfl,.no HRES.out rfl HE2.out.bel⟩
  |true=>
   have HRES:Hid (res= .ok (vB true)):=I HRES0.out
   go_wp2_with (first|(go_at_call 65;refine(z0Y true _).mono ?_;rintro e z3 ⟨rfl,hb⟩;have HEZ:=I (HE1.out.next hb);clear hb)|((with_reducible refine zh 26 _ _ rfl rfl ?hw (w.heap.size) zV6 (tC true) HEZ.out.wb ?h5 ?h6 ?h7 ?h8 ?h9 ?_);(case hw=>(exact wantA rfl));(case h5=>rfl);(case h6=>rfl);(case h7=>rfl);(case h8=>kernel_rfl);(case h9=>exact z1N true);intro Z2 hz hb;have HX:=I hz;have HXB:=I hb;clear hz hb))
   (try simp only[Exit.inBlock,Exit.then])
   refine bodyPost_ret (zl rfl Tryz.underlying26 rfl _ _ (w.heap.size) (tC true) (by kernel_rfl) rfl HX.out.range) rfl ?_
   exact .ok HRES.out rfl (z1f _ _ true) (z1c true) (HEZ.out.fin HXB.out)
 ·have HB:=I hbz
  have HRES:Hid (res= .error n):=I (by rw[HRES0.out,hx])
  clear hbz hx d0 d9
  go_wp2
  exact⟨rfl,.no HRES.out rfl (HE0.out.next HB.out).bel⟩
end
end
section
open Go Go.RowKit
theorem zaP {E:List VarT} {V:List VT} {its:List ET} {j:Nat} {y:ET} (h:its[j]?= some y):seqR (zP E V (its.drop j))= match evalE E V y with| .error e=> .error e| .ok v=>(seqR (zP E V (its.drop (j+1)))).map (v:: ·):=by
 rw[z4R h,zP]
 cases evalE E V y with
 |error e=>rfl
 |ok v=>
  rw[seqR]
  cases seqR (zP E V (its.drop (j+1)))<;>rfl
theorem z8f (r:Except Int (List VT)) (vs:List VT) (v:VT):(r.map (v:: ·)).map (vs ++ ·)= r.map ((vs ++ [v]) ++ ·):=by
 cases r with
 |error e=>rfl
 |ok l=>show Except.ok (vs ++ (v::l))= Except.ok ((vs ++ [v]) ++ l);simp
theorem z81:∀ (l:List ET),l.length<=szEL l
 |[]=>by simp
 |a::l=>by
  have:=z81 l
  have:=zdt a
  rw[szEL,List.length_cons];omega
theorem z7W:∀ {l:List ET} {x:ET},x∈l->szE x<=szEL l
 |a::l,x,hx=>by
  rw[szEL]
  rcases List.mem_cons.1 hx with rfl|hx
  ·omega
  ·have:=z7W hx;omega
theorem z3l {E:List VarT} {V:List VT} {k:Int} {s:ByteArray} {v:VT} {ns:List ByteArray} {its:List ET} (h: ¬ k= 1/\¬ k= 2/\¬ (k= 13\/k= 14\/k= 15)):evalE E V (.mk k s v ns its)= match seqR (zP E V its) with| .error e=> .error e| .ok l=>combR k s ns l:=by
 rw[evalE,if_neg h.1,if_neg h.2.1,if_neg h.2.2]
 rfl
theorem z9j {vs:List VT} {v:VT} (h:∀ z∈vs,zj z= true) (hv:zj v= true):∀ z∈vs ++ [v],zj z= true:=fun z hz=>by
 rcases List.mem_append.1 hz with h1|h1
 ·exact h z h1
 ·have:z= v:=by simpa using h1
  rw[this];exact hv
theorem z1G {α:Type} {T:TypeId} {k base:Nat} {enc:α->List Value} {w:World} {v:Value} {l:List α} (h:OwnSl T k enc w base v l):∃ A c,v= .slice A l.length c:=by
 rcases h.2 with ⟨rfl,h0⟩|⟨g,cap,cur,rfl,_⟩
 ·exact⟨none,0,by rw[h0]⟩
 ·exact⟨_,_,rfl⟩
section
variable (mp:Nat) (va vb:Value) (E:List VarT) (V:List VT) (p o:Nat) (w:World)
theorem z61 (k:Int) (s:ByteArray) (v0 v1 v2 v3 v4 v5 vn:Value) (A:Option Addr) (c:Nat) (ns:List ByteArray) (its:List ET) (e1:(k ==1)= false) (e2:(k ==2)= false) (e15:(k ==15)= false) (e13:(k ==13)= false) (e14:(k ==14)= false)
  (hlen:its.length<=199) (hkl:(k= 16\/k= 17)\/(¬ k= 16/\¬ k= 17/\(its.length= 1\/its.length= 2)))
  (hr:w.rangeAt p o [.int .i64 k,.string s,v0,v1,v2,v3,v4,v5,vn,.slice A its.length c]) (hp:p < w.heap.size) (hns:SlAt w w.heap.size 1 StrR vn ns) (hnl:ns.length<=1000)
  (hA:0 < its.length->∃ b ob,A= some ⟨b,ob,none⟩/\∀ j x,its[j]?= some x->EvAt mp b (ob+j*10) w (evalE E V x)) (hm:MacAt w mp va vb E V) {res:Res}
  (hres:res= match seqR (zP E V its) with| .error e=> .error e| .ok l=>combR k s ns l):
  Calls Tryz.prog 39 #[.pointer (some ⟨mp,0,none⟩),.pointer (some ⟨p,o,none⟩)] w (EvPost res w):=by
 have HM:=I hm
 have HR0:=I hr
 have HP:=I hp
 have HRES:=I hres
 have HNS:=I hns
 have HNL:=I hnl
 have HA:=I hA
 have HLEN:=I hlen
 have HKL:=I hkl
 clear hm hr hp hns hnl hA hlen hkl hres
 go_enter Tryz.func39,Tryz.ntmps39
 go_upto_region 1 with (fail)
 rw[zv]
 have HE0:=I (z1b (Below.refl w.heap.size w))
 generalize w.alloc (.cells zV6.toArray 26)= W at*
 have HMW:=I (HM.out.below HE0.out.bel)
 have HRR:Hid (W.rangeAt p o [.int .i64 k,.string s,v0,v1,v2,v3,v4,v5,vn,.slice A its.length c]):=I (zd HR0.out HE0.out.bel HP.out)
 have d0:W.cell? ⟨p,o,none⟩= some (.int .i64 k):=HRR.out 0 _ rfl
 have d9:W.cell? ⟨p,o+9,none⟩= some (.slice A its.length c):=HRR.out 9 _ rfl
 have HPW:Hid (p < W.heap.size):=I (Nat.lt_of_lt_of_le HP.out HE0.out.bel.size)
 obtain⟨j0,hi,hz0,hz1,hz2⟩:=z0b z0K
 have HJ0:=I hi
 have HY0:=I hz0
 have HY1:=I hz1
 have HY2:=I hz2
 clear hi hz0 hz1 hz2
 go_upto_region 16 with (fail)
 clear d0 d9
 go_loopg [5,92] its.length (fun q x y u=>∃ (j:Nat) (vs:List VT) (KL:List zK),j+q= its.length/\y= .int .i64 j/\vs.length= j/\seqR (zP E V its)=(seqR (zP E V (its.drop j))).map (vs ++ ·)/\(∀ z∈vs,zj z= true)/\RowInv 26 W u x vs KL)
 case atStart=>exact⟨0,[],[],by omega,rfl,rfl,by rw[List.drop_zero];cases seqR (zP E V its)<;>rfl,(fun z hz=>by cases hz),RowInv.start _ _⟩
 case round=>
  obtain⟨j,vs,KL,hj,rfl,hvl,hseq,hright,hI⟩:=hrel
  have HI:=I hI
  have HSEQ:=I hseq
  have HRI:=I hright
  have HVL:=I hvl
  have HEU:=I (HE0.out.next HI.out.bel)
  obtain⟨UA,uc,rfl⟩:=z1G hI.own
  have HKLL:=I hI.len
  clear hI hseq hright
  have d0:wr.cell? ⟨p,o,none⟩= some (.int .i64 k):=(HI.out.bel.cell (p:=⟨p,o,none⟩) HPW.out).trans (HRR.out 0 _ rfl)
  have d9:wr.cell? ⟨p,o+9,none⟩= some (.slice A its.length c):=(HI.out.bel.cell (p:=⟨p,o+9,none⟩) HPW.out).trans (HRR.out 9 _ rfl)
  cases gk with
  |zero=>
   obtain rfl:j= its.length:=by omega
   have hge: ¬ ((its.length:Int) <(its.length:Int)):=by omega
   have HSQ:Hid (res= combR k s ns vs):=I (by
    have h1:=HSEQ.out
    rw[List.drop_length,zP,seqR] at h1
    have h2:seqR (zP E V its)= .ok vs:=by rw[h1];show Except.ok (vs ++ [])= _;rw[List.append_nil]
    rw[HRES.out,h2])
   have HVM:Hid (vs.length<=maxLen):=I (by have h1:=HVL.out;have h2:=HLEN.out;unfold maxLen;omega)
   have HKR:=HKL.out
   rcases HKR with (hk16|hk17)|⟨hn16,hn17,hl12⟩
   ·subst hk16
    have HKV:Hid (Kept (fun b=>W.heap.size<=b) wr [.int .i64 5,.int .i64 0,.float .f64 0,.string ⟨#[]⟩,.slice none 0 0,.slice UA KL.length uc] (.mk 5 0 0 ⟨#[]⟩ [] vs)):=I (ValAt.of (z0f (by omega)) (z0f (by omega)) (by decide) (by decide) (SlAt.nil _ _ _ _) HVM.out (HI.out.row HVM.out (Nat.le_refl _) (fun _ _ _=>rfl) (Nat.le_refl _)))
    have HSD:=I (z2x (fun b=>W.heap.size<=b) _ _ wr HKV.out)
    have HRE:Hid (res= szd (.mk 5 0 0 ⟨#[]⟩ [] vs)):=I (by rw[HSQ.out];unfold combR;rw[if_pos rfl])
    clear d9
    go_wp2_with (go_at_call 66;fail)
    refine HSD.out.mono ?_
    rintro e z2 (⟨u,cs',hr,rfl,hk,hb⟩|⟨n,hr,rfl,hb⟩)
    ·have HEZ:=I (HEU.out.next hb)
     have HKZ:Hid (Kept (fun b=>w.heap.size < b) z2 cs' u):=I (hk.to (fun b hp hlt=>⟨by have h1:=HE0.out.lt;have h2:=HI.out.bel.size;rcases hp with h|h<;>omega,rfl⟩) (Nat.le_refl _))
     have HCL:=I (zi hk.val).1
     have HON:=I (zi hk.val).2
     have HRE2:Hid (res= .ok u):=I (HRE.out.trans hr)
     have HRW:Hid (zj u= true):=I (z41 hr).2
     clear hk hb hr
     go_wp2_with (((with_reducible refine zh 26 _ _ rfl rfl ?hw (w.heap.size) zV6 (cs') HEZ.out.wb ?h5 ?h6 ?h7 ?h8 ?h9 ?_);(case hw=>(exact wantA rfl));(case h5=>rw[HCL.out];rfl);(case h6=>rfl);(case h7=>rfl);(case h8=>rw[HCL.out];kernel_rfl);(case h9=>exact HON.out);intro Z2 hz hb;have HX:=I hz;have HXB:=I hb;clear hz hb))
     (try simp only[Exit.inBlock,Exit.then])
     refine bodyPost_ret (zl rfl Tryz.underlying26 rfl _ _ (w.heap.size) (cs') (by rw[HCL.out];kernel_rfl) rfl HX.out.range) rfl ?_
     exact .ok HRE2.out rfl (HEZ.out.kept HKZ.out HXB.out) (HRW.out) (HEZ.out.fin HXB.out)
    ·have HRE2:Hid (res= .error n):=I (HRE.out.trans hr)
     have HB:=I hb
     clear hb hr
     go_wp2
     exact⟨rfl,.no HRE2.out rfl (HEU.out.next HB.out).bel⟩
   ·subst hk17
    obtain⟨-,NA,nc,rfl, -⟩:=id HNS.out
    have d8:wr.cell? ⟨p,o+8,none⟩= some (.slice NA ns.length nc):=(HI.out.bel.cell (p:=⟨p,o+8,none⟩) HPW.out).trans (HRR.out 8 _ rfl)
    have HWU:=I (HE0.out.bel.trans (HI.out.bel.mono HE0.out.bel.size))
    have HCN:=I (z2G wr (.slice NA ns.length nc) ns ((HNS.out.below HWU.out fun _ _ _ h=>h).more HWU.out.size) (by have h1:=HNL.out;have h2:reachBytes= 140737488351232:=rfl;omega))
    go_upto_region 23 with (fail)
    clear d0 d9
    go_wp2_with (first|(go_at_call 67;fail))
    refine HCN.out.mono ?_
    rintro e z ⟨v',rfl,hbz,hkn⟩
    obtain⟨-,NA2,nc2,rfl, -⟩:=id hkn
    have HKV:Hid (Kept (fun b=>W.heap.size<=b) z [.int .i64 6,.int .i64 0,.float .f64 0,.string ⟨#[]⟩,.slice NA2 ns.length nc2,.slice UA KL.length uc] (.mk 6 0 0 ⟨#[]⟩ ns vs)):=I (ValAt.of (z0f (by omega)) (z0f (by omega)) (by decide) (by decide) (hkn.to (fun b hp hlt=>⟨Nat.le_trans HI.out.bel.size hp,rfl⟩) (Nat.le_refl _)) HVM.out (HI.out.row HVM.out (Nat.le_refl _) (fun b _ hlt=>hbz.block b hlt) hbz.size))
    have HSD:=I (z2x (fun b=>W.heap.size<=b) _ _ z HKV.out)
    have HRE:Hid (res= szd (.mk 6 0 0 ⟨#[]⟩ ns vs)):=I (by rw[HSQ.out];unfold combR;rw[if_neg (by decide),if_pos rfl])
    have HEY:=I (HEU.out.next hbz)
    have HZS:=I hbz.size
    clear hbz hkn d8 HCN
    go_wp2_with (go_at_call 66;fail)
    refine HSD.out.mono ?_
    rintro e z2 (⟨u,cs',hr,rfl,hk,hb⟩|⟨n,hr,rfl,hb⟩)
    ·have HEZ:=I (HEY.out.next hb)
     have HKZ:Hid (Kept (fun b=>w.heap.size < b) z2 cs' u):=I (hk.to (fun b hp hlt=>⟨by have h1:=HE0.out.lt;have h2:=HI.out.bel.size;have h3:=HZS.out;rcases hp with h|h<;>omega,rfl⟩) (Nat.le_refl _))
     have HCL:=I (zi hk.val).1
     have HON:=I (zi hk.val).2
     have HRE2:Hid (res= .ok u):=I (HRE.out.trans hr)
     have HRW:Hid (zj u= true):=I (z41 hr).2
     clear hk hb hr
     go_wp2_with (((with_reducible refine zh 26 _ _ rfl rfl ?hw (w.heap.size) zV6 (cs') HEZ.out.wb ?h5 ?h6 ?h7 ?h8 ?h9 ?_);(case hw=>(exact wantA rfl));(case h5=>rw[HCL.out];rfl);(case h6=>rfl);(case h7=>rfl);(case h8=>rw[HCL.out];kernel_rfl);(case h9=>exact HON.out);intro Z2 hz hb;have HX:=I hz;have HXB:=I hb;clear hz hb))
     (try simp only[Exit.inBlock,Exit.then])
     refine bodyPost_ret (zl rfl Tryz.underlying26 rfl _ _ (w.heap.size) (cs') (by rw[HCL.out];kernel_rfl) rfl HX.out.range) rfl ?_
     exact .ok HRE2.out rfl (HEZ.out.kept HKZ.out HXB.out) (HRW.out) (HEZ.out.fin HXB.out)
    ·have HRE2:Hid (res= .error n):=I (HRE.out.trans hr)
     have HB:=I hb
     clear hb hr
     go_wp2
     exact⟨rfl,.no HRE2.out rfl (HEY.out.next HB.out).bel⟩
   ·have e16:(k ==16)= false:=by simpa using hn16
    have e17:(k ==17)= false:=by simpa using hn17
    have HROW:=I (HI.out.row HVM.out (Nat.le_refl _) (fun _ _ _=>rfl) (Nat.le_refl _))
    have HTAB:=I (HM.out.tab.next (HE0.out.bel.trans (HI.out.bel.mono HE0.out.bel.size)))
    have d1:wr.cell? ⟨p,o+1,none⟩= some (.string s):=(HI.out.bel.cell (p:=⟨p,o+1,none⟩) HPW.out).trans (HRR.out 1 _ rfl)
    have HPU:Hid (p < wr.heap.size):=I (Nat.lt_of_lt_of_le HPW.out HI.out.bel.size)
    have HNK:=I (And.intro hn16 hn17)
    clear d9 hn16 hn17
    obtain⟨n,hn⟩:∃ n,KL.length= n:=⟨_,rfl⟩
    have hnl:=hn.symm.trans (HKLL.out.trans HVL.out)
    rw[hn] at HROW
    rw[hn]
    rcases hl12 with hl1|hl2
    ·obtain rfl:n= 1:=by omega
     obtain⟨a,rfl⟩:∃ a,vs=[a]:=by
      have h1:=HVL.out
      match vs,h1.trans hl1 with
      |[a],_=>exact⟨a,rfl⟩
     clear hl1 hnl hn
     obtain⟨-,RA,rc,hre,hA1⟩:=HROW.out
     simp only[Value.slice.injEq] at hre
     obtain⟨rfl, -,rfl⟩:=hre
     obtain⟨b0,o0,rfl,hb0,hc0⟩:=hA1 (by simp)
     obtain⟨ks,hkl3,hkr,hkv⟩:=hc0 0 a rfl
     rw[Nat.zero_mul,Nat.add_zero] at hkr
     have HKS:Hid (Kept (fun b=>W.heap.size<=b) wr ks a):=I hkv
     have HCLL:=I hkl3
     have HKRR:Hid (wr.rangeAt b0 o0 ks):=I (z0m hkr fun a v h=>(zQ.1 h).2)
     have HUN:=I (zbr (fun b=>W.heap.size<=b) k s p o a ks wr d0 d1 HPU.out HKS.out (HRI.out a (by simp)) HTAB.out)
     have HRE:Hid (res= unV k s a):=I (by rw[HSQ.out];unfold combR;rw[if_neg HNK.out.1,if_neg HNK.out.2])
     have HSA:=I (z8S _ _ HKS.out.val)
     have HRA:=I (HRI.out a (by simp))
     clear hA1 hc0 hkl3 hkr hkv hb0 d1
     go_wp2_with (first|((with_reducible refine zc 26 _ rfl ?hwl b0 (o0) ks _ rfl HKRR.out Tryz.underlying26 rfl ?hil ?_);(case hwl=>(exact wantA rfl));(case hil=>rw[HCLL.out];kernel_rfl))|(go_at_call 68;fail))
     refine HUN.out.mono ?_
     rintro e z2 (⟨u,cs',hr,rfl,hk,hb⟩|⟨n,hr,rfl,hb⟩)
     ·have HEZ:=I (HEU.out.next hb)
      have HKZ:Hid (Kept (fun b=>w.heap.size < b) z2 cs' u):=I (hk.to (fun b hp hlt=>⟨by have h1:=HE0.out.lt;have h2:=HI.out.bel.size;rcases hp with h|h<;>omega,rfl⟩) (Nat.le_refl _))
      have HCL:=I (zi hk.val).1
      have HON:=I (zi hk.val).2
      have HRE2:Hid (res= .ok u):=I (HRE.out.trans hr)
      have HRW:Hid (zj u= true):=I (zas HSA.out HRA.out hr)
      clear hk hb hr
      go_wp2_with (((with_reducible refine zh 26 _ _ rfl rfl ?hw (w.heap.size) zV6 (cs') HEZ.out.wb ?h5 ?h6 ?h7 ?h8 ?h9 ?_);(case hw=>(exact wantA rfl));(case h5=>rw[HCL.out];rfl);(case h6=>rfl);(case h7=>rfl);(case h8=>rw[HCL.out];kernel_rfl);(case h9=>exact HON.out);intro Z2 hz hb;have HX:=I hz;have HXB:=I hb;clear hz hb))
      (try simp only[Exit.inBlock,Exit.then])
      refine bodyPost_ret (zl rfl Tryz.underlying26 rfl _ _ (w.heap.size) (cs') (by rw[HCL.out];kernel_rfl) rfl HX.out.range) rfl ?_
      exact .ok HRE2.out rfl (HEZ.out.kept HKZ.out HXB.out) (HRW.out) (HEZ.out.fin HXB.out)
     ·have HRE2:Hid (res= .error n):=I (HRE.out.trans hr)
      have HB:=I hb
      clear hb hr
      go_wp2
      exact⟨rfl,.no HRE2.out rfl (HEU.out.next HB.out).bel⟩
    ·obtain rfl:n= 2:=by omega
     obtain⟨a,a2,rfl⟩:∃ a a2,vs=[a,a2]:=by
      have h1:=HVL.out
      match vs,h1.trans hl2 with
      |[a,b],_=>exact⟨a,b,rfl⟩
     clear hl2 hnl hn
     obtain⟨-,RA,rc,hre,hA1⟩:=HROW.out
     simp only[Value.slice.injEq] at hre
     obtain⟨rfl, -,rfl⟩:=hre
     obtain⟨b0,o0,rfl,hb0,hc0⟩:=hA1 (by simp)
     obtain⟨ks,hkl3,hkr,hkv⟩:=hc0 0 a rfl
     obtain⟨ks2,hkl4,hkr2,hkv2⟩:=hc0 1 a2 rfl
     rw[Nat.zero_mul,Nat.add_zero] at hkr
     rw[Nat.one_mul] at hkr2
     have HKS:Hid (Kept (fun b=>W.heap.size<=b) wr ks a):=I hkv
     have HKS2:Hid (Kept (fun b=>W.heap.size<=b) wr ks2 a2):=I hkv2
     have HCLL:=I hkl3
     have HCLM:=I hkl4
     have HKRR:Hid (wr.rangeAt b0 o0 ks):=I (z0m hkr fun a v h=>(zQ.1 h).2)
     have HKRS:Hid (wr.rangeAt b0 (o0+6) ks2):=I (z0m hkr2 fun a v h=>(zQ.1 h).2)
     have HB0:=I hb0
     have HRE:Hid (res= binV k a a2):=I (by rw[HSQ.out];unfold combR;rw[if_neg HNK.out.1,if_neg HNK.out.2])
     have HRA:=I (HRI.out a (by simp))
     have HRB:=I (HRI.out a2 (by simp))
     clear hA1 hc0 hkl3 hkr hkv hkl4 hkr2 hkv2 hb0 d1
     go_upto_region 26 with (fail)
     refine zy 10 [(0,true),(1,true),(2,true),(3,true),(4,true),(5,true),(6,true),(7,true),(8,true),(9,true)] (fun z=>Below wr.heap.size wr z) (by kernel_rfl) (by kernel_rfl) rfl (by intro c a d v w h;cases d<;>exact h) ?_
     have hs:Below wr.heap.size wr wr.drew:=(Below.refl _ _).drew
     refine zk (some 139) (.pointer (some ⟨p,o,none⟩)) _ _ rfl rfl rfl (by exact wantA rfl) hs rfl ?_
     go_frame
     refine z8 (some 140) (.pointer (some ⟨p,o,none⟩)) _ rfl rfl (by exact wantA rfl) hs (fun z hz=>by go_simp) ?_
     go_frame
     refine z8 (some 141) (.pointer (some ⟨p,o,none⟩)) _ rfl rfl (by exact wantA rfl) hs (fun z hz=>by go_simp) ?_
     go_frame
     refine z8 (some 142) (.int .i64 k) _ rfl rfl (by exact wantA rfl) hs (fun z hz=>by have e4:=(hz.cell (p:=⟨p,o,none⟩) HPU.out).trans d0;clear hz;go_simp) ?_
     go_frame
     refine zk (some 143) (.slice (some ⟨b0,o0,none⟩) 2 uc) _ _ rfl rfl rfl (by exact wantA rfl) hs rfl ?_
     go_frame
     refine z8 (some 144) (.pointer (some ⟨b0,o0,none⟩)) _ rfl rfl (by exact wantA rfl) hs (fun z hz=>by go_simp) ?_
     go_frame
     refine z8 (some 145) (.agg ⟨ks⟩) _ rfl rfl (by exact wantA rfl) hs (fun z hz=>zw 26 rfl b0 o0 ks _ rfl (zd HKRR.out hz HB0.out) Tryz.underlying26 rfl (by rw[HCLL.out];kernel_rfl)) ?_
     go_frame
     refine zk (some 146) (.slice (some ⟨b0,o0,none⟩) 2 uc) _ _ rfl rfl rfl (by exact wantA rfl) hs rfl ?_
     go_frame
     refine z8 (some 147) (.pointer (some ⟨b0,o0+6,none⟩)) _ rfl rfl (by exact wantA rfl) hs (fun z hz=>by go_simp) ?_
     go_frame
     refine z8 (some 148) (.agg ⟨ks2⟩) _ rfl rfl (by exact wantA rfl) hs (fun z hz=>zw 26 rfl b0 (o0+6) ks2 _ rfl (zd HKRS.out hz HB0.out) Tryz.underlying26 rfl (by rw[HCLM.out];kernel_rfl)) ?_
     go_frame
     refine z06 ?_
     have HED:=I HEU.out.drew
     have HKD:Hid (Kept (fun b=>W.heap.size<=b) wr.drew ks a):=I (HKS.out.to (fun b hp _=>⟨hp,rfl⟩) (Nat.le_refl _))
     have HKD2:Hid (Kept (fun b=>W.heap.size<=b) wr.drew ks2 a2):=I (HKS2.out.to (fun b hp _=>⟨hp,rfl⟩) (Nat.le_refl _))
     have HUS:Hid (W.heap.size<=wr.drew.heap.size):=I HI.out.bel.size
     have HBI:=I (z9F (fun b=>W.heap.size<=b) k a a2 ks ks2 wr.drew HKD.out HKD2.out HRA.out HRB.out)
     clear hs d0
     generalize wr.drew= wd at*
     go_wp2_with (go_at_call 69;fail)
     refine HBI.out.mono ?_
     rintro e z2 (⟨u,cs',hr,rfl,hk,hb⟩|⟨n,hr,rfl,hb⟩)
     ·have HEZ:=I (HED.out.next hb)
      have HKZ:Hid (Kept (fun b=>w.heap.size < b) z2 cs' u):=I (hk.to (fun b hp hlt=>⟨by have h1:=HE0.out.lt;have h2:=HUS.out;rcases hp with h|h<;>omega,rfl⟩) (Nat.le_refl _))
      have HCL:=I (zi hk.val).1
      have HON:=I (zi hk.val).2
      have HRE2:Hid (res= .ok u):=I (HRE.out.trans hr)
      have HRW:Hid (zj u= true):=I (z9Q HRA.out hr)
      clear hk hb hr
      go_wp2_with (((with_reducible refine zh 26 _ _ rfl rfl ?hw (w.heap.size) zV6 (cs') HEZ.out.wb ?h5 ?h6 ?h7 ?h8 ?h9 ?_);(case hw=>(exact wantA rfl));(case h5=>rw[HCL.out];rfl);(case h6=>rfl);(case h7=>rfl);(case h8=>rw[HCL.out];kernel_rfl);(case h9=>exact HON.out);intro Z2 hz hb;have HX:=I hz;have HXB:=I hb;clear hz hb))
      (try simp only[Exit.inBlock,Exit.then])
      refine bodyPost_ret (zl rfl Tryz.underlying26 rfl _ _ (w.heap.size) (cs') (by rw[HCL.out];kernel_rfl) rfl HX.out.range) rfl ?_
      exact .ok HRE2.out rfl (HEZ.out.kept HKZ.out HXB.out) (HRW.out) (HEZ.out.fin HXB.out)
     ·have HRE2:Hid (res= .error n):=I (HRE.out.trans hr)
      have HB:=I hb
      clear hb hr
      go_wp2
      exact⟨rfl,.no HRE2.out rfl (HED.out.next HB.out).bel⟩
  |succ g=>
   have hlt:(j:Int) <(its.length:Int):=by omega
   obtain⟨y,hy⟩:∃ y,its[j]?= some y:=⟨_,List.getElem?_eq_getElem (by omega)⟩
   obtain⟨b,ob,rfl,hev⟩:=HA.out (by omega)
   have HEV:=I (hev j y hy wr (HE0.out.bel.trans (HI.out.bel.mono HE0.out.bel.size)))
   have HY:=I hy
   have HST:=I (zaP (E:=E) (V:=V) hy)
   clear hev hy
   go_upto_region 18 with (fail)
   go_wp2_with (go_at_call 39;fail)
   refine HEV.out.mono ?_
   rintro e u6 (⟨v,cs',hr,rfl,hk6,hrw,hb6⟩|⟨n,hr,rfl,hb6⟩)
   ·obtain⟨hl6,ho6⟩:=zi hk6.val
    have HK6:=I hk6
    have HB6:=I hb6
    have HL6:=I hl6
    have HO6:=I ho6
    have HRW:=I hrw
    have HSQ2:Hid (seqR (zP E V its)=(seqR (zP E V (its.drop (j+1)))).map ((vs ++ [v]) ++ ·)):=I (by rw[HSEQ.out,HST.out,hr];exact z8f _ _ _)
    clear hk6 hb6 hl6 ho6 hrw hr HEV HST d0 d9
    have HC7:Hid (∀ i u,(enc6 ⟨cs',HL6.out⟩)[i]?= some u->(u6.alloc (.cells ⟨cs'⟩ 26)).cell? ⟨u6.heap.size,i,none⟩= some u):=I (z0D u6 cs' 26)
    have HB7:=I (ze u6 (.cells ⟨cs'⟩ 26))
    have HS7:Hid (W.heap.size<=(u6.alloc (.cells ⟨cs'⟩ 26)).heap.size):=I (Nat.le_trans HI.out.bel.size (Nat.le_trans HB6.out.size HB7.out.size))
    have HOW:Hid (OwnSl 26 6 enc6 (u6.alloc (.cells ⟨cs'⟩ 26)) W.heap.size (.slice UA KL.length uc) KL):=I (HI.out.own.below (HB6.out.trans (HB7.out.mono HB6.out.size)))
    have HM63:Hid (KL.length+1<=maxLen):=I (by have:=HLEN.out;have h2:=HKLL.out;have h3:=HVL.out;unfold maxLen;omega)
    have HM88:Hid ((KL.length+1) *88<=140737488355328):=I (by have:=HLEN.out;have h2:=HKLL.out;have h3:=HVL.out;omega)
    go_wp2_with (first|((with_reducible refine z1R 24 _ rfl ?hw3 26 j0 _ cs' ?hx3 Tryz.underlying24 HJ0.out HY0.out ?hs3 ?h03 ?hm3 ?_);(case hw3=>(exact wantA rfl));(case hx3=>rfl);(case hs3=>rw[HL6.out];exact HY1.out);(case h03=>rw[HL6.out];decide);(case hm3=>rw[HL6.out];decide))|(at_builtin;(refine z7p rfl _ _ 24 rfl W.heap.size 26 j0 _ 6 88 enc6 Tryz.underlying24 HJ0.out HY0.out HY1.out HY2.out rfl (by decide) z0o (.slice UA KL.length uc) KL rfl HOW.out u6.heap.size 1 ⟨cs',HL6.out⟩ HO6.out rfl HC7.out HM63.out HM88.out HS7.out ?_;intro v' u8 hown hg hblk;have HN:=I (RowInv.next (k:=⟨cs',HL6.out⟩) HI.out (Below.refl _ _) HB6.out HB7.out HK6.out hown hg hblk);clear hown hg hblk)))
    go_roundg g
    case measure=>omega
    case rel=>
     have hb:=HLEN.out
     have hq:wrap64 ((j:Int)+1)=((j+1:Nat):Int):=by unfold wrap64;omega
     refine⟨j+1,vs ++ [v],KL ++ [⟨cs',HL6.out⟩],?_,?_,?_,HSQ2.out,z9j HRI.out HRW.out,HN.out⟩
     ·omega
     ·first|rw[hq]|rfl
     ·rw[List.length_append,HVL.out];rfl
   ·have HB6:=I hb6
    have HRE:Hid (res= .error n):=I (by rw[HRES.out,HSEQ.out,HST.out,hr];rfl)
    clear hb6 hr HEV HST d0 d9
    go_wp2
    exact⟨rfl,.no HRE.out rfl (HEU.out.next HB6.out).bel⟩
end
end
section
open Go Go.RowKit
theorem zaX {k:Int} {s:ByteArray} {ns:List ByteArray} {nk:Nat} (h:zL k s ns nk= true):ns.length<=nk:=by
 unfold zL at h
 split at h
 ·simp only[Bool.and_eq_true,beq_iff_eq] at h;omega
 split at h
 ·simp only[Bool.and_eq_true,beq_iff_eq] at h;omega
 split at h
 ·simp only[Bool.and_eq_true,beq_iff_eq] at h;omega
 ·simp only[Bool.and_eq_true,beq_iff_eq] at h;omega
theorem lenE2 {l:List ET} (h:l.length= 2):∃ a b,l=[a,b]:=by
 match l,h with
 |[a,b],_=>exact⟨a,b,rfl⟩
theorem lenE3 {l:List ET} (h:l.length= 3):∃ a b c,l=[a,b,c]:=by
 match l,h with
 |[a,b,c],_=>exact⟨a,b,c,rfl⟩
theorem zaO {k:Int} {n:Nat} (h:kidsB (z0r k) n= true):((k= 1\/k= 2)/\n= 0)\/((k= 3\/k= 4\/k= 18\/(20<=k/\k<=23))/\n= 1)\/(((5<=k/\k<=14)\/k= 19)/\n= 2)\/(k= 15/\n= 3)\/(k= 16\/k= 17):=by
 unfold kidsB at h
 simp only[Bool.and_eq_true,Bool.not_eq_true',beq_eq_false_iff_ne,Bool.or_eq_true,decide_eq_true_eq,beq_iff_eq] at h
 unfold z0r at h
 (repeat' split at h)<;>omega
theorem z9Y (mp:Nat) (va vb:Value) (E:List VarT) (V:List VT):∀ (t:ET) (d:Nat) (cs:List Value) (p o:Nat) (w:World),z04 t d= true->szE t<=200->w.rangeAt p o cs->p < w.heap.size->ExpAt w w.heap.size cs t->MacAt w mp va vb E V->
  Calls Tryz.prog 39 #[.pointer (some ⟨mp,0,none⟩),.pointer (some ⟨p,o,none⟩)] w (EvPost (evalE E V t) w):=by
 intro t
 induction t using ET.ind with
 |h k s v ns its ih=>
  intro d cs p o w hr hsz hrg hp hv hm
  rw[z04] at hr
  simp only[Bool.and_eq_true,decide_eq_true_eq] at hr
  obtain⟨_,hk,hnm,hval,hrl⟩:=hr
  rw[z4x] at hrl
  rw[szE] at hsz
  have hlen:its.length<=199:=by have:=z81 its;omega
  obtain⟨v0,v1,v2,v3,v4,v5,vn,vi,rfl,_,hs,hvv,hns,hil,hi⟩:=hv.inv
  obtain⟨_,A,c,rfl,hA⟩:=hi
  have hEV:0 < its.length->∃ b ob,A= some ⟨b,ob,none⟩/\∀ j x,its[j]?= some x->EvAt mp b (ob+j*10) w (evalE E V x):=fun h0=>by
   obtain⟨b,ob,rfl,hb,hc⟩:=hA h0
   refine⟨b,ob,rfl,fun j x hx u hu=> ?_⟩
   obtain⟨ks,hkl,hkr,hkv⟩:=hc j x hx
   have hmem:=List.mem_of_getElem? hx
   exact ih x hmem (d+1) ks b (ob+j*10) u (hrl x hmem) (by have:=z7W hmem;omega) (zd hkr hu hb) (Nat.lt_of_lt_of_le hb hu.size) ((hkv.under hu).more hu.size) (hm.below hu)
  have hnl:ns.length<=1000:=by have:=zaX hnm;omega
  rcases zaO hk with ⟨hk',_⟩|⟨hk',hn⟩|⟨hk',hn⟩|⟨hk',hn⟩|hk'
  ·rcases hk' with rfl|rfl
   ·unfold valB at hval
    rw[if_pos rfl] at hval
    rw[evalE,if_pos rfl]
    exact zcm mp va vb E V p o w s v v0 v1 v2 v3 v4 v5 vn _ hrg hp hvv hval hm
   ·rw[evalE,if_neg (by decide),if_pos rfl]
    exact zdF mp va vb E V p o w s v0 v1 v2 v3 v4 v5 vn _ hrg hp hm
  ·exact z61 mp va vb E V p o w k s v0 v1 v2 v3 v4 v5 vn A c ns its (by simp;omega) (by simp;omega) (by simp;omega) (by simp;omega) (by simp;omega) hlen (.inr ⟨by omega,by omega,.inl hn⟩) hrg hp hns hnl hEV hm (z3l ⟨by omega,by omega,by omega⟩)
  ·by_cases h13:k= 13\/k= 14
   ·obtain⟨x,y,rfl⟩:=lenE2 hn
    obtain⟨b,ob,rfl,he⟩:=hEV (by simp)
    have e0:=he 0 x rfl
    have e1:=he 1 y rfl
    rw[Nat.zero_mul,Nat.add_zero] at e0
    rw[Nat.one_mul] at e1
    rcases h13 with rfl|rfl
    ·refine ze8 mp va vb E V p o w s v0 v1 v2 v3 v4 v5 vn b ob c _ _ _ ?_ hrg hp e0 e1 hm
     rw[evalE,zP,zP,zP,if_neg (by decide),if_neg (by decide),if_pos (by decide)]
    ·refine ev_or mp va vb E V p o w s v0 v1 v2 v3 v4 v5 vn b ob c _ _ _ ?_ hrg hp e0 e1 hm
     rw[evalE,zP,zP,zP,if_neg (by decide),if_neg (by decide),if_pos (by decide)]
   ·exact z61 mp va vb E V p o w k s v0 v1 v2 v3 v4 v5 vn A c ns its (by simp;omega) (by simp;omega) (by simp;omega) (by simp;omega) (by simp;omega) hlen (.inr ⟨by omega,by omega,.inr hn⟩) hrg hp hns hnl hEV hm (z3l ⟨by omega,by omega,by omega⟩)
  ·subst hk'
   obtain⟨x,y,z,rfl⟩:=lenE3 hn
   obtain⟨b,ob,rfl,he⟩:=hEV (by simp)
   have e0:=he 0 x rfl
   have e1:=he 1 y rfl
   have e2:=he 2 z rfl
   rw[Nat.zero_mul,Nat.add_zero] at e0
   rw[Nat.one_mul] at e1
   refine ev_if mp va vb E V p o w s v0 v1 v2 v3 v4 v5 vn b ob c _ _ _ _ ?_ hrg hp e0 e1 e2 hm
   rw[evalE,zP,zP,zP,zP,if_neg (by decide),if_neg (by decide),if_pos (by decide)]
  ·exact z61 mp va vb E V p o w k s v0 v1 v2 v3 v4 v5 vn A c ns its (by simp;omega) (by simp;omega) (by simp;omega) (by simp;omega) (by simp;omega) hlen (.inl hk') hrg hp hns hnl hEV hm (z3l ⟨by omega,by omega,by omega⟩)
end
end Go.Proofs.YtmpbepjjbaeebaaGreatDoor
