/- Parts of a proof: Prim, ParL, Prim2. -/
import Derived.Test.YtmpbepjjbaeebaaGreatDoorPackM25
set_option maxHeartbeats 8000000
set_option maxRecDepth 100000
set_option linter.unusedVariables false
set_option linter.unusedSimpArgs false
section
namespace Go.Proofs.YtmpbepjjbaeebaaGreatDoor
open Go Go.RowKit
open Go.Lib (hid)
section
variable {P:Program} {ops:Array Oper} {S:World→Prop} {Q:Exit→Act→World→Prop} {i:Nat} {r:List (Nat × Bool)} {o:Oper} {a:Act} {w:World}
theorem exec_alloc (T:TypeId) (ho:o.op= .alloc T) (j:TypeInfo) (z:Value) (hi:P.info? T= some j) (hz:j.zero= some z):
  (execOp a.eval o).run P w= .ok (.value (.pointer (some ⟨w.heap.size,0,none⟩))) (w.alloc (.cells z.cells T)):=by
 have hzv:(zeroValue T).run P w= .ok z w:=by simp[zeroValue,typeInfo,hi,hz]
 unfold execOp
 simp only[ho,Instr.alloc,Sem.run_bind,hzv,Result.andThen_ok]
 simp[newVar,newRow]
theorem ord_wstore (d:Option Tmp) (T:TypeId) (o:Oper) (x y:Operand) (hi:ops[i]?= some o) (ho:o.op= .store T x y) (hd:o.dst= d) (hw:Region.wanted o (yielded ops a.tmps)= true) (b:Nat) (cs0 cs:List Value) (hb:Whole T w b cs0) (hl:cs0.length= cs.length)
  (hx:a.eval x= .pointer (some ⟨b,0,none⟩)) (hy:a.eval y= .agg cs.toArray) (hi2:(P.info? T).map (·.size)= some cs.length) (h1:∀ v∈cs,v.oneCell'= true)
  (h:∀ Z,Whole T Z b cs→But w Z b b→S Z∧wpOrd P ops S Q r (a.put d undef) Z):wpOrd P ops S Q ((i,false)::r) a w:=by
 subst hd
 refine ord_act o hi hw fun K hK=> ?_
 have hz:=h (w.setCells b 0 cs) (heap_set_row b T cs [] cs0 w hb hl) (but_sets b cs w 0)
 exact wp_store_mid T x y ho b 0 cs.toArray hx hy (by rw[List.size_toArray,← hl];exact hb.there) (by simpa using hi2) (all_oneCell_toArray h1) (by simpa using hK _ _ hz.1 hz.2)
end
theorem tok_one (t:Tok):∀ v∈tokC t,v.oneCell'= true:=by
 intro v hv;simp only[tokC,List.mem_cons,List.not_mem_nil,or_false] at hv;rcases hv with rfl|rfl|rfl|rfl|rfl|rfl<;>rfl
theorem info_tok:(Tryz.prog.info? 156).map (fun i=>(i.zero,i.size,i.bytes))= some (some (.agg (tokC ⟨0,0,0,0,0,⟨#[]⟩⟩).toArray),6,56):=by kernel_rfl
def plainB (s:ByteArray):Bool:=!(s.toList ==[116,114,117,101]) && (!(s.toList ==[102,97,108,115,101]) && (!(s.toList ==[108,101,110]) && (!(s.toList ==[102,108,111,97,116]) && (!(s.toList ==[105,110,116]) && !(s.toList ==[115,116,114])))))
theorem Whole.cells {T:TypeId} {w:World} {b:Nat} {cs:List Value} (h:Whole T w b cs) (k:Nat) {v:Value} (hv:cs[k]?= some v):w.cell? ⟨b,k,none⟩= some v:=by
 have:=h.range k v hv
 rwa [Nat.zero_add] at this
theorem PS.under {T:TypeId} {pb tb c:Nat} {E:Int} {toks:List Tok} {w w':World} {i:Nat} {d:Int} (h:PS T pb tb c E toks w i d) (b:Nat) (hp:b≠pb) (ht:b≠tb) (hb:But w w' b b):PS T pb tb c E toks w' i d:=
 ⟨(hb.block pb h.lt.2 (Ne.symm hp) (Ne.symm hp)).trans h.blk,h.ne,⟨Nat.lt_of_lt_of_le h.lt.1 hb.size,Nat.lt_of_lt_of_le h.lt.2 hb.size⟩,fun j t hj a v hv=>(hb.cell h.lt.1 (Ne.symm ht) (Ne.symm ht)).trans (h.tok j t hj a v hv),h.len⟩
theorem but_last {w z Z:World} {p pb:Nat} (h:But w z pb pb) (k:But z Z p p) (hp:w.heap.size≤p):But w Z pb pb:=
 ⟨k.os.trans h.os,k.tape.trans h.tape,k.output.trans h.output,Nat.le_trans h.size k.size,fun b hb h1 h2=>(k.block b (Nat.lt_of_lt_of_le hb h.size) (by omega) (by omega)).trans (h.block b hb h1 h2)⟩
section
variable {pb tb c:Nat} {E:Int} {toks:List Tok} {w:World} {i:Nat} {d:Int}
theorem prim_int (t:Tok) (ht:toks[i]?= some t) (hk:t.kind= 2) (h:PSt pb tb c E toks w i d):
  Calls Tryz.prog 250 #[.pointer (some ⟨pb,0,none⟩)] w fun e w'=>e= .returned (.agg ⟨conC 2 t.n 0 ⟨#[]⟩⟩)∧PSt pb tb c E toks w' (i+1) d∧But w w' pb pb:=by
 obtain⟨i0,hi0,hz0,hz1,hz2⟩:=info_parts info_tok
 have hno:∀ s,isB toks i s= false:=fun s=>by unfold isB;rw[ht];show(decide (t.kind= 6) && _)= false;rw[hk];rfl
 have HNO:=hid hno
 have hil:i < toks.length:=(List.getElem?_eq_some_iff.1 ht).1
 have HIL:=hid hil
 have hlen:=h.len
 have HT:=hid ht
 have HK:=hid hk
 have H:=hid h
 have d3:=h.cell 3
 simp only[List.getElem?_toArray,List.getElem?_cons_succ,List.getElem?_cons_zero] at d3
 clear hno hk ht h hil
 go_enter Tryz.func250,Tryz.ntmps250
 go_upto_region 1 with (fail)
 have HR0:=hid (Whole.new w zEc 29)
 have HB0:=hid (box_below w (.cells zEc.toArray 29))
 have hz:(#[Value.int IntKind.i64 0,Value.string { data:= #[] },Value.int IntKind.i64 0,Value.int IntKind.i64 0,Value.float FloatKind.f64 0,Value.string { data:= #[] },Value.slice none 0 0,Value.slice none 0 0,Value.slice none 0 0,Value.slice none 0 0]:Array Value)= zEc.toArray:=rfl
 rw[hz]
 clear hz
 have HRW:Hid (w.heap.size <(w.alloc (.cells zEc.toArray 29)).heap.size):=hid (by simp)
 generalize w.alloc (.cells zEc.toArray 29)= W at*
 obtain⟨p,hp⟩:∃ p,w.heap.size= p:=⟨_,rfl⟩
 rw[hp] at HR0 HRW
 rw[hp]
 have HP:=hid hp
 have HS0:=hid (H.out.keep HB0.out)
 have HPN:Hid (p≠pb∧p≠tb):=hid ⟨by have:=H.out.lt;omega,by have:=H.out.lt;omega⟩
 have d3':=HS0.out.cell 3
 simp only[List.getElem?_toArray,List.getElem?_cons_succ,List.getElem?_cons_zero] at d3'
 clear hp d3
 go_upto_region 3 with (fail)
 clear d3'
 go_upto_region 7 with (go_at_call 143;refine(take_no HS0.out (HNO.out _)).mono ?_;rintro e w1 ⟨rfl,h1,h2⟩;have HS1:=hid h1;have HB1:=hid h2;clear h1 h2)
 go_upto_region 9 with (go_at_call 143;refine(take_no HS1.out (HNO.out _)).mono ?_;rintro e w2 ⟨rfl,h1,h2⟩;have HS2:=hid h1;have HB2:=hid h2;clear h1 h2)
 go_upto_region 11 with (go_at_call 143;refine(take_no HS2.out (HNO.out _)).mono ?_;rintro e w3 ⟨rfl,h1,h2⟩;have HS3:=hid h1;have HB3:=hid h2;clear h1 h2)
 have HB03:=hid (HB1.out.trans (HB2.out.trans HB3.out))
 clear HB1 HB2 HB3 HS1 HS2
 have d0:=HS3.out.cell 0
 have d1:=HS3.out.cell 1
 simp only[List.getElem?_toArray,List.getElem?_cons_succ,List.getElem?_cons_zero] at d0 d1
 have c0:w3.cell? ⟨tb,i*6,none⟩= some (.int .i64 2):=(HS3.out.tok i t HT.out 0 _ rfl).trans (by rw[HK.out])
 have q1: ¬ ((toks.length:Int)≤(i:Int)):=by have:=HIL.out;omega
 have q2:(i:Int) <(toks.length:Int):=by have:=HIL.out;omega
 go_quiet (fail)
 have HBQ:Hid (Below w3.heap.size w3 (w3.drewN nq)):=hid ⟨rfl,rfl,rfl,Nat.le_refl _,fun _ _=>rfl⟩
 generalize w3.drewN nq= w4 at*
 have HS4:=hid (HS3.out.keep HBQ.out)
 have HB04:=hid (HB03.out.trans (But.of_below HBQ.out pb pb))
 clear d0 d1 c0 HBQ HS3 HB03
 go_upto_region 14 with (fail)
 have d0:=HS4.out.cell 0
 have d1:=HS4.out.cell 1
 simp only[List.getElem?_toArray,List.getElem?_cons_succ,List.getElem?_cons_zero] at d0 d1
 have ht6:=HS4.out.tok i t HT.out
 have HS4D:=hid (HS4.out.keep (Below.refl _ w4).drew)
 have hs:PSt pb tb c E toks w4.drew i d:=HS4D.out
 clear d0 d1 ht6
 refine wp_region_ord [(0,true),(1,true),(2,true),(3,true),(4,true),(5,true),(6,true),(7,true),(8,true),(9,true),(10,false),(11,false)]
  (fun z=>PSt pb tb c E toks z i d) (by kernel_rfl) (by kernel_rfl) (by kernel_rfl) rfl (by intro c a d v w h;cases d<;>exact h) ?_
 refine ord_move (some 57) (.pointer (some ⟨pb,0,none⟩)) _ _ rfl rfl rfl (by first|exact wanted_none rfl|exact wanted_if rfl rfl rfl rfl) hs rfl ?_
 go_frame
 refine ord_load (some 58) (.pointer (some ⟨pb,0,none⟩)) _ rfl rfl (by first|exact wanted_none rfl|exact wanted_if rfl rfl rfl rfl) hs (fun z hz=>by go_simp) ?_
 go_frame
 refine ord_load (some 59) (.pointer (some ⟨pb,0,none⟩)) _ rfl rfl (by first|exact wanted_none rfl|exact wanted_if rfl rfl rfl rfl) hs (fun z hz=>by go_simp) ?_
 go_frame
 refine ord_load (some 60) (.slice (some ⟨tb,0,none⟩) toks.length c) _ rfl rfl (by first|exact wanted_none rfl|exact wanted_if rfl rfl rfl rfl) hs (fun z hz=>by have d0:=hz.cell 0;simp only[List.getElem?_toArray,List.getElem?_cons_zero] at d0;clear hz;go_simp) ?_
 go_frame
 refine ord_move (some 61) (.pointer (some ⟨pb,0,none⟩)) _ _ rfl rfl rfl (by first|exact wanted_none rfl|exact wanted_if rfl rfl rfl rfl) hs rfl ?_
 go_frame
 refine ord_load (some 62) (.pointer (some ⟨pb,0,none⟩)) _ rfl rfl (by first|exact wanted_none rfl|exact wanted_if rfl rfl rfl rfl) hs (fun z hz=>by go_simp) ?_
 go_frame
 refine ord_load (some 63) (.pointer (some ⟨pb,1,none⟩)) _ rfl rfl (by first|exact wanted_none rfl|exact wanted_if rfl rfl rfl rfl) hs (fun z hz=>by go_simp) ?_
 go_frame
 refine ord_load (some 64) (.int .i64 i) _ rfl rfl (by first|exact wanted_none rfl|exact wanted_if rfl rfl rfl rfl) hs (fun z hz=>by have d1:=hz.cell 1;simp only[List.getElem?_toArray,List.getElem?_cons_succ,List.getElem?_cons_zero] at d1;clear hz;go_simp) ?_
 go_frame
 refine ord_load (some 65) (.pointer (some ⟨tb,i*6,none⟩)) _ rfl rfl (by first|exact wanted_none rfl|exact wanted_if rfl rfl rfl rfl) hs (fun z hz=>by go_simp) ?_
 go_frame
 refine ord_load (some 66) (.agg ⟨tokC t⟩) _ rfl rfl (by first|exact wanted_none rfl|exact wanted_if rfl rfl rfl rfl) hs (fun z hz=>exec_sload 156 rfl tb (i*6) (tokC t) _ rfl (hz.tok i t HT.out) Tryz.underlying156 rfl (by kernel_rfl)) ?_
 go_frame
 have hn:=hs.keep (box_below w4.drew (.cells (tokC ⟨0,0,0,0,0,⟨#[]⟩⟩).toArray 156))
 refine ord_run (some 4) (.pointer (some ⟨w4.drew.heap.size,0,none⟩)) (w4.drew.alloc (.cells (tokC ⟨0,0,0,0,0,⟨#[]⟩⟩).toArray 156)) _ rfl rfl (by first|exact wanted_none rfl|exact wanted_if rfl rfl rfl rfl) (exec_alloc 156 rfl i0 _ hi0 hz0) hn ?_
 go_frame
 refine ord_wstore none 156 _ _ _ rfl rfl rfl (by first|exact wanted_none rfl|exact wanted_if rfl rfl rfl rfl) w4.drew.heap.size (tokC ⟨0,0,0,0,0,⟨#[]⟩⟩) (tokC t) (Whole.new _ _ _) rfl rfl rfl (by kernel_rfl) (tok_one t) ?_
 intro w5 hw5 hb5
 have hq5:w4.drew.heap.size≠pb∧w4.drew.heap.size≠tb:=⟨by have:=hs.lt;omega,by have:=hs.lt;omega⟩
 have hs5:=hn.under w4.drew.heap.size hq5.1 hq5.2 hb5
 refine⟨hs5,?_⟩
 go_frame
 refine ord_end ?_
 have HB45:Hid (Below w4.heap.size w4 w5):=hid (((Below.refl _ w4).drew.trans (box_below w4.drew _)).trans (hb5.below (B:=w4.heap.size) (by simp) (Nat.le_refl _) (Nat.le_refl _)))
 have HB05:=hid (HB04.out.trans (But.of_below HB45.out pb pb))
 have HS5:=hid hs5
 obtain⟨qb,hqb⟩:∃ q,w4.drew.heap.size= q:=⟨_,rfl⟩
 rw[hqb] at hw5 hq5
 have HQ5:=hid hq5
 have HT5:=hid hw5
 rw[hqb]
 clear hs hn hs5 hb5 hw5 hq5 hqb HB04 HB45
 have HR5:=hid (HR0.out.keep (HB05.out.block p HRW.out HPN.out.1 HPN.out.1))
 go_upto_region 15 with (fail)
 have d1:=HS5.out.cell 1
 have f1:=HS5.out.thaw 1
 simp only[List.getElem?_toArray,List.getElem?_cons_succ,List.getElem?_cons_zero] at d1
 have HS6:=hid (HS5.out.setI (i+1))
 have HB6:=hid (But.setAt w5 pb 1 (.int .i64 ((i+1:Nat):Int)))
 have HT6:=hid (HT5.out.keep (HB6.out.block qb HT5.out.lt HQ5.out.1 HQ5.out.1))
 have HR6:=hid (HR5.out.keep (HB6.out.block p HR5.out.lt HPN.out.1 HPN.out.1))
 have hcs:w5.setCell ⟨pb,1,none⟩ (.int .i64 ((i+1:Nat):Int))= w5.setCell ⟨pb,1,none⟩ (.int .i64 ((i:Int)+1)):=rfl
 rw[hcs] at HS6 HB6 HT6 HR6
 clear hcs
 go_upto_region 16 with (fail)
 generalize w5.setCell ⟨pb,1,none⟩ (.int .i64 ((i:Int)+1))= w6 at*
 clear d1 f1
 have HB06:=hid (HB05.out.trans HB6.out)
 have k0:w6.cell? ⟨qb,0,none⟩= some (.int .i64 2):=(HT6.out.cells 0 rfl).trans (by rw[HK.out])
 have k3:w6.cell? ⟨qb,3,none⟩= some (.int .i64 t.n):=HT6.out.cells 3 rfl
 go_wp2_with (first
  |(go_at_call 254;refine(con_raw 2 t.n 0 ⟨#[]⟩ w6).mono ?_;rintro e z ⟨rfl,hb⟩;have HBZ:=hid hb;have HRZ:=hid (HR6.out.keep (hb.block p HR6.out.lt));clear hb)
  |((with_reducible refine wl_wstore 29 _ _ rfl rfl ?hwd p zEc (conC 2 t.n 0 ⟨#[]⟩) HRZ.out ?hs5 ?hs6 ?hs7 ?hs8 ?hs9 ?_);(case hwd=>first|exact wanted_none rfl|exact wanted_if rfl rfl rfl rfl);(case hs5=>rfl);(case hs6=>rfl);(case hs7=>rfl);(case hs8=>kernel_rfl);(case hs9=>exact con_one 2 t.n 0 ⟨#[]⟩);intro Z hz hb;have HZ:=hid hz;have HZB:=hid hb;clear hz hb))
 (try simp only[Exit.inBlock,Exit.then])
 refine bodyPost_ret (results_exp rfl _ _ p (conC 2 t.n 0 ⟨#[]⟩) (con_len 2 t.n 0 ⟨#[]⟩) rfl HZ.out) rfl ?_
 have hp:=HP.out
 have hbz:=(But.of_below HB0.out pb pb).trans (HB06.out.trans (But.of_below HBZ.out pb pb))
 exact⟨rfl,(HS6.out.keep HBZ.out).under p HPN.out.1 HPN.out.2 HZB.out,but_last hbz HZB.out (by omega)⟩
theorem prim_flt (t:Tok) (ht:toks[i]?= some t) (hk:t.kind= 3) (h:PSt pb tb c E toks w i d):
  Calls Tryz.prog 250 #[.pointer (some ⟨pb,0,none⟩)] w fun e w'=>e= .returned (.agg ⟨conC 3 0 t.f ⟨#[]⟩⟩)∧PSt pb tb c E toks w' (i+1) d∧But w w' pb pb:=by
 obtain⟨i0,hi0,hz0,hz1,hz2⟩:=info_parts info_tok
 have hno:∀ s,isB toks i s= false:=fun s=>by unfold isB;rw[ht];show(decide (t.kind= 6) && _)= false;rw[hk];rfl
 have HNO:=hid hno
 have hil:i < toks.length:=(List.getElem?_eq_some_iff.1 ht).1
 have HIL:=hid hil
 have hlen:=h.len
 have HT:=hid ht
 have HK:=hid hk
 have H:=hid h
 have d3:=h.cell 3
 simp only[List.getElem?_toArray,List.getElem?_cons_succ,List.getElem?_cons_zero] at d3
 clear hno hk ht h hil
 go_enter Tryz.func250,Tryz.ntmps250
 go_upto_region 1 with (fail)
 have HR0:=hid (Whole.new w zEc 29)
 have HB0:=hid (box_below w (.cells zEc.toArray 29))
 have hz:(#[Value.int IntKind.i64 0,Value.string { data:= #[] },Value.int IntKind.i64 0,Value.int IntKind.i64 0,Value.float FloatKind.f64 0,Value.string { data:= #[] },Value.slice none 0 0,Value.slice none 0 0,Value.slice none 0 0,Value.slice none 0 0]:Array Value)= zEc.toArray:=rfl
 rw[hz]
 clear hz
 have HRW:Hid (w.heap.size <(w.alloc (.cells zEc.toArray 29)).heap.size):=hid (by simp)
 generalize w.alloc (.cells zEc.toArray 29)= W at*
 obtain⟨p,hp⟩:∃ p,w.heap.size= p:=⟨_,rfl⟩
 rw[hp] at HR0 HRW
 rw[hp]
 have HP:=hid hp
 have HS0:=hid (H.out.keep HB0.out)
 have HPN:Hid (p≠pb∧p≠tb):=hid ⟨by have:=H.out.lt;omega,by have:=H.out.lt;omega⟩
 have d3':=HS0.out.cell 3
 simp only[List.getElem?_toArray,List.getElem?_cons_succ,List.getElem?_cons_zero] at d3'
 clear hp d3
 go_upto_region 3 with (fail)
 clear d3'
 go_upto_region 7 with (go_at_call 143;refine(take_no HS0.out (HNO.out _)).mono ?_;rintro e w1 ⟨rfl,h1,h2⟩;have HS1:=hid h1;have HB1:=hid h2;clear h1 h2)
 go_upto_region 9 with (go_at_call 143;refine(take_no HS1.out (HNO.out _)).mono ?_;rintro e w2 ⟨rfl,h1,h2⟩;have HS2:=hid h1;have HB2:=hid h2;clear h1 h2)
 go_upto_region 11 with (go_at_call 143;refine(take_no HS2.out (HNO.out _)).mono ?_;rintro e w3 ⟨rfl,h1,h2⟩;have HS3:=hid h1;have HB3:=hid h2;clear h1 h2)
 have HB03:=hid (HB1.out.trans (HB2.out.trans HB3.out))
 clear HB1 HB2 HB3 HS1 HS2
 have d0:=HS3.out.cell 0
 have d1:=HS3.out.cell 1
 simp only[List.getElem?_toArray,List.getElem?_cons_succ,List.getElem?_cons_zero] at d0 d1
 have c0:w3.cell? ⟨tb,i*6,none⟩= some (.int .i64 3):=(HS3.out.tok i t HT.out 0 _ rfl).trans (by rw[HK.out])
 have q1: ¬ ((toks.length:Int)≤(i:Int)):=by have:=HIL.out;omega
 have q2:(i:Int) <(toks.length:Int):=by have:=HIL.out;omega
 go_quiet (fail)
 have HBQ:Hid (Below w3.heap.size w3 (w3.drewN nq)):=hid ⟨rfl,rfl,rfl,Nat.le_refl _,fun _ _=>rfl⟩
 generalize w3.drewN nq= w4 at*
 have HS4:=hid (HS3.out.keep HBQ.out)
 have HB04:=hid (HB03.out.trans (But.of_below HBQ.out pb pb))
 clear d0 d1 c0 HBQ HS3 HB03
 go_upto_region 14 with (fail)
 have d0:=HS4.out.cell 0
 have d1:=HS4.out.cell 1
 simp only[List.getElem?_toArray,List.getElem?_cons_succ,List.getElem?_cons_zero] at d0 d1
 have ht6:=HS4.out.tok i t HT.out
 have HS4D:=hid (HS4.out.keep (Below.refl _ w4).drew)
 have hs:PSt pb tb c E toks w4.drew i d:=HS4D.out
 clear d0 d1 ht6
 refine wp_region_ord [(0,true),(1,true),(2,true),(3,true),(4,true),(5,true),(6,true),(7,true),(8,true),(9,true),(10,false),(11,false)]
  (fun z=>PSt pb tb c E toks z i d) (by kernel_rfl) (by kernel_rfl) (by kernel_rfl) rfl (by intro c a d v w h;cases d<;>exact h) ?_
 refine ord_move (some 57) (.pointer (some ⟨pb,0,none⟩)) _ _ rfl rfl rfl (by first|exact wanted_none rfl|exact wanted_if rfl rfl rfl rfl) hs rfl ?_
 go_frame
 refine ord_load (some 58) (.pointer (some ⟨pb,0,none⟩)) _ rfl rfl (by first|exact wanted_none rfl|exact wanted_if rfl rfl rfl rfl) hs (fun z hz=>by go_simp) ?_
 go_frame
 refine ord_load (some 59) (.pointer (some ⟨pb,0,none⟩)) _ rfl rfl (by first|exact wanted_none rfl|exact wanted_if rfl rfl rfl rfl) hs (fun z hz=>by go_simp) ?_
 go_frame
 refine ord_load (some 60) (.slice (some ⟨tb,0,none⟩) toks.length c) _ rfl rfl (by first|exact wanted_none rfl|exact wanted_if rfl rfl rfl rfl) hs (fun z hz=>by have d0:=hz.cell 0;simp only[List.getElem?_toArray,List.getElem?_cons_zero] at d0;clear hz;go_simp) ?_
 go_frame
 refine ord_move (some 61) (.pointer (some ⟨pb,0,none⟩)) _ _ rfl rfl rfl (by first|exact wanted_none rfl|exact wanted_if rfl rfl rfl rfl) hs rfl ?_
 go_frame
 refine ord_load (some 62) (.pointer (some ⟨pb,0,none⟩)) _ rfl rfl (by first|exact wanted_none rfl|exact wanted_if rfl rfl rfl rfl) hs (fun z hz=>by go_simp) ?_
 go_frame
 refine ord_load (some 63) (.pointer (some ⟨pb,1,none⟩)) _ rfl rfl (by first|exact wanted_none rfl|exact wanted_if rfl rfl rfl rfl) hs (fun z hz=>by go_simp) ?_
 go_frame
 refine ord_load (some 64) (.int .i64 i) _ rfl rfl (by first|exact wanted_none rfl|exact wanted_if rfl rfl rfl rfl) hs (fun z hz=>by have d1:=hz.cell 1;simp only[List.getElem?_toArray,List.getElem?_cons_succ,List.getElem?_cons_zero] at d1;clear hz;go_simp) ?_
 go_frame
 refine ord_load (some 65) (.pointer (some ⟨tb,i*6,none⟩)) _ rfl rfl (by first|exact wanted_none rfl|exact wanted_if rfl rfl rfl rfl) hs (fun z hz=>by go_simp) ?_
 go_frame
 refine ord_load (some 66) (.agg ⟨tokC t⟩) _ rfl rfl (by first|exact wanted_none rfl|exact wanted_if rfl rfl rfl rfl) hs (fun z hz=>exec_sload 156 rfl tb (i*6) (tokC t) _ rfl (hz.tok i t HT.out) Tryz.underlying156 rfl (by kernel_rfl)) ?_
 go_frame
 have hn:=hs.keep (box_below w4.drew (.cells (tokC ⟨0,0,0,0,0,⟨#[]⟩⟩).toArray 156))
 refine ord_run (some 4) (.pointer (some ⟨w4.drew.heap.size,0,none⟩)) (w4.drew.alloc (.cells (tokC ⟨0,0,0,0,0,⟨#[]⟩⟩).toArray 156)) _ rfl rfl (by first|exact wanted_none rfl|exact wanted_if rfl rfl rfl rfl) (exec_alloc 156 rfl i0 _ hi0 hz0) hn ?_
 go_frame
 refine ord_wstore none 156 _ _ _ rfl rfl rfl (by first|exact wanted_none rfl|exact wanted_if rfl rfl rfl rfl) w4.drew.heap.size (tokC ⟨0,0,0,0,0,⟨#[]⟩⟩) (tokC t) (Whole.new _ _ _) rfl rfl rfl (by kernel_rfl) (tok_one t) ?_
 intro w5 hw5 hb5
 have hq5:w4.drew.heap.size≠pb∧w4.drew.heap.size≠tb:=⟨by have:=hs.lt;omega,by have:=hs.lt;omega⟩
 have hs5:=hn.under w4.drew.heap.size hq5.1 hq5.2 hb5
 refine⟨hs5,?_⟩
 go_frame
 refine ord_end ?_
 have HB45:Hid (Below w4.heap.size w4 w5):=hid (((Below.refl _ w4).drew.trans (box_below w4.drew _)).trans (hb5.below (B:=w4.heap.size) (by simp) (Nat.le_refl _) (Nat.le_refl _)))
 have HB05:=hid (HB04.out.trans (But.of_below HB45.out pb pb))
 have HS5:=hid hs5
 obtain⟨qb,hqb⟩:∃ q,w4.drew.heap.size= q:=⟨_,rfl⟩
 rw[hqb] at hw5 hq5
 have HQ5:=hid hq5
 have HT5:=hid hw5
 rw[hqb]
 clear hs hn hs5 hb5 hw5 hq5 hqb HB04 HB45
 have HR5:=hid (HR0.out.keep (HB05.out.block p HRW.out HPN.out.1 HPN.out.1))
 go_upto_region 15 with (fail)
 have d1:=HS5.out.cell 1
 have f1:=HS5.out.thaw 1
 simp only[List.getElem?_toArray,List.getElem?_cons_succ,List.getElem?_cons_zero] at d1
 have HS6:=hid (HS5.out.setI (i+1))
 have HB6:=hid (But.setAt w5 pb 1 (.int .i64 ((i+1:Nat):Int)))
 have HT6:=hid (HT5.out.keep (HB6.out.block qb HT5.out.lt HQ5.out.1 HQ5.out.1))
 have HR6:=hid (HR5.out.keep (HB6.out.block p HR5.out.lt HPN.out.1 HPN.out.1))
 have hcs:w5.setCell ⟨pb,1,none⟩ (.int .i64 ((i+1:Nat):Int))= w5.setCell ⟨pb,1,none⟩ (.int .i64 ((i:Int)+1)):=rfl
 rw[hcs] at HS6 HB6 HT6 HR6
 clear hcs
 go_upto_region 16 with (fail)
 generalize w5.setCell ⟨pb,1,none⟩ (.int .i64 ((i:Int)+1))= w6 at*
 clear d1 f1
 have HB06:=hid (HB05.out.trans HB6.out)
 have k0:w6.cell? ⟨qb,0,none⟩= some (.int .i64 3):=(HT6.out.cells 0 rfl).trans (by rw[HK.out])
 have k4:w6.cell? ⟨qb,4,none⟩= some (.float .f64 t.f):=HT6.out.cells 4 rfl
 go_wp2_with (first
  |(go_at_call 254;refine(con_raw 3 0 t.f ⟨#[]⟩ w6).mono ?_;rintro e z ⟨rfl,hb⟩;have HBZ:=hid hb;have HRZ:=hid (HR6.out.keep (hb.block p HR6.out.lt));clear hb)
  |((with_reducible refine wl_wstore 29 _ _ rfl rfl ?hwd p zEc (conC 3 0 t.f ⟨#[]⟩) HRZ.out ?hs5 ?hs6 ?hs7 ?hs8 ?hs9 ?_);(case hwd=>first|exact wanted_none rfl|exact wanted_if rfl rfl rfl rfl);(case hs5=>rfl);(case hs6=>rfl);(case hs7=>rfl);(case hs8=>kernel_rfl);(case hs9=>exact con_one 3 0 t.f ⟨#[]⟩);intro Z hz hb;have HZ:=hid hz;have HZB:=hid hb;clear hz hb))
 (try simp only[Exit.inBlock,Exit.then])
 refine bodyPost_ret (results_exp rfl _ _ p (conC 3 0 t.f ⟨#[]⟩) (con_len 3 0 t.f ⟨#[]⟩) rfl HZ.out) rfl ?_
 have hp:=HP.out
 have hbz:=(But.of_below HB0.out pb pb).trans (HB06.out.trans (But.of_below HBZ.out pb pb))
 exact⟨rfl,(HS6.out.keep HBZ.out).under p HPN.out.1 HPN.out.2 HZB.out,but_last hbz HZB.out (by omega)⟩
theorem prim_name (t:Tok) (ht:toks[i]?= some t) (hk:t.kind= 5) (hpl:plainB t.s= true) (h:PSt pb tb c E toks w i d):
  Calls Tryz.prog 250 #[.pointer (some ⟨pb,0,none⟩)] w fun e w'=>e= .returned (.agg ⟨varC t.s⟩)∧PSt pb tb c E toks w' (i+1) d∧But w w' pb pb:=by
 obtain⟨i0,hi0,hz0,hz1,hz2⟩:=info_parts info_tok
 have hno:∀ s,isB toks i s= false:=fun s=>by unfold isB;rw[ht];show(decide (t.kind= 6) && _)= false;rw[hk];rfl
 have HNO:=hid hno
 have hil:i < toks.length:=(List.getElem?_eq_some_iff.1 ht).1
 have HIL:=hid hil
 have hlen:=h.len
 have HT:=hid ht
 have HK:=hid hk
 have H:=hid h
 have d3:=h.cell 3
 simp only[List.getElem?_toArray,List.getElem?_cons_succ,List.getElem?_cons_zero] at d3
 have HPL:=hid hpl
 clear hno hk ht h hil hpl
 go_enter Tryz.func250,Tryz.ntmps250
 go_upto_region 1 with (fail)
 have HR0:=hid (Whole.new w zEc 29)
 have HB0:=hid (box_below w (.cells zEc.toArray 29))
 have hz:(#[Value.int IntKind.i64 0,Value.string { data:= #[] },Value.int IntKind.i64 0,Value.int IntKind.i64 0,Value.float FloatKind.f64 0,Value.string { data:= #[] },Value.slice none 0 0,Value.slice none 0 0,Value.slice none 0 0,Value.slice none 0 0]:Array Value)= zEc.toArray:=rfl
 rw[hz]
 clear hz
 have HRW:Hid (w.heap.size <(w.alloc (.cells zEc.toArray 29)).heap.size):=hid (by simp)
 generalize w.alloc (.cells zEc.toArray 29)= W at*
 obtain⟨p,hp⟩:∃ p,w.heap.size= p:=⟨_,rfl⟩
 rw[hp] at HR0 HRW
 rw[hp]
 have HP:=hid hp
 have HS0:=hid (H.out.keep HB0.out)
 have HPN:Hid (p≠pb∧p≠tb):=hid ⟨by have:=H.out.lt;omega,by have:=H.out.lt;omega⟩
 have d3':=HS0.out.cell 3
 simp only[List.getElem?_toArray,List.getElem?_cons_succ,List.getElem?_cons_zero] at d3'
 clear hp d3
 go_upto_region 3 with (fail)
 clear d3'
 go_upto_region 7 with (go_at_call 143;refine(take_no HS0.out (HNO.out _)).mono ?_;rintro e w1 ⟨rfl,h1,h2⟩;have HS1:=hid h1;have HB1:=hid h2;clear h1 h2)
 go_upto_region 9 with (go_at_call 143;refine(take_no HS1.out (HNO.out _)).mono ?_;rintro e w2 ⟨rfl,h1,h2⟩;have HS2:=hid h1;have HB2:=hid h2;clear h1 h2)
 go_upto_region 11 with (go_at_call 143;refine(take_no HS2.out (HNO.out _)).mono ?_;rintro e w3 ⟨rfl,h1,h2⟩;have HS3:=hid h1;have HB3:=hid h2;clear h1 h2)
 have HB03:=hid (HB1.out.trans (HB2.out.trans HB3.out))
 clear HB1 HB2 HB3 HS1 HS2
 have d0:=HS3.out.cell 0
 have d1:=HS3.out.cell 1
 simp only[List.getElem?_toArray,List.getElem?_cons_succ,List.getElem?_cons_zero] at d0 d1
 have c0:w3.cell? ⟨tb,i*6,none⟩= some (.int .i64 5):=(HS3.out.tok i t HT.out 0 _ rfl).trans (by rw[HK.out])
 have q1: ¬ ((toks.length:Int)≤(i:Int)):=by have:=HIL.out;omega
 have q2:(i:Int) <(toks.length:Int):=by have:=HIL.out;omega
 go_quiet (fail)
 have HBQ:Hid (Below w3.heap.size w3 (w3.drewN nq)):=hid ⟨rfl,rfl,rfl,Nat.le_refl _,fun _ _=>rfl⟩
 generalize w3.drewN nq= w4 at*
 have HS4:=hid (HS3.out.keep HBQ.out)
 have HB04:=hid (HB03.out.trans (But.of_below HBQ.out pb pb))
 clear d0 d1 c0 HBQ HS3 HB03
 go_upto_region 14 with (fail)
 have d0:=HS4.out.cell 0
 have d1:=HS4.out.cell 1
 simp only[List.getElem?_toArray,List.getElem?_cons_succ,List.getElem?_cons_zero] at d0 d1
 have ht6:=HS4.out.tok i t HT.out
 have HS4D:=hid (HS4.out.keep (Below.refl _ w4).drew)
 have hs:PSt pb tb c E toks w4.drew i d:=HS4D.out
 clear d0 d1 ht6
 refine wp_region_ord [(0,true),(1,true),(2,true),(3,true),(4,true),(5,true),(6,true),(7,true),(8,true),(9,true),(10,false),(11,false)]
  (fun z=>PSt pb tb c E toks z i d) (by kernel_rfl) (by kernel_rfl) (by kernel_rfl) rfl (by intro c a d v w h;cases d<;>exact h) ?_
 refine ord_move (some 57) (.pointer (some ⟨pb,0,none⟩)) _ _ rfl rfl rfl (by first|exact wanted_none rfl|exact wanted_if rfl rfl rfl rfl) hs rfl ?_
 go_frame
 refine ord_load (some 58) (.pointer (some ⟨pb,0,none⟩)) _ rfl rfl (by first|exact wanted_none rfl|exact wanted_if rfl rfl rfl rfl) hs (fun z hz=>by go_simp) ?_
 go_frame
 refine ord_load (some 59) (.pointer (some ⟨pb,0,none⟩)) _ rfl rfl (by first|exact wanted_none rfl|exact wanted_if rfl rfl rfl rfl) hs (fun z hz=>by go_simp) ?_
 go_frame
 refine ord_load (some 60) (.slice (some ⟨tb,0,none⟩) toks.length c) _ rfl rfl (by first|exact wanted_none rfl|exact wanted_if rfl rfl rfl rfl) hs (fun z hz=>by have d0:=hz.cell 0;simp only[List.getElem?_toArray,List.getElem?_cons_zero] at d0;clear hz;go_simp) ?_
 go_frame
 refine ord_move (some 61) (.pointer (some ⟨pb,0,none⟩)) _ _ rfl rfl rfl (by first|exact wanted_none rfl|exact wanted_if rfl rfl rfl rfl) hs rfl ?_
 go_frame
 refine ord_load (some 62) (.pointer (some ⟨pb,0,none⟩)) _ rfl rfl (by first|exact wanted_none rfl|exact wanted_if rfl rfl rfl rfl) hs (fun z hz=>by go_simp) ?_
 go_frame
 refine ord_load (some 63) (.pointer (some ⟨pb,1,none⟩)) _ rfl rfl (by first|exact wanted_none rfl|exact wanted_if rfl rfl rfl rfl) hs (fun z hz=>by go_simp) ?_
 go_frame
 refine ord_load (some 64) (.int .i64 i) _ rfl rfl (by first|exact wanted_none rfl|exact wanted_if rfl rfl rfl rfl) hs (fun z hz=>by have d1:=hz.cell 1;simp only[List.getElem?_toArray,List.getElem?_cons_succ,List.getElem?_cons_zero] at d1;clear hz;go_simp) ?_
 go_frame
 refine ord_load (some 65) (.pointer (some ⟨tb,i*6,none⟩)) _ rfl rfl (by first|exact wanted_none rfl|exact wanted_if rfl rfl rfl rfl) hs (fun z hz=>by go_simp) ?_
 go_frame
 refine ord_load (some 66) (.agg ⟨tokC t⟩) _ rfl rfl (by first|exact wanted_none rfl|exact wanted_if rfl rfl rfl rfl) hs (fun z hz=>exec_sload 156 rfl tb (i*6) (tokC t) _ rfl (hz.tok i t HT.out) Tryz.underlying156 rfl (by kernel_rfl)) ?_
 go_frame
 have hn:=hs.keep (box_below w4.drew (.cells (tokC ⟨0,0,0,0,0,⟨#[]⟩⟩).toArray 156))
 refine ord_run (some 4) (.pointer (some ⟨w4.drew.heap.size,0,none⟩)) (w4.drew.alloc (.cells (tokC ⟨0,0,0,0,0,⟨#[]⟩⟩).toArray 156)) _ rfl rfl (by first|exact wanted_none rfl|exact wanted_if rfl rfl rfl rfl) (exec_alloc 156 rfl i0 _ hi0 hz0) hn ?_
 go_frame
 refine ord_wstore none 156 _ _ _ rfl rfl rfl (by first|exact wanted_none rfl|exact wanted_if rfl rfl rfl rfl) w4.drew.heap.size (tokC ⟨0,0,0,0,0,⟨#[]⟩⟩) (tokC t) (Whole.new _ _ _) rfl rfl rfl (by kernel_rfl) (tok_one t) ?_
 intro w5 hw5 hb5
 have hq5:w4.drew.heap.size≠pb∧w4.drew.heap.size≠tb:=⟨by have:=hs.lt;omega,by have:=hs.lt;omega⟩
 have hs5:=hn.under w4.drew.heap.size hq5.1 hq5.2 hb5
 refine⟨hs5,?_⟩
 go_frame
 refine ord_end ?_
 have HB45:Hid (Below w4.heap.size w4 w5):=hid (((Below.refl _ w4).drew.trans (box_below w4.drew _)).trans (hb5.below (B:=w4.heap.size) (by simp) (Nat.le_refl _) (Nat.le_refl _)))
 have HB05:=hid (HB04.out.trans (But.of_below HB45.out pb pb))
 have HS5:=hid hs5
 obtain⟨qb,hqb⟩:∃ q,w4.drew.heap.size= q:=⟨_,rfl⟩
 rw[hqb] at hw5 hq5
 have HQ5:=hid hq5
 have HT5:=hid hw5
 rw[hqb]
 clear hs hn hs5 hb5 hw5 hq5 hqb HB04 HB45
 have HR5:=hid (HR0.out.keep (HB05.out.block p HRW.out HPN.out.1 HPN.out.1))
 go_upto_region 15 with (fail)
 have d1:=HS5.out.cell 1
 have f1:=HS5.out.thaw 1
 simp only[List.getElem?_toArray,List.getElem?_cons_succ,List.getElem?_cons_zero] at d1
 have HS6:=hid (HS5.out.setI (i+1))
 have HB6:=hid (But.setAt w5 pb 1 (.int .i64 ((i+1:Nat):Int)))
 have HT6:=hid (HT5.out.keep (HB6.out.block qb HT5.out.lt HQ5.out.1 HQ5.out.1))
 have HR6:=hid (HR5.out.keep (HB6.out.block p HR5.out.lt HPN.out.1 HPN.out.1))
 have hcs:w5.setCell ⟨pb,1,none⟩ (.int .i64 ((i+1:Nat):Int))= w5.setCell ⟨pb,1,none⟩ (.int .i64 ((i:Int)+1)):=rfl
 rw[hcs] at HS6 HB6 HT6 HR6
 clear hcs
 go_upto_region 16 with (fail)
 generalize w5.setCell ⟨pb,1,none⟩ (.int .i64 ((i:Int)+1))= w6 at*
 clear d1 f1
 have HB06:=hid (HB05.out.trans HB6.out)
 have k0:w6.cell? ⟨qb,0,none⟩= some (.int .i64 5):=(HT6.out.cells 0 rfl).trans (by rw[HK.out])
 have k5:w6.cell? ⟨qb,5,none⟩= some (.string t.s):=HT6.out.cells 5 rfl
 have hpl2:=HPL.out
 unfold plainB at hpl2
 simp only[Bool.and_eq_true,Bool.not_eq_true'] at hpl2
 obtain⟨n1,n2,n3,n4,n5,n6⟩:=hpl2
 go_wp2_with ((with_reducible refine wl_wstore 29 _ _ rfl rfl ?hwd p zEc (varC t.s) HR6.out ?hs5 ?hs6 ?hs7 ?hs8 ?hs9 ?_);(case hwd=>first|exact wanted_none rfl|exact wanted_if rfl rfl rfl rfl);(case hs5=>rfl);(case hs6=>rfl);(case hs7=>rfl);(case hs8=>kernel_rfl);(case hs9=>exact var_one t.s);intro Z hz hb;have HZ:=hid hz;have HZB:=hid hb;clear hz hb)
 (try simp only[Exit.inBlock,Exit.then])
 refine bodyPost_ret (results_exp rfl _ _ p (varC t.s) rfl rfl HZ.out) rfl ?_
 have hp:=HP.out
 have hbz:=(But.of_below HB0.out pb pb).trans HB06.out
 exact⟨rfl,HS6.out.under p HPN.out.1 HPN.out.2 HZB.out,but_last hbz HZB.out (by omega)⟩
end
end Go.Proofs.YtmpbepjjbaeebaaGreatDoor
end
section
namespace Go.Proofs.YtmpbepjjbaeebaaGreatDoor
open Go Go.RowKit
open Go.Lib (hid)
def KeptP (p:Nat→Prop) (w:World) (cs:List Value) (t:ET):Prop:=ExpAt (only w p) w.heap.size cs t
theorem KeptP.exp {p:Nat→Prop} {w:World} {cs:List Value} {t:ET} (h:KeptP p w cs t):ExpAt w w.heap.size cs t:=ExpAt.cells h fun a v hv=>(only_cell.1 hv).2
theorem KeptP.to {p q:Nat→Prop} {w w':World} {cs:List Value} {t:ET} (h:KeptP p w cs t) (hb:∀ b,p b→b < w.heap.size→q b∧w'.heap[b]?= w.heap[b]?) (hs:w.heap.size≤w'.heap.size):KeptP q w' cs t:=
 (ExpAt.cells h (only_to hb)).more hs
theorem KeptP.one {p:Nat→Prop} {w:World} {cs:List Value} {t:ET} (h:KeptP p w cs t):∀ v∈cs,v.oneCell'= true:=ExpAt.one h
theorem KeptP.len {p:Nat→Prop} {w:World} {cs:List Value} {t:ET} (h:KeptP p w cs t):cs.length= 10:=by
 cases t with
 |mk k s v ns its=>
  obtain⟨c0,c1,c2,c3,c4,c5,vn,vi,rfl,_⟩:=ExpAt.inv h
  rfl
theorem wf_int (n:Int) (h:(Lit.int .i64 n).wf= true):wfI n:=h
theorem val_leaf (w:World) (B:Nat) (k n:Int) (f:Nat) (s:ByteArray) (hk:wfI k) (hn:wfI n) (hf:(Lit.float .f64 f).wf= true) (hs:s.size≤maxLen):ValAt w B (valC k n f s) (.mk k n f s [] []):=
 ValAt.of hk hn hf hs (SlAt.nil w B 1 _) (Nat.zero_le _) (SlAt.nil w B 6 _)
theorem con_kept (p:Nat→Prop) (w:World) (k n:Int) (f:Nat) (s:ByteArray) (hk:wfI k) (hn:wfI n) (hf:(Lit.float .f64 f).wf= true) (hs:s.size≤maxLen):KeptP p w (conC k n f s) (conE k n f s):=
 ExpAt.of (wf_int 1 (by decide +kernel)) (Nat.zero_le _) (val_leaf _ _ k n f s hk hn hf hs) (SlAt.nil _ _ 1 _) (Nat.zero_le _) (SlAt.nil _ _ 10 _)
theorem var_kept (p:Nat→Prop) (w:World) (s:ByteArray) (hs:s.size≤maxLen):KeptP p w (varC s) (varE s):=
 ExpAt.of (wf_int 2 (by decide +kernel)) hs (val_leaf _ _ 0 0 0 ⟨#[]⟩ (wf_int 0 (by decide +kernel)) (wf_int 0 (by decide +kernel)) (by decide +kernel) (Nat.zero_le _)) (SlAt.nil _ _ 1 _) (Nat.zero_le _) (SlAt.nil _ _ 10 _)
theorem two_kept {p:Nat→Prop} {w:World} {k:Int} {g:Nat} {ca cb:List Value} {x y:ET} (hk:wfI k) (hg:Whole 29 w g (ca ++ cb)) (hp:p g) (ha:KeptP p w ca x) (hb:KeptP p w cb y):KeptP p w (twoC k g) (twoE k x y):=by
 have la:=ha.len
 have lb:=hb.len
 refine ExpAt.of hk (Nat.zero_le _) (val_leaf _ _ 0 0 0 ⟨#[]⟩ (wf_int 0 (by decide +kernel)) (wf_int 0 (by decide +kernel)) (by decide +kernel) (Nat.zero_le _)) (SlAt.nil _ _ 1 _) (by show 2≤_;unfold maxLen;decide) ?_
 refine⟨by show 2≤_;decide,_,_,rfl,fun _=>⟨g,0,rfl,hg.lt,fun i z hz=> ?_⟩⟩
 have hr:∀ (o:Nat) (cs:List Value),(∀ j v,cs[j]?= some v→(ca ++ cb)[o+j]?= some v)→(only w p).rangeAt g o cs:=by
  intro o cs h j v hv
  exact only_cell.2 ⟨hp,hg.cells (o+j) (h j v hv)⟩
 match i,hz with
 |0,hz=>
  obtain rfl:x= z:=by simpa using hz
  exact⟨ca,la,hr _ _ fun j v hv=>by rw[show 0+0*10+j= j by omega,List.getElem?_append_left (List.getElem?_eq_some_iff.1 hv).1];exact hv,ha⟩
 |1,hz=>
  obtain rfl:y= z:=by simpa using hz
  exact⟨cb,lb,hr _ _ fun j v hv=>by rw[show 0+1*10+j= ca.length+j by omega,List.getElem?_append_right (by omega),show ca.length+j - ca.length= j by omega];exact hv,hb⟩
 |i+2,hz=>simp at hz
section
variable (pb tb c:Nat) (E:Int) (toks:List Tok)
def PCon (f:FuncId) (i j h:Nat) (t:ET):Prop:=∀ (w:World) (d:Int),PSt pb tb c E toks w i d→0≤d→d+h≤100→
 Calls Tryz.prog f #[.pointer (some ⟨pb,0,none⟩)] w fun e w'=>∃ cs,e= .returned (.agg ⟨cs⟩)∧KeptP (fun b=>w.heap.size≤b) w' cs t∧PSt pb tb c E toks w' j d∧But w w' pb pb
def tokOk (t:Tok):Prop:=wfI t.n∧(Lit.float .f64 t.f).wf= true∧t.s.size≤maxLen
variable {pb tb c E toks}
theorem pc_int {i:Nat} (t:Tok) (ht:toks[i]?= some t) (hk:t.kind= 2) (ho:tokOk t):PCon pb tb c E toks 250 i (i+1) 0 (conE 2 t.n 0 ⟨#[]⟩):=fun w d h _ _=>
 (prim_int t ht hk h).mono fun e w' ⟨he,h1,h2⟩=>⟨_,he,con_kept _ _ 2 t.n 0 ⟨#[]⟩ (wf_int 2 (by decide +kernel)) ho.1 (by decide +kernel) (Nat.zero_le _),h1,h2⟩
theorem pc_flt {i:Nat} (t:Tok) (ht:toks[i]?= some t) (hk:t.kind= 3) (ho:tokOk t):PCon pb tb c E toks 250 i (i+1) 0 (conE 3 0 t.f ⟨#[]⟩):=fun w d h _ _=>
 (prim_flt t ht hk h).mono fun e w' ⟨he,h1,h2⟩=>⟨_,he,con_kept _ _ 3 0 t.f ⟨#[]⟩ (wf_int 3 (by decide +kernel)) (wf_int 0 (by decide +kernel)) ho.2.1 (Nat.zero_le _),h1,h2⟩
theorem pc_name {i:Nat} (t:Tok) (ht:toks[i]?= some t) (hk:t.kind= 5) (hp:plainB t.s= true) (ho:tokOk t):PCon pb tb c E toks 250 i (i+1) 0 (varE t.s):=fun w d h _ _=>
 (prim_name t ht hk hp h).mono fun e w' ⟨he,h1,h2⟩=>⟨_,he,var_kept _ _ t.s ho.2.2,h1,h2⟩
inductive PL (f:FuncId) (signs:List (ByteArray × Int)) (h:Nat) (pb tb c:Nat) (E:Int) (toks:List Tok):ET→Nat→ET→Nat→Prop
 |done (x:ET) (i:Nat):(∀ s∈signs,isB toks i s.1= false)→PL f signs h pb tb c E toks x i x i
 |step (x:ET) (i:Nat) (y:ET) (j:Nat) (z:ET) (k:Nat) (s:ByteArray × Int):s∈signs→isB toks i s.1= true→PCon pb tb c E toks f (i+1) j h y→i < j→PL f signs h pb tb c E toks (twoE s.2 x y) j z k→PL f signs h pb tb c E toks x i z k
theorem isB_other {i:Nat} {s s':ByteArray} (h:isB toks i s= true) (hne:(s.toList ==s'.toList)= false):isB toks i s'= false:=by
 unfold isB at*
 cases ht:toks[i]? with
 |none=>rfl
 |some t=>
  rw[ht] at h
  simp only[Bool.and_eq_true,decide_eq_true_eq,beq_iff_eq] at h
  show(decide (t.kind= 6) && (t.s.toList ==s'.toList))= false
  rw[h.2,hne,Bool.and_false]
end
end Go.Proofs.YtmpbepjjbaeebaaGreatDoor
end
section
namespace Go.Proofs.YtmpbepjjbaeebaaGreatDoor
open Go Go.RowKit
open Go.Lib (hid)
section
variable {pb tb c:Nat} {E:Int} {toks:List Tok} {w:World} {i:Nat} {d:Int}
theorem prim_true (t:Tok) (ht:toks[i]?= some t) (hk:t.kind= 5) (hpl:t.s=⟨#[116,114,117,101]⟩) (h:PSt pb tb c E toks w i d):
  Calls Tryz.prog 250 #[.pointer (some ⟨pb,0,none⟩)] w fun e w'=>e= .returned (.agg ⟨conC 1 1 0 ⟨#[]⟩⟩)∧PSt pb tb c E toks w' (i+1) d∧But w w' pb pb:=by
 obtain⟨i0,hi0,hz0,hz1,hz2⟩:=info_parts info_tok
 have hno:∀ s,isB toks i s= false:=fun s=>by unfold isB;rw[ht];show(decide (t.kind= 6) && _)= false;rw[hk];rfl
 have HNO:=hid hno
 have hil:i < toks.length:=(List.getElem?_eq_some_iff.1 ht).1
 have HIL:=hid hil
 have hlen:=h.len
 have HT:=hid ht
 have HK:=hid hk
 have H:=hid h
 have d3:=h.cell 3
 simp only[List.getElem?_toArray,List.getElem?_cons_succ,List.getElem?_cons_zero] at d3
 have HPL:=hid hpl
 clear hno hk ht h hil hpl
 go_enter Tryz.func250,Tryz.ntmps250
 go_upto_region 1 with (fail)
 have HR0:=hid (Whole.new w zEc 29)
 have HB0:=hid (box_below w (.cells zEc.toArray 29))
 have hz:(#[Value.int IntKind.i64 0,Value.string { data:= #[] },Value.int IntKind.i64 0,Value.int IntKind.i64 0,Value.float FloatKind.f64 0,Value.string { data:= #[] },Value.slice none 0 0,Value.slice none 0 0,Value.slice none 0 0,Value.slice none 0 0]:Array Value)= zEc.toArray:=rfl
 rw[hz]
 clear hz
 have HRW:Hid (w.heap.size <(w.alloc (.cells zEc.toArray 29)).heap.size):=hid (by simp)
 generalize w.alloc (.cells zEc.toArray 29)= W at*
 obtain⟨p,hp⟩:∃ p,w.heap.size= p:=⟨_,rfl⟩
 rw[hp] at HR0 HRW
 rw[hp]
 have HP:=hid hp
 have HS0:=hid (H.out.keep HB0.out)
 have HPN:Hid (p≠pb∧p≠tb):=hid ⟨by have:=H.out.lt;omega,by have:=H.out.lt;omega⟩
 have d3':=HS0.out.cell 3
 simp only[List.getElem?_toArray,List.getElem?_cons_succ,List.getElem?_cons_zero] at d3'
 clear hp d3
 go_upto_region 3 with (fail)
 clear d3'
 go_upto_region 7 with (go_at_call 143;refine(take_no HS0.out (HNO.out _)).mono ?_;rintro e w1 ⟨rfl,h1,h2⟩;have HS1:=hid h1;have HB1:=hid h2;clear h1 h2)
 go_upto_region 9 with (go_at_call 143;refine(take_no HS1.out (HNO.out _)).mono ?_;rintro e w2 ⟨rfl,h1,h2⟩;have HS2:=hid h1;have HB2:=hid h2;clear h1 h2)
 go_upto_region 11 with (go_at_call 143;refine(take_no HS2.out (HNO.out _)).mono ?_;rintro e w3 ⟨rfl,h1,h2⟩;have HS3:=hid h1;have HB3:=hid h2;clear h1 h2)
 have HB03:=hid (HB1.out.trans (HB2.out.trans HB3.out))
 clear HB1 HB2 HB3 HS1 HS2
 have d0:=HS3.out.cell 0
 have d1:=HS3.out.cell 1
 simp only[List.getElem?_toArray,List.getElem?_cons_succ,List.getElem?_cons_zero] at d0 d1
 have c0:w3.cell? ⟨tb,i*6,none⟩= some (.int .i64 5):=(HS3.out.tok i t HT.out 0 _ rfl).trans (by rw[HK.out])
 have q1: ¬ ((toks.length:Int)≤(i:Int)):=by have:=HIL.out;omega
 have q2:(i:Int) <(toks.length:Int):=by have:=HIL.out;omega
 go_quiet (fail)
 have HBQ:Hid (Below w3.heap.size w3 (w3.drewN nq)):=hid ⟨rfl,rfl,rfl,Nat.le_refl _,fun _ _=>rfl⟩
 generalize w3.drewN nq= w4 at*
 have HS4:=hid (HS3.out.keep HBQ.out)
 have HB04:=hid (HB03.out.trans (But.of_below HBQ.out pb pb))
 clear d0 d1 c0 HBQ HS3 HB03
 go_upto_region 14 with (fail)
 have d0:=HS4.out.cell 0
 have d1:=HS4.out.cell 1
 simp only[List.getElem?_toArray,List.getElem?_cons_succ,List.getElem?_cons_zero] at d0 d1
 have ht6:=HS4.out.tok i t HT.out
 have HS4D:=hid (HS4.out.keep (Below.refl _ w4).drew)
 have hs:PSt pb tb c E toks w4.drew i d:=HS4D.out
 clear d0 d1 ht6
 refine wp_region_ord [(0,true),(1,true),(2,true),(3,true),(4,true),(5,true),(6,true),(7,true),(8,true),(9,true),(10,false),(11,false)]
  (fun z=>PSt pb tb c E toks z i d) (by kernel_rfl) (by kernel_rfl) (by kernel_rfl) rfl (by intro c a d v w h;cases d<;>exact h) ?_
 refine ord_move (some 57) (.pointer (some ⟨pb,0,none⟩)) _ _ rfl rfl rfl (by first|exact wanted_none rfl|exact wanted_if rfl rfl rfl rfl) hs rfl ?_
 go_frame
 refine ord_load (some 58) (.pointer (some ⟨pb,0,none⟩)) _ rfl rfl (by first|exact wanted_none rfl|exact wanted_if rfl rfl rfl rfl) hs (fun z hz=>by go_simp) ?_
 go_frame
 refine ord_load (some 59) (.pointer (some ⟨pb,0,none⟩)) _ rfl rfl (by first|exact wanted_none rfl|exact wanted_if rfl rfl rfl rfl) hs (fun z hz=>by go_simp) ?_
 go_frame
 refine ord_load (some 60) (.slice (some ⟨tb,0,none⟩) toks.length c) _ rfl rfl (by first|exact wanted_none rfl|exact wanted_if rfl rfl rfl rfl) hs (fun z hz=>by have d0:=hz.cell 0;simp only[List.getElem?_toArray,List.getElem?_cons_zero] at d0;clear hz;go_simp) ?_
 go_frame
 refine ord_move (some 61) (.pointer (some ⟨pb,0,none⟩)) _ _ rfl rfl rfl (by first|exact wanted_none rfl|exact wanted_if rfl rfl rfl rfl) hs rfl ?_
 go_frame
 refine ord_load (some 62) (.pointer (some ⟨pb,0,none⟩)) _ rfl rfl (by first|exact wanted_none rfl|exact wanted_if rfl rfl rfl rfl) hs (fun z hz=>by go_simp) ?_
 go_frame
 refine ord_load (some 63) (.pointer (some ⟨pb,1,none⟩)) _ rfl rfl (by first|exact wanted_none rfl|exact wanted_if rfl rfl rfl rfl) hs (fun z hz=>by go_simp) ?_
 go_frame
 refine ord_load (some 64) (.int .i64 i) _ rfl rfl (by first|exact wanted_none rfl|exact wanted_if rfl rfl rfl rfl) hs (fun z hz=>by have d1:=hz.cell 1;simp only[List.getElem?_toArray,List.getElem?_cons_succ,List.getElem?_cons_zero] at d1;clear hz;go_simp) ?_
 go_frame
 refine ord_load (some 65) (.pointer (some ⟨tb,i*6,none⟩)) _ rfl rfl (by first|exact wanted_none rfl|exact wanted_if rfl rfl rfl rfl) hs (fun z hz=>by go_simp) ?_
 go_frame
 refine ord_load (some 66) (.agg ⟨tokC t⟩) _ rfl rfl (by first|exact wanted_none rfl|exact wanted_if rfl rfl rfl rfl) hs (fun z hz=>exec_sload 156 rfl tb (i*6) (tokC t) _ rfl (hz.tok i t HT.out) Tryz.underlying156 rfl (by kernel_rfl)) ?_
 go_frame
 have hn:=hs.keep (box_below w4.drew (.cells (tokC ⟨0,0,0,0,0,⟨#[]⟩⟩).toArray 156))
 refine ord_run (some 4) (.pointer (some ⟨w4.drew.heap.size,0,none⟩)) (w4.drew.alloc (.cells (tokC ⟨0,0,0,0,0,⟨#[]⟩⟩).toArray 156)) _ rfl rfl (by first|exact wanted_none rfl|exact wanted_if rfl rfl rfl rfl) (exec_alloc 156 rfl i0 _ hi0 hz0) hn ?_
 go_frame
 refine ord_wstore none 156 _ _ _ rfl rfl rfl (by first|exact wanted_none rfl|exact wanted_if rfl rfl rfl rfl) w4.drew.heap.size (tokC ⟨0,0,0,0,0,⟨#[]⟩⟩) (tokC t) (Whole.new _ _ _) rfl rfl rfl (by kernel_rfl) (tok_one t) ?_
 intro w5 hw5 hb5
 have hq5:w4.drew.heap.size≠pb∧w4.drew.heap.size≠tb:=⟨by have:=hs.lt;omega,by have:=hs.lt;omega⟩
 have hs5:=hn.under w4.drew.heap.size hq5.1 hq5.2 hb5
 refine⟨hs5,?_⟩
 go_frame
 refine ord_end ?_
 have HB45:Hid (Below w4.heap.size w4 w5):=hid (((Below.refl _ w4).drew.trans (box_below w4.drew _)).trans (hb5.below (B:=w4.heap.size) (by simp) (Nat.le_refl _) (Nat.le_refl _)))
 have HB05:=hid (HB04.out.trans (But.of_below HB45.out pb pb))
 have HS5:=hid hs5
 obtain⟨qb,hqb⟩:∃ q,w4.drew.heap.size= q:=⟨_,rfl⟩
 rw[hqb] at hw5 hq5
 have HQ5:=hid hq5
 have HT5:=hid hw5
 rw[hqb]
 clear hs hn hs5 hb5 hw5 hq5 hqb HB04 HB45
 have HR5:=hid (HR0.out.keep (HB05.out.block p HRW.out HPN.out.1 HPN.out.1))
 go_upto_region 15 with (fail)
 have d1:=HS5.out.cell 1
 have f1:=HS5.out.thaw 1
 simp only[List.getElem?_toArray,List.getElem?_cons_succ,List.getElem?_cons_zero] at d1
 have HS6:=hid (HS5.out.setI (i+1))
 have HB6:=hid (But.setAt w5 pb 1 (.int .i64 ((i+1:Nat):Int)))
 have HT6:=hid (HT5.out.keep (HB6.out.block qb HT5.out.lt HQ5.out.1 HQ5.out.1))
 have HR6:=hid (HR5.out.keep (HB6.out.block p HR5.out.lt HPN.out.1 HPN.out.1))
 have hcs:w5.setCell ⟨pb,1,none⟩ (.int .i64 ((i+1:Nat):Int))= w5.setCell ⟨pb,1,none⟩ (.int .i64 ((i:Int)+1)):=rfl
 rw[hcs] at HS6 HB6 HT6 HR6
 clear hcs
 go_upto_region 16 with (fail)
 generalize w5.setCell ⟨pb,1,none⟩ (.int .i64 ((i:Int)+1))= w6 at*
 clear d1 f1
 have HB06:=hid (HB05.out.trans HB6.out)
 have k0:w6.cell? ⟨qb,0,none⟩= some (.int .i64 5):=(HT6.out.cells 0 rfl).trans (by rw[HK.out])
 have k5:w6.cell? ⟨qb,5,none⟩= some (.string ⟨#[116,114,117,101]⟩):=(HT6.out.cells 5 rfl).trans (by rw[HPL.out])
 clear HPL
 go_wp2_with (first
  |(go_at_call 254;refine(con_raw 1 1 0 ⟨#[]⟩ w6).mono ?_;rintro e z ⟨rfl,hb⟩;have HBZ:=hid hb;have HRZ:=hid (HR6.out.keep (hb.block p HR6.out.lt));clear hb)
  |((with_reducible refine wl_wstore 29 _ _ rfl rfl ?hwd p zEc (conC 1 1 0 ⟨#[]⟩) HRZ.out ?hs5 ?hs6 ?hs7 ?hs8 ?hs9 ?_);(case hwd=>first|exact wanted_none rfl|exact wanted_if rfl rfl rfl rfl);(case hs5=>rfl);(case hs6=>rfl);(case hs7=>rfl);(case hs8=>kernel_rfl);(case hs9=>exact con_one 1 1 0 ⟨#[]⟩);intro Z hz hb;have HZ:=hid hz;have HZB:=hid hb;clear hz hb))
 (try simp only[Exit.inBlock,Exit.then])
 refine bodyPost_ret (results_exp rfl _ _ p (conC 1 1 0 ⟨#[]⟩) (con_len 1 1 0 ⟨#[]⟩) rfl HZ.out) rfl ?_
 have hp:=HP.out
 have hbz:=(But.of_below HB0.out pb pb).trans (HB06.out.trans (But.of_below HBZ.out pb pb))
 exact⟨rfl,(HS6.out.keep HBZ.out).under p HPN.out.1 HPN.out.2 HZB.out,but_last hbz HZB.out (by omega)⟩
theorem pc_true (t:Tok) (ht:toks[i]?= some t) (hk:t.kind= 5) (hp:t.s=⟨#[116,114,117,101]⟩):PCon pb tb c E toks 250 i (i+1) 0 (conE 1 1 0 ⟨#[]⟩):=fun w d h _ _=>
 (prim_true t ht hk hp h).mono fun e w' ⟨he,h1,h2⟩=>⟨_,he,con_kept _ _ 1 1 0 ⟨#[]⟩ (wf_int 1 (by decide +kernel)) (wf_int 1 (by decide +kernel)) (by decide +kernel) (Nat.zero_le _),h1,h2⟩
end
end Go.Proofs.YtmpbepjjbaeebaaGreatDoor
end
