/- Parts of a proof: Par2, Par3, Prim. -/
import Derived.Test.YtmpbepjjbaeebaaGreatDoorPackC7
set_option maxHeartbeats 8000000
set_option maxRecDepth 100000
set_option linter.unusedVariables false
set_option linter.unusedSimpArgs false
namespace Go.Proofs.YtmpbepjjbaeebaaGreatDoor
section
open Go Go.RowKit
section
variable {P:Program} {ops:Array Oper} {rest:List Oper} {o:Oper} {a:Act} {w:World} {Q:Exit->Act->World->Prop}
theorem zai (t:TypeId) (x y:Operand) (ho:o.op= .buildSlice t 2 #[(0,x),(1,y)]) (hw:Region.wanted o (yielded ops a.tmps)= true) (e:TypeId) (i:TypeInfo) (z:Value) (k1 k2:List Value) (hx:a.eval x= .agg k1.toArray) (hy:a.eval y= .agg k2.toArray)
  (ht:P.underlying t= some (.slice e)) (hi:P.info? e= some i) (hz:i.zero= some z) (hsz:i.size= k1.length) (hs2:k2.length= k1.length) (h0:0 < k1.length) (hmax:k1.length<=1000)
  (h:wpList P ops Q rest (a.put o.dst (.slice (some ⟨w.heap.size,0,none⟩) 2 2)) (w.alloc (.cells ⟨k1 ++ k2⟩ e))):wpList P ops Q (o::rest) a w:=by
 refine wpList_step fun K hK=> ?_
 rw[if_pos hw]
 unfold Oper.wp
 rw[z8o t x y ho e i z k1 k2 hx hy ht hi hz hsz hs2 h0 hmax]
 exact hK _ _ h
def Whole (T:TypeId) (w:World) (b:Nat) (cs:List Value):Prop:=w.heap[b]?= some (.cells ⟨cs⟩ T (0,0))
theorem Whole.new (w:World) (cs:List Value) (T:TypeId):Whole T (w.alloc (.cells ⟨cs⟩ T)) w.heap.size cs:=heap_alloc_new w _
theorem Whole.range {T:TypeId} {b:Nat} {cs:List Value} (h:Whole T w b cs):w.rangeAt b 0 cs:=by
 intro j v hv
 rw[Nat.zero_add]
 rw[cell_of_row w b j ⟨cs⟩ T _ h]
 simpa using hv
theorem Whole.lt {T:TypeId} {b:Nat} {cs:List Value} (h:Whole T w b cs):b < w.heap.size:=by
 rcases Nat.lt_or_ge b w.heap.size with h1|h1
 ·exact h1
 ·unfold Whole at h;rw[Array.getElem?_eq_none h1] at h;cases h
theorem Whole.keep {T:TypeId} {w':World} {b:Nat} {cs:List Value} (h:Whole T w b cs) (hb:w'.heap[b]?= w.heap[b]?):Whole T w' b cs:=hb.trans h
theorem Whole.there {T:TypeId} {b:Nat} {cs:List Value} (h:Whole T w b cs):w.there b 0 cs.length:=by
 intro j hj
 rw[Nat.zero_add,cell_of_row w b j ⟨cs⟩ T _ h]
 refine⟨by simp[hj],?_⟩
 unfold World.frozen?
 have h2:w.heap[b]?= some (.cells ⟨cs⟩ T (0,0)):=h
 simp[h2]
theorem Whole.tag {T:TypeId} {b:Nat} {cs:List Value} (h:Whole T w b cs):Tag w b T:=⟨_,h⟩
theorem z1k (b:Nat) (T:TypeId):∀ (vs pre mid:List Value) (w:World),w.heap[b]?= some (.cells ⟨pre ++ mid⟩ T (0,0))->mid.length= vs.length->(w.setCells b pre.length vs).heap[b]?= some (.cells ⟨pre ++ vs⟩ T (0,0))
 |[],pre,mid,w,h,hl=>by
  rw[List.eq_nil_of_length_eq_zero hl] at h
  exact h
 |v::vs,pre,[],w,h,hl=>by cases hl
 |v::vs,pre,m::mid,w,h,hl=>by
  have h1:(w.setCell ⟨b,pre.length,none⟩ v).heap[b]?= some (.cells ⟨(pre ++ [v]) ++ mid⟩ T (0,0)):=by
   show(w.heap.modify b _)[b]?= _
   rw[Array.getElem?_modify,if_pos rfl,h]
   simp
  have h2:=z1k b T vs (pre ++ [v]) mid (w.setCell ⟨b,pre.length,none⟩ v) h1 (by simpa using hl)
  rw[List.length_append] at h2
  have e:pre ++ [v] ++ vs= pre ++ v::vs:=by simp
  rw[e] at h2
  exact h2
theorem z4L (b:Nat):∀ (cs:List Value) (w:World) (i:Nat),But w (w.setCells b i cs) b b
 |[],w,_=>But.refl w b b
 |v::cs,w,i=>(But.setAt w b i v).trans (z4L b cs _ (i+1))
theorem zh (T:TypeId) (x y:Operand) (ho:o.op= .store T x y) (hn:o.dst= none) (hw:Region.wanted o (yielded ops a.tmps)= true) (b:Nat) (cs0 cs:List Value) (hb:Whole T w b cs0) (hl:cs0.length= cs.length)
  (hx:a.eval x= .pointer (some ⟨b,0,none⟩)) (hy:a.eval y= .agg cs.toArray) (hi:(P.info? T).map (·.size)= some cs.length) (h1:∀ v∈cs,v.oneCell'= true)
  (h:∀ Z,Whole T Z b cs->But w Z b b->wpList P ops Q rest a Z):wpList P ops Q (o::rest) a w:=by
 have h:=fun Z h1 h2=>(show wpList P ops Q rest (a.put o.dst undef) Z from by rw[hn];exact h Z h1 h2)
 refine z3x T x y ho hw b 0 cs hx hy (by rw[← hl];exact hb.there) hi h1 (h _ ?_ (z4L b cs w 0))
 have:=z1k b T cs [] cs0 w hb hl
 exact this
end
theorem But.block2 {w w':World} {p q:Nat} (h:But w w' p q) {b:Nat} (hb:b < w.heap.size) (h1:b≠p) (h2:b≠q):w'.heap[b]?= w.heap[b]?:=h.block b hb h1 h2
theorem zO {fn:Func} {p:Tmp} (h:fn.results= #[.cell p 29]) (tmps:Array Value) (w:World) (g:Nat) (cs:List Value) (hl:cs.length= 10)
  (hp:tmps.getD p undef= .pointer (some ⟨g,0,none⟩)) (hm:Whole 29 w g cs):(results fn tmps).run Tryz.prog w= .ok (.agg ⟨cs⟩) w:=by
 have hp':tmps[p]?.getD undef= .pointer (some ⟨g,0,none⟩):=by simpa using hp
 have hl:=run_loadVar_mid (P:=Tryz.prog) w g 0 29 cs _ hm.range Tryz.underlying29 rfl (by rw[hl];kernel_rfl)
 simp[results,h,hp',asAddr,hl]
def zV:VT:= .mk 0 0 0 ⟨#[]⟩ [] []
def zVc:List Value:=[.int .i64 0,.int .i64 0,.float .f64 0,.string ⟨#[]⟩,.slice none 0 0,.slice none 0 0]
def zEc:List Value:= .int .i64 0:: .string ⟨#[]⟩::(zVc ++ [.slice none 0 0,.slice none 0 0])
theorem z0n:(#[Value.int IntKind.i64 0,Value.string { data:= #[] },Value.int IntKind.i64 0,Value.int IntKind.i64 0,Value.float FloatKind.f64 0,Value.string { data:= #[] },Value.slice none 0 0,Value.slice none 0 0,Value.slice none 0 0,Value.slice none 0 0]:Array Value)= zEc.toArray:=rfl
def twoC (k:Int) (g:Nat):List Value:= .int .i64 k:: .string ⟨#[]⟩::(zVc ++ [.slice none 0 0,.slice (some ⟨g,0,none⟩) 2 2])
def twoE (k:Int) (x y:ET):ET:= .mk k ⟨#[]⟩ zV [] [x,y]
theorem z76:(Tryz.prog.info? 29).map (fun i=>(i.zero,i.size,i.bytes))= some (some (.agg zEc.toArray),10,160):=by kernel_rfl
theorem z14 (k:Int) (ca cb:List Value) (ha:ca.length= 10) (hb:cb.length= 10) (h1:∀ v∈ca,v.oneCell'= true) (h2:∀ v∈cb,v.oneCell'= true) (w:World):
  Calls Tryz.prog 182 #[.int .i64 k,.agg ⟨ca⟩,.agg ⟨cb⟩] w fun e w'=>∃ g,e= .returned (.agg ⟨twoC k g⟩)/\w.heap.size<=g/\Whole 29 w' g (ca ++ cb)/\Below w.heap.size w w':=by
 obtain⟨i0,hi,hz0,hz1,hz2⟩:=info_parts z76
 go_enter Tryz.func182,Tryz.ntmps182
 go_upto_region 1 with (fail)
 have HA:=I ((Whole.new w ca 29).keep (w':=((w.alloc (.cells ⟨ca⟩ 29)).alloc (.cells ⟨cb⟩ 29)).alloc (.cells zEc.toArray 29)) (by rw[Lib.alloc_old _ _ _ (by simp;omega),Lib.alloc_old _ _ _ (by simp)]))
 have HB:=I ((Whole.new (w.alloc (.cells ⟨ca⟩ 29)) cb 29).keep (w':=((w.alloc (.cells ⟨ca⟩ 29)).alloc (.cells ⟨cb⟩ 29)).alloc (.cells zEc.toArray 29)) (by rw[Lib.alloc_old _ _ _ (by simp)]))
 have HC:=I (Whole.new ((w.alloc (.cells ⟨ca⟩ 29)).alloc (.cells ⟨cb⟩ 29)) zEc 29)
 have HW:Hid (Below w.heap.size w (((w.alloc (.cells ⟨ca⟩ 29)).alloc (.cells ⟨cb⟩ 29)).alloc (.cells zEc.toArray 29))):=I ((((Below.refl _ w).alloc (Nat.le_refl _) _).alloc (by simp) _).alloc (by simp;omega) _)
 have HS:Hid ((((w.alloc (.cells ⟨ca⟩ 29)).alloc (.cells ⟨cb⟩ 29)).alloc (.cells zEc.toArray 29)).heap.size= w.heap.size+3):=I (by simp)
 have e1:(w.alloc (.cells ⟨ca⟩ 29)).heap.size= w.heap.size+1:=by simp
 have e2:((w.alloc (.cells ⟨ca⟩ 29)).alloc (.cells ⟨cb⟩ 29)).heap.size= w.heap.size+1+1:=by simp
 rw[e1] at HB
 rw[e2] at HC
 have hz:=z0n
 rw[hz]
 clear hz e1 e2
 generalize ((w.alloc (.cells ⟨ca⟩ 29)).alloc (.cells ⟨cb⟩ 29)).alloc (.cells zEc.toArray 29)= W at*
 obtain⟨p,hp⟩:∃ p,w.heap.size= p:=⟨_,rfl⟩
 rw[hp] at HA HB HC HS
 rw[hp]
 have HP:=I hp
 clear hp
 have HLA:=I ha
 have HLB:=I hb
 have HO1:=I h1
 have HO2:=I h2
 clear ha hb h1 h2
 have HG:=I (Whole.new W (ca ++ cb) 29)
 have HC2:=I (HC.out.keep (w':=W.alloc (.cells ⟨ca ++ cb⟩ 29)) (Lib.alloc_old _ _ _ HC.out.lt))
 have HW2:Hid (Below w.heap.size w (W.alloc (.cells ⟨ca ++ cb⟩ 29))):=I (HW.out.alloc HW.out.size _)
 have H2C:Hid (∀ g,(twoC k g).length= 10/\∀ v∈twoC k g,v.oneCell'= true):=I fun g=>⟨rfl,by intro v hv;simp only[twoC,zVc,List.mem_cons,List.mem_append,List.not_mem_nil,or_false] at hv;rcases hv with rfl|rfl|(rfl|rfl|rfl|rfl|rfl|rfl)|rfl|rfl<;>rfl⟩
 go_wp2_with (first
  |((with_reducible refine zc 29 _ rfl ?hwa p 0 ca _ rfl HA.out.range Tryz.underlying29 rfl ?hia ?_);(case hwa=>exact wantA rfl);(case hia=>rw[HLA.out];kernel_rfl))
  |((with_reducible refine zc 29 _ rfl ?hwb (p+1) 0 cb _ rfl HB.out.range Tryz.underlying29 rfl ?hib ?_);(case hwb=>exact wantA rfl);(case hib=>rw[HLB.out];kernel_rfl))
  |((with_reducible refine zai _ _ _ rfl ?hwc 29 i0 _ ca cb rfl rfl Tryz.underlying27 hi hz0 ?hs1 ?hs2 ?hs3 ?hs4 ?_);(case hwc=>exact wantA rfl);(case hs1=>rw[hz1,HLA.out]);(case hs2=>rw[HLA.out,HLB.out]);(case hs3=>rw[HLA.out];decide);(case hs4=>rw[HLA.out];decide))
  |((with_reducible refine zh 29 _ _ rfl rfl ?hwd (p+1+1) zEc (twoC k W.heap.size) HC2.out ?hs5 ?hs6 ?hs7 ?hs8 ?hs9 ?_);(case hwd=>exact wantA rfl);(case hs5=>rfl);(case hs6=>rfl);(case hs7=>rfl);(case hs8=>rw[(H2C.out _).1];kernel_rfl);(case hs9=>exact(H2C.out _).2);intro Z hz hb;have HZ:=I hz;have HZB:=I hb;clear hz hb))
 (try simp only[Exit.inBlock,Exit.then])
 refine bodyPost_ret (zO rfl _ _ (p+1+1) (twoC k W.heap.size) (H2C.out _).1 rfl HZ.out) rfl ?_
 have hp:=HP.out
 have hs:=HS.out
 refine⟨W.heap.size,rfl,by omega,?_,?_⟩
 ·exact HG.out.keep (HZB.out.block _ (by simp) (by omega) (by omega))
 ·exact HW2.out.trans (HZB.out.below HW2.out.size (by omega) (by omega))
end
section
open Go Go.RowKit
abbrev valC (k n:Int) (f:Nat) (s:ByteArray):List Value:=[.int .i64 k,.int .i64 n,.float .f64 f,.string s,.slice none 0 0,.slice none 0 0]
def conC (k n:Int) (f:Nat) (s:ByteArray):List Value:= .int .i64 1:: .string ⟨#[]⟩::(valC k n f s ++ [.slice none 0 0,.slice none 0 0])
def conE (k n:Int) (f:Nat) (s:ByteArray):ET:= .mk 1 ⟨#[]⟩ (.mk k n f s [] []) [] []
def varC (s:ByteArray):List Value:= .int .i64 2:: .string s::(zVc ++ [.slice none 0 0,.slice none 0 0])
def varE (s:ByteArray):ET:= .mk 2 s zV [] []
theorem z43 (k n:Int) (f:Nat) (s:ByteArray):(conC k n f s).length= 10:=rfl
theorem z42 (k n:Int) (f:Nat) (s:ByteArray):∀ v∈conC k n f s,v.oneCell'= true:=by
 intro v hv;simp only[conC,valC,List.mem_cons,List.mem_append,List.not_mem_nil,or_false] at hv;rcases hv with rfl|rfl|(rfl|rfl|rfl|rfl|rfl|rfl)|rfl|rfl<;>rfl
theorem zd1 (s:ByteArray):∀ v∈varC s,v.oneCell'= true:=by
 intro v hv;simp only[varC,zVc,List.mem_cons,List.mem_append,List.not_mem_nil,or_false] at hv;rcases hv with rfl|rfl|(rfl|rfl|rfl|rfl|rfl|rfl)|rfl|rfl<;>rfl
theorem z5M (k n:Int) (f:Nat) (s:ByteArray) (w:World):
  Calls Tryz.prog 254 #[.agg ⟨valC k n f s⟩] w fun e w'=>e= .returned (.agg ⟨conC k n f s⟩)/\Below w.heap.size w w':=by
 go_enter Tryz.func254,Tryz.ntmps254
 go_upto_region 1 with (fail)
 have HA:=I ((Whole.new w (valC k n f s) 26).keep (w':=(w.alloc (.cells ⟨valC k n f s⟩ 26)).alloc (.cells zEc.toArray 29)) (by rw[Lib.alloc_old _ _ _ (by simp)]))
 have HC:=I (Whole.new (w.alloc (.cells ⟨valC k n f s⟩ 26)) zEc 29)
 have HW:Hid (Below w.heap.size w ((w.alloc (.cells ⟨valC k n f s⟩ 26)).alloc (.cells zEc.toArray 29))):=I (((Below.refl _ w).alloc (Nat.le_refl _) _).alloc (by simp) _)
 have e1:(w.alloc (.cells ⟨valC k n f s⟩ 26)).heap.size= w.heap.size+1:=by simp
 rw[e1] at HC
 have hz:=z0n
 rw[hz]
 clear hz e1
 generalize (w.alloc (.cells ⟨valC k n f s⟩ 26)).alloc (.cells zEc.toArray 29)= W at*
 obtain⟨p,hp⟩:∃ p,w.heap.size= p:=⟨_,rfl⟩
 rw[hp] at HA HC
 rw[hp]
 have HP:=I hp
 clear hp
 go_wp2_with (first
  |((with_reducible refine zc 26 _ rfl ?hwa p 0 [.int .i64 k,.int .i64 n,.float .f64 f,.string s,.slice none 0 0,.slice none 0 0] _ rfl HA.out.range Tryz.underlying26 rfl ?hia ?_);(case hwa=>exact wantA rfl);(case hia=>kernel_rfl))
  |((with_reducible refine zh 29 _ _ rfl rfl ?hwd (p+1) zEc (conC k n f s) HC.out ?hs5 ?hs6 ?hs7 ?hs8 ?hs9 ?_);(case hwd=>exact wantA rfl);(case hs5=>rfl);(case hs6=>rfl);(case hs7=>rfl);(case hs8=>kernel_rfl);(case hs9=>exact z42 k n f s);intro Z hz hb;have HZ:=I hz;have HZB:=I hb;clear hz hb))
 (try simp only[Exit.inBlock,Exit.then])
 refine bodyPost_ret (zO rfl _ _ (p+1) (conC k n f s) (z43 k n f s) rfl HZ.out) rfl ?_
 have hp:=HP.out
 exact⟨rfl,HW.out.trans (HZB.out.below HW.out.size (by omega) (by omega))⟩
end
section
open Go Go.RowKit
section
variable {P:Program} {ops:Array Oper} {S:World->Prop} {Q:Exit->Act->World->Prop} {i:Nat} {r:List (Nat × Bool)} {o:Oper} {a:Act} {w:World}
theorem z25 (T:TypeId) (ho:o.op= .alloc T) (j:TypeInfo) (z:Value) (hi:P.info? T= some j) (hz:j.zero= some z):
  (execOp a.eval o).run P w= .ok (.value (.pointer (some ⟨w.heap.size,0,none⟩))) (w.alloc (.cells z.cells T)):=by
 have hzv:(zeroValue T).run P w= .ok z w:=by simp[zeroValue,typeInfo,hi,hz]
 unfold execOp
 simp only[ho,Instr.alloc,Sem.run_bind,hzv,Result.andThen_ok]
 simp[newVar,newRow]
theorem z23 (d:Option Tmp) (T:TypeId) (o:Oper) (x y:Operand) (hi:ops[i]?= some o) (ho:o.op= .store T x y) (hd:o.dst= d) (hw:Region.wanted o (yielded ops a.tmps)= true) (b:Nat) (cs0 cs:List Value) (hb:Whole T w b cs0) (hl:cs0.length= cs.length)
  (hx:a.eval x= .pointer (some ⟨b,0,none⟩)) (hy:a.eval y= .agg cs.toArray) (hi2:(P.info? T).map (·.size)= some cs.length) (h1:∀ v∈cs,v.oneCell'= true)
  (h:∀ Z,Whole T Z b cs->But w Z b b->S Z/\wpOrd P ops S Q r (a.put d undef) Z):wpOrd P ops S Q ((i,false)::r) a w:=by
 subst hd
 refine z60 o hi hw fun K hK=> ?_
 have hz:=h (w.setCells b 0 cs) (z1k b T cs [] cs0 w hb hl) (z4L b cs w 0)
 exact wp_store_mid T x y ho b 0 cs.toArray hx hy (by rw[List.size_toArray,← hl];exact hb.there) (by simpa using hi2) (all_oneCell_toArray h1) (by simpa using hK _ _ hz.1 hz.2)
end
theorem z0s (t:Tok):∀ v∈tokC t,v.oneCell'= true:=by
 intro v hv;simp only[tokC,List.mem_cons,List.not_mem_nil,or_false] at hv;rcases hv with rfl|rfl|rfl|rfl|rfl|rfl<;>rfl
theorem z2q:(Tryz.prog.info? 156).map (fun i=>(i.zero,i.size,i.bytes))= some (some (.agg (tokC ⟨0,0,0,0,0,⟨#[]⟩⟩).toArray),6,56):=by kernel_rfl
def z7l (s:ByteArray):Bool:=!(s.toList ==[116,114,117,101]) && (!(s.toList ==[102,97,108,115,101]) && (!(s.toList ==[108,101,110]) && (!(s.toList ==[102,108,111,97,116]) && (!(s.toList ==[105,110,116]) && !(s.toList ==[115,116,114])))))
theorem Whole.cells {T:TypeId} {w:World} {b:Nat} {cs:List Value} (h:Whole T w b cs) (k:Nat) {v:Value} (hv:cs[k]?= some v):w.cell? ⟨b,k,none⟩= some v:=by
 have:=h.range k v hv
 rwa [Nat.zero_add] at this
theorem PS.under {T:TypeId} {pb tb c:Nat} {E:Int} {toks:List Tok} {w w':World} {i:Nat} {d:Int} (h:PS T pb tb c E toks w i d) (b:Nat) (hp:b≠pb) (ht:b≠tb) (hb:But w w' b b):PS T pb tb c E toks w' i d:=
 ⟨(hb.block pb h.lt.2 (Ne.symm hp) (Ne.symm hp)).trans h.blk,h.ne,⟨Nat.lt_of_lt_of_le h.lt.1 hb.size,Nat.lt_of_lt_of_le h.lt.2 hb.size⟩,fun j t hj a v hv=>(hb.cell h.lt.1 (Ne.symm ht) (Ne.symm ht)).trans (h.tok j t hj a v hv),h.len⟩
theorem zM {w z Z:World} {p pb:Nat} (h:But w z pb pb) (k:But z Z p p) (hp:w.heap.size<=p):But w Z pb pb:=
 ⟨k.os.trans h.os,k.tape.trans h.tape,k.output.trans h.output,Nat.le_trans h.size k.size,fun b hb h1 h2=>(k.block b (Nat.lt_of_lt_of_le hb h.size) (by omega) (by omega)).trans (h.block b hb h1 h2)⟩
section
variable {pb tb c:Nat} {E:Int} {toks:List Tok} {w:World} {i:Nat} {d:Int}
theorem zc3 (t:Tok) (ht:toks[i]?= some t) (hk:t.kind= 2) (h:PSt pb tb c E toks w i d):
  Calls Tryz.prog 250 #[.pointer (some ⟨pb,0,none⟩)] w fun e w'=>e= .returned (.agg ⟨conC 2 t.n 0 ⟨#[]⟩⟩)/\PSt pb tb c E toks w' (i+1) d/\But w w' pb pb:=by
 obtain⟨i0,hi0,hz0,hz1,hz2⟩:=info_parts z2q
 have hno:∀ s,isB toks i s= false:=fun s=>by unfold isB;rw[ht];show(decide (t.kind= 6) && _)= false;rw[hk];rfl
 have HNO:=I hno
 have hil:i < toks.length:=(List.getElem?_eq_some_iff.1 ht).1
 have HIL:=I hil
 have hlen:=h.len
 have HT:=I ht
 have HK:=I hk
 have H:=I h
 have d3:=h.cell 3
 simp only[List.getElem?_toArray,List.getElem?_cons_succ,List.getElem?_cons_zero] at d3
 clear hno hk ht h hil
 go_enter Tryz.func250,Tryz.ntmps250
 go_upto_region 1 with (fail)
 have HR0:=I (Whole.new w zEc 29)
 have HB0:=I (ze w (.cells zEc.toArray 29))
 have hz:=z0n
 rw[hz]
 clear hz
 have HRW:Hid (w.heap.size <(w.alloc (.cells zEc.toArray 29)).heap.size):=I (by simp)
 generalize w.alloc (.cells zEc.toArray 29)= W at*
 obtain⟨p,hp⟩:∃ p,w.heap.size= p:=⟨_,rfl⟩
 rw[hp] at HR0 HRW
 rw[hp]
 have HP:=I hp
 have HS0:=I (H.out.keep HB0.out)
 have HPN:Hid (p≠pb/\p≠tb):=I ⟨by have:=H.out.lt;omega,by have:=H.out.lt;omega⟩
 have d3':=HS0.out.cell 3
 simp only[List.getElem?_toArray,List.getElem?_cons_succ,List.getElem?_cons_zero] at d3'
 clear hp d3
 go_upto_region 3 with (fail)
 clear d3'
 go_upto_region 7 with (go_at_call 143;refine(zD HS0.out (HNO.out _)).mono ?_;rintro e w1 ⟨rfl,h1,h2⟩;have HS1:=I h1;have HB1:=I h2;clear h1 h2)
 go_upto_region 9 with (go_at_call 143;refine(zD HS1.out (HNO.out _)).mono ?_;rintro e w2 ⟨rfl,h1,h2⟩;have HS2:=I h1;have HB2:=I h2;clear h1 h2)
 go_upto_region 11 with (go_at_call 143;refine(zD HS2.out (HNO.out _)).mono ?_;rintro e w3 ⟨rfl,h1,h2⟩;have HS3:=I h1;have HB3:=I h2;clear h1 h2)
 have HB03:=I (HB1.out.trans (HB2.out.trans HB3.out))
 clear HB1 HB2 HB3 HS1 HS2
 have d0:=HS3.out.cell 0
 have d1:=HS3.out.cell 1
 simp only[List.getElem?_toArray,List.getElem?_cons_succ,List.getElem?_cons_zero] at d0 d1
 have c0:w3.cell? ⟨tb,i*6,none⟩= some (.int .i64 2):=(HS3.out.tok i t HT.out 0 _ rfl).trans (by rw[HK.out])
 have q1: ¬ ((toks.length:Int)<=(i:Int)):=by have:=HIL.out;omega
 have q2:(i:Int) <(toks.length:Int):=by have:=HIL.out;omega
 go_quiet (fail)
 have HBQ:Hid (Below w3.heap.size w3 (w3.drewN nq)):=I ⟨rfl,rfl,rfl,Nat.le_refl _,fun _ _=>rfl⟩
 generalize w3.drewN nq= w4 at*
 have HS4:=I (HS3.out.keep HBQ.out)
 have HB04:=I (HB03.out.trans (But.of_below HBQ.out pb pb))
 clear d0 d1 c0 HBQ HS3 HB03
 go_upto_region 14 with (fail)
 have d0:=HS4.out.cell 0
 have d1:=HS4.out.cell 1
 simp only[List.getElem?_toArray,List.getElem?_cons_succ,List.getElem?_cons_zero] at d0 d1
 have ht6:=HS4.out.tok i t HT.out
 have HS4D:=I (HS4.out.keep (Below.refl _ w4).drew)
 have hs:PSt pb tb c E toks w4.drew i d:=HS4D.out
 clear d0 d1 ht6
 refine zu [(0,true),(1,true),(2,true),(3,true),(4,true),(5,true),(6,true),(7,true),(8,true),(9,true),(10,false),(11,false)]
  (fun z=>PSt pb tb c E toks z i d) (by kernel_rfl) (by kernel_rfl) (by kernel_rfl) rfl (by intro c a d v w h;cases d<;>exact h) ?_
 refine zk (some 57) (.pointer (some ⟨pb,0,none⟩)) _ _ rfl rfl rfl (by exact wantA rfl) hs rfl ?_
 go_frame
 refine z8 (some 58) (.pointer (some ⟨pb,0,none⟩)) _ rfl rfl (by exact wantA rfl) hs (fun z hz=>by go_simp) ?_
 go_frame
 refine z8 (some 59) (.pointer (some ⟨pb,0,none⟩)) _ rfl rfl (by exact wantA rfl) hs (fun z hz=>by go_simp) ?_
 go_frame
 refine z8 (some 60) (.slice (some ⟨tb,0,none⟩) toks.length c) _ rfl rfl (by exact wantA rfl) hs (fun z hz=>by have d0:=hz.cell 0;simp only[List.getElem?_toArray,List.getElem?_cons_zero] at d0;clear hz;go_simp) ?_
 go_frame
 refine zk (some 61) (.pointer (some ⟨pb,0,none⟩)) _ _ rfl rfl rfl (by exact wantA rfl) hs rfl ?_
 go_frame
 refine z8 (some 62) (.pointer (some ⟨pb,0,none⟩)) _ rfl rfl (by exact wantA rfl) hs (fun z hz=>by go_simp) ?_
 go_frame
 refine z8 (some 63) (.pointer (some ⟨pb,1,none⟩)) _ rfl rfl (by exact wantA rfl) hs (fun z hz=>by go_simp) ?_
 go_frame
 refine z8 (some 64) (.int .i64 i) _ rfl rfl (by exact wantA rfl) hs (fun z hz=>by have d1:=hz.cell 1;simp only[List.getElem?_toArray,List.getElem?_cons_succ,List.getElem?_cons_zero] at d1;clear hz;go_simp) ?_
 go_frame
 refine z8 (some 65) (.pointer (some ⟨tb,i*6,none⟩)) _ rfl rfl (by exact wantA rfl) hs (fun z hz=>by go_simp) ?_
 go_frame
 refine z8 (some 66) (.agg ⟨tokC t⟩) _ rfl rfl (by exact wantA rfl) hs (fun z hz=>zw 156 rfl tb (i*6) (tokC t) _ rfl (hz.tok i t HT.out) Tryz.underlying156 rfl (by kernel_rfl)) ?_
 go_frame
 have hn:=hs.keep (ze w4.drew (.cells (tokC ⟨0,0,0,0,0,⟨#[]⟩⟩).toArray 156))
 refine z0w (some 4) (.pointer (some ⟨w4.drew.heap.size,0,none⟩)) (w4.drew.alloc (.cells (tokC ⟨0,0,0,0,0,⟨#[]⟩⟩).toArray 156)) _ rfl rfl (by exact wantA rfl) (z25 156 rfl i0 _ hi0 hz0) hn ?_
 go_frame
 refine z23 none 156 _ _ _ rfl rfl rfl (by exact wantA rfl) w4.drew.heap.size (tokC ⟨0,0,0,0,0,⟨#[]⟩⟩) (tokC t) (Whole.new _ _ _) rfl rfl rfl (by kernel_rfl) (z0s t) ?_
 intro w5 hw5 hb5
 have hq5:w4.drew.heap.size≠pb/\w4.drew.heap.size≠tb:=⟨by have:=hs.lt;omega,by have:=hs.lt;omega⟩
 have hs5:=hn.under w4.drew.heap.size hq5.1 hq5.2 hb5
 refine⟨hs5,?_⟩
 go_frame
 refine zR ?_
 have HB45:Hid (Below w4.heap.size w4 w5):=I (((Below.refl _ w4).drew.trans (ze w4.drew _)).trans (hb5.below (B:=w4.heap.size) (by simp) (Nat.le_refl _) (Nat.le_refl _)))
 have HB05:=I (HB04.out.trans (But.of_below HB45.out pb pb))
 have HS5:=I hs5
 obtain⟨qb,hqb⟩:∃ q,w4.drew.heap.size= q:=⟨_,rfl⟩
 rw[hqb] at hw5 hq5
 have HQ5:=I hq5
 have HT5:=I hw5
 rw[hqb]
 clear hs hn hs5 hb5 hw5 hq5 hqb HB04 HB45
 have HR5:=I (HR0.out.keep (HB05.out.block p HRW.out HPN.out.1 HPN.out.1))
 go_upto_region 15 with (fail)
 have d1:=HS5.out.cell 1
 have f1:=HS5.out.thaw 1
 simp only[List.getElem?_toArray,List.getElem?_cons_succ,List.getElem?_cons_zero] at d1
 have HS6:=I (HS5.out.setI (i+1))
 have HB6:=I (But.setAt w5 pb 1 (.int .i64 ((i+1:Nat):Int)))
 have HT6:=I (HT5.out.keep (HB6.out.block qb HT5.out.lt HQ5.out.1 HQ5.out.1))
 have HR6:=I (HR5.out.keep (HB6.out.block p HR5.out.lt HPN.out.1 HPN.out.1))
 have hcs:w5.setCell ⟨pb,1,none⟩ (.int .i64 ((i+1:Nat):Int))= w5.setCell ⟨pb,1,none⟩ (.int .i64 ((i:Int)+1)):=rfl
 rw[hcs] at HS6 HB6 HT6 HR6
 clear hcs
 go_upto_region 16 with (fail)
 generalize w5.setCell ⟨pb,1,none⟩ (.int .i64 ((i:Int)+1))= w6 at*
 clear d1 f1
 have HB06:=I (HB05.out.trans HB6.out)
 have k0:w6.cell? ⟨qb,0,none⟩= some (.int .i64 2):=(HT6.out.cells 0 rfl).trans (by rw[HK.out])
 have k3:w6.cell? ⟨qb,3,none⟩= some (.int .i64 t.n):=HT6.out.cells 3 rfl
 go_wp2_with (first
  |(go_at_call 254;refine(z5M 2 t.n 0 ⟨#[]⟩ w6).mono ?_;rintro e z ⟨rfl,hb⟩;have HBZ:=I hb;have HRZ:=I (HR6.out.keep (hb.block p HR6.out.lt));clear hb)
  |((with_reducible refine zh 29 _ _ rfl rfl ?hwd p zEc (conC 2 t.n 0 ⟨#[]⟩) HRZ.out ?hs5 ?hs6 ?hs7 ?hs8 ?hs9 ?_);(case hwd=>exact wantA rfl);(case hs5=>rfl);(case hs6=>rfl);(case hs7=>rfl);(case hs8=>kernel_rfl);(case hs9=>exact z42 2 t.n 0 ⟨#[]⟩);intro Z hz hb;have HZ:=I hz;have HZB:=I hb;clear hz hb))
 (try simp only[Exit.inBlock,Exit.then])
 refine bodyPost_ret (zO rfl _ _ p (conC 2 t.n 0 ⟨#[]⟩) (z43 2 t.n 0 ⟨#[]⟩) rfl HZ.out) rfl ?_
 have hp:=HP.out
 have hbz:=(But.of_below HB0.out pb pb).trans (HB06.out.trans (But.of_below HBZ.out pb pb))
 exact⟨rfl,(HS6.out.keep HBZ.out).under p HPN.out.1 HPN.out.2 HZB.out,zM hbz HZB.out (by omega)⟩
theorem zbK (t:Tok) (ht:toks[i]?= some t) (hk:t.kind= 3) (h:PSt pb tb c E toks w i d):
  Calls Tryz.prog 250 #[.pointer (some ⟨pb,0,none⟩)] w fun e w'=>e= .returned (.agg ⟨conC 3 0 t.f ⟨#[]⟩⟩)/\PSt pb tb c E toks w' (i+1) d/\But w w' pb pb:=by
 obtain⟨i0,hi0,hz0,hz1,hz2⟩:=info_parts z2q
 have hno:∀ s,isB toks i s= false:=fun s=>by unfold isB;rw[ht];show(decide (t.kind= 6) && _)= false;rw[hk];rfl
 have HNO:=I hno
 have hil:i < toks.length:=(List.getElem?_eq_some_iff.1 ht).1
 have HIL:=I hil
 have hlen:=h.len
 have HT:=I ht
 have HK:=I hk
 have H:=I h
 have d3:=h.cell 3
 simp only[List.getElem?_toArray,List.getElem?_cons_succ,List.getElem?_cons_zero] at d3
 clear hno hk ht h hil
 go_enter Tryz.func250,Tryz.ntmps250
 go_upto_region 1 with (fail)
 have HR0:=I (Whole.new w zEc 29)
 have HB0:=I (ze w (.cells zEc.toArray 29))
 have hz:=z0n
 rw[hz]
 clear hz
 have HRW:Hid (w.heap.size <(w.alloc (.cells zEc.toArray 29)).heap.size):=I (by simp)
 generalize w.alloc (.cells zEc.toArray 29)= W at*
 obtain⟨p,hp⟩:∃ p,w.heap.size= p:=⟨_,rfl⟩
 rw[hp] at HR0 HRW
 rw[hp]
 have HP:=I hp
 have HS0:=I (H.out.keep HB0.out)
 have HPN:Hid (p≠pb/\p≠tb):=I ⟨by have:=H.out.lt;omega,by have:=H.out.lt;omega⟩
 have d3':=HS0.out.cell 3
 simp only[List.getElem?_toArray,List.getElem?_cons_succ,List.getElem?_cons_zero] at d3'
 clear hp d3
 go_upto_region 3 with (fail)
 clear d3'
 go_upto_region 7 with (go_at_call 143;refine(zD HS0.out (HNO.out _)).mono ?_;rintro e w1 ⟨rfl,h1,h2⟩;have HS1:=I h1;have HB1:=I h2;clear h1 h2)
 go_upto_region 9 with (go_at_call 143;refine(zD HS1.out (HNO.out _)).mono ?_;rintro e w2 ⟨rfl,h1,h2⟩;have HS2:=I h1;have HB2:=I h2;clear h1 h2)
 go_upto_region 11 with (go_at_call 143;refine(zD HS2.out (HNO.out _)).mono ?_;rintro e w3 ⟨rfl,h1,h2⟩;have HS3:=I h1;have HB3:=I h2;clear h1 h2)
 have HB03:=I (HB1.out.trans (HB2.out.trans HB3.out))
 clear HB1 HB2 HB3 HS1 HS2
 have d0:=HS3.out.cell 0
 have d1:=HS3.out.cell 1
 simp only[List.getElem?_toArray,List.getElem?_cons_succ,List.getElem?_cons_zero] at d0 d1
 have c0:w3.cell? ⟨tb,i*6,none⟩= some (.int .i64 3):=(HS3.out.tok i t HT.out 0 _ rfl).trans (by rw[HK.out])
 have q1: ¬ ((toks.length:Int)<=(i:Int)):=by have:=HIL.out;omega
 have q2:(i:Int) <(toks.length:Int):=by have:=HIL.out;omega
 go_quiet (fail)
 have HBQ:Hid (Below w3.heap.size w3 (w3.drewN nq)):=I ⟨rfl,rfl,rfl,Nat.le_refl _,fun _ _=>rfl⟩
 generalize w3.drewN nq= w4 at*
 have HS4:=I (HS3.out.keep HBQ.out)
 have HB04:=I (HB03.out.trans (But.of_below HBQ.out pb pb))
 clear d0 d1 c0 HBQ HS3 HB03
 go_upto_region 14 with (fail)
 have d0:=HS4.out.cell 0
 have d1:=HS4.out.cell 1
 simp only[List.getElem?_toArray,List.getElem?_cons_succ,List.getElem?_cons_zero] at d0 d1
 have ht6:=HS4.out.tok i t HT.out
 have HS4D:=I (HS4.out.keep (Below.refl _ w4).drew)
 have hs:PSt pb tb c E toks w4.drew i d:=HS4D.out
 clear d0 d1 ht6
 refine zu [(0,true),(1,true),(2,true),(3,true),(4,true),(5,true),(6,true),(7,true),(8,true),(9,true),(10,false),(11,false)]
  (fun z=>PSt pb tb c E toks z i d) (by kernel_rfl) (by kernel_rfl) (by kernel_rfl) rfl (by intro c a d v w h;cases d<;>exact h) ?_
 refine zk (some 57) (.pointer (some ⟨pb,0,none⟩)) _ _ rfl rfl rfl (by exact wantA rfl) hs rfl ?_
 go_frame
 refine z8 (some 58) (.pointer (some ⟨pb,0,none⟩)) _ rfl rfl (by exact wantA rfl) hs (fun z hz=>by go_simp) ?_
 go_frame
 refine z8 (some 59) (.pointer (some ⟨pb,0,none⟩)) _ rfl rfl (by exact wantA rfl) hs (fun z hz=>by go_simp) ?_
 go_frame
 refine z8 (some 60) (.slice (some ⟨tb,0,none⟩) toks.length c) _ rfl rfl (by exact wantA rfl) hs (fun z hz=>by have d0:=hz.cell 0;simp only[List.getElem?_toArray,List.getElem?_cons_zero] at d0;clear hz;go_simp) ?_
 go_frame
 refine zk (some 61) (.pointer (some ⟨pb,0,none⟩)) _ _ rfl rfl rfl (by exact wantA rfl) hs rfl ?_
 go_frame
 refine z8 (some 62) (.pointer (some ⟨pb,0,none⟩)) _ rfl rfl (by exact wantA rfl) hs (fun z hz=>by go_simp) ?_
 go_frame
 refine z8 (some 63) (.pointer (some ⟨pb,1,none⟩)) _ rfl rfl (by exact wantA rfl) hs (fun z hz=>by go_simp) ?_
 go_frame
 refine z8 (some 64) (.int .i64 i) _ rfl rfl (by exact wantA rfl) hs (fun z hz=>by have d1:=hz.cell 1;simp only[List.getElem?_toArray,List.getElem?_cons_succ,List.getElem?_cons_zero] at d1;clear hz;go_simp) ?_
 go_frame
 refine z8 (some 65) (.pointer (some ⟨tb,i*6,none⟩)) _ rfl rfl (by exact wantA rfl) hs (fun z hz=>by go_simp) ?_
 go_frame
 refine z8 (some 66) (.agg ⟨tokC t⟩) _ rfl rfl (by exact wantA rfl) hs (fun z hz=>zw 156 rfl tb (i*6) (tokC t) _ rfl (hz.tok i t HT.out) Tryz.underlying156 rfl (by kernel_rfl)) ?_
 go_frame
 have hn:=hs.keep (ze w4.drew (.cells (tokC ⟨0,0,0,0,0,⟨#[]⟩⟩).toArray 156))
 refine z0w (some 4) (.pointer (some ⟨w4.drew.heap.size,0,none⟩)) (w4.drew.alloc (.cells (tokC ⟨0,0,0,0,0,⟨#[]⟩⟩).toArray 156)) _ rfl rfl (by exact wantA rfl) (z25 156 rfl i0 _ hi0 hz0) hn ?_
 go_frame
 refine z23 none 156 _ _ _ rfl rfl rfl (by exact wantA rfl) w4.drew.heap.size (tokC ⟨0,0,0,0,0,⟨#[]⟩⟩) (tokC t) (Whole.new _ _ _) rfl rfl rfl (by kernel_rfl) (z0s t) ?_
 intro w5 hw5 hb5
 have hq5:w4.drew.heap.size≠pb/\w4.drew.heap.size≠tb:=⟨by have:=hs.lt;omega,by have:=hs.lt;omega⟩
 have hs5:=hn.under w4.drew.heap.size hq5.1 hq5.2 hb5
 refine⟨hs5,?_⟩
 go_frame
 refine zR ?_
 have HB45:Hid (Below w4.heap.size w4 w5):=I (((Below.refl _ w4).drew.trans (ze w4.drew _)).trans (hb5.below (B:=w4.heap.size) (by simp) (Nat.le_refl _) (Nat.le_refl _)))
 have HB05:=I (HB04.out.trans (But.of_below HB45.out pb pb))
 have HS5:=I hs5
 obtain⟨qb,hqb⟩:∃ q,w4.drew.heap.size= q:=⟨_,rfl⟩
 rw[hqb] at hw5 hq5
 have HQ5:=I hq5
 have HT5:=I hw5
 rw[hqb]
 clear hs hn hs5 hb5 hw5 hq5 hqb HB04 HB45
 have HR5:=I (HR0.out.keep (HB05.out.block p HRW.out HPN.out.1 HPN.out.1))
 go_upto_region 15 with (fail)
 have d1:=HS5.out.cell 1
 have f1:=HS5.out.thaw 1
 simp only[List.getElem?_toArray,List.getElem?_cons_succ,List.getElem?_cons_zero] at d1
 have HS6:=I (HS5.out.setI (i+1))
 have HB6:=I (But.setAt w5 pb 1 (.int .i64 ((i+1:Nat):Int)))
 have HT6:=I (HT5.out.keep (HB6.out.block qb HT5.out.lt HQ5.out.1 HQ5.out.1))
 have HR6:=I (HR5.out.keep (HB6.out.block p HR5.out.lt HPN.out.1 HPN.out.1))
 have hcs:w5.setCell ⟨pb,1,none⟩ (.int .i64 ((i+1:Nat):Int))= w5.setCell ⟨pb,1,none⟩ (.int .i64 ((i:Int)+1)):=rfl
 rw[hcs] at HS6 HB6 HT6 HR6
 clear hcs
 go_upto_region 16 with (fail)
 generalize w5.setCell ⟨pb,1,none⟩ (.int .i64 ((i:Int)+1))= w6 at*
 clear d1 f1
 have HB06:=I (HB05.out.trans HB6.out)
 have k0:w6.cell? ⟨qb,0,none⟩= some (.int .i64 3):=(HT6.out.cells 0 rfl).trans (by rw[HK.out])
 have k4:w6.cell? ⟨qb,4,none⟩= some (.float .f64 t.f):=HT6.out.cells 4 rfl
 go_wp2_with (first
  |(go_at_call 254;refine(z5M 3 0 t.f ⟨#[]⟩ w6).mono ?_;rintro e z ⟨rfl,hb⟩;have HBZ:=I hb;have HRZ:=I (HR6.out.keep (hb.block p HR6.out.lt));clear hb)
  |((with_reducible refine zh 29 _ _ rfl rfl ?hwd p zEc (conC 3 0 t.f ⟨#[]⟩) HRZ.out ?hs5 ?hs6 ?hs7 ?hs8 ?hs9 ?_);(case hwd=>exact wantA rfl);(case hs5=>rfl);(case hs6=>rfl);(case hs7=>rfl);(case hs8=>kernel_rfl);(case hs9=>exact z42 3 0 t.f ⟨#[]⟩);intro Z hz hb;have HZ:=I hz;have HZB:=I hb;clear hz hb))
 (try simp only[Exit.inBlock,Exit.then])
 refine bodyPost_ret (zO rfl _ _ p (conC 3 0 t.f ⟨#[]⟩) (z43 3 0 t.f ⟨#[]⟩) rfl HZ.out) rfl ?_
 have hp:=HP.out
 have hbz:=(But.of_below HB0.out pb pb).trans (HB06.out.trans (But.of_below HBZ.out pb pb))
 exact⟨rfl,(HS6.out.keep HBZ.out).under p HPN.out.1 HPN.out.2 HZB.out,zM hbz HZB.out (by omega)⟩
theorem zaa (t:Tok) (ht:toks[i]?= some t) (hk:t.kind= 5) (hpl:z7l t.s= true) (h:PSt pb tb c E toks w i d):
  Calls Tryz.prog 250 #[.pointer (some ⟨pb,0,none⟩)] w fun e w'=>e= .returned (.agg ⟨varC t.s⟩)/\PSt pb tb c E toks w' (i+1) d/\But w w' pb pb:=by
 obtain⟨i0,hi0,hz0,hz1,hz2⟩:=info_parts z2q
 have hno:∀ s,isB toks i s= false:=fun s=>by unfold isB;rw[ht];show(decide (t.kind= 6) && _)= false;rw[hk];rfl
 have HNO:=I hno
 have hil:i < toks.length:=(List.getElem?_eq_some_iff.1 ht).1
 have HIL:=I hil
 have hlen:=h.len
 have HT:=I ht
 have HK:=I hk
 have H:=I h
 have d3:=h.cell 3
 simp only[List.getElem?_toArray,List.getElem?_cons_succ,List.getElem?_cons_zero] at d3
 have HPL:=I hpl
 clear hno hk ht h hil hpl
 go_enter Tryz.func250,Tryz.ntmps250
 go_upto_region 1 with (fail)
 have HR0:=I (Whole.new w zEc 29)
 have HB0:=I (ze w (.cells zEc.toArray 29))
 have hz:=z0n
 rw[hz]
 clear hz
 have HRW:Hid (w.heap.size <(w.alloc (.cells zEc.toArray 29)).heap.size):=I (by simp)
 generalize w.alloc (.cells zEc.toArray 29)= W at*
 obtain⟨p,hp⟩:∃ p,w.heap.size= p:=⟨_,rfl⟩
 rw[hp] at HR0 HRW
 rw[hp]
 have HP:=I hp
 have HS0:=I (H.out.keep HB0.out)
 have HPN:Hid (p≠pb/\p≠tb):=I ⟨by have:=H.out.lt;omega,by have:=H.out.lt;omega⟩
 have d3':=HS0.out.cell 3
 simp only[List.getElem?_toArray,List.getElem?_cons_succ,List.getElem?_cons_zero] at d3'
 clear hp d3
 go_upto_region 3 with (fail)
 clear d3'
 go_upto_region 7 with (go_at_call 143;refine(zD HS0.out (HNO.out _)).mono ?_;rintro e w1 ⟨rfl,h1,h2⟩;have HS1:=I h1;have HB1:=I h2;clear h1 h2)
 go_upto_region 9 with (go_at_call 143;refine(zD HS1.out (HNO.out _)).mono ?_;rintro e w2 ⟨rfl,h1,h2⟩;have HS2:=I h1;have HB2:=I h2;clear h1 h2)
 go_upto_region 11 with (go_at_call 143;refine(zD HS2.out (HNO.out _)).mono ?_;rintro e w3 ⟨rfl,h1,h2⟩;have HS3:=I h1;have HB3:=I h2;clear h1 h2)
 have HB03:=I (HB1.out.trans (HB2.out.trans HB3.out))
 clear HB1 HB2 HB3 HS1 HS2
 have d0:=HS3.out.cell 0
 have d1:=HS3.out.cell 1
 simp only[List.getElem?_toArray,List.getElem?_cons_succ,List.getElem?_cons_zero] at d0 d1
 have c0:w3.cell? ⟨tb,i*6,none⟩= some (.int .i64 5):=(HS3.out.tok i t HT.out 0 _ rfl).trans (by rw[HK.out])
 have q1: ¬ ((toks.length:Int)<=(i:Int)):=by have:=HIL.out;omega
 have q2:(i:Int) <(toks.length:Int):=by have:=HIL.out;omega
 go_quiet (fail)
 have HBQ:Hid (Below w3.heap.size w3 (w3.drewN nq)):=I ⟨rfl,rfl,rfl,Nat.le_refl _,fun _ _=>rfl⟩
 generalize w3.drewN nq= w4 at*
 have HS4:=I (HS3.out.keep HBQ.out)
 have HB04:=I (HB03.out.trans (But.of_below HBQ.out pb pb))
 clear d0 d1 c0 HBQ HS3 HB03
 go_upto_region 14 with (fail)
 have d0:=HS4.out.cell 0
 have d1:=HS4.out.cell 1
 simp only[List.getElem?_toArray,List.getElem?_cons_succ,List.getElem?_cons_zero] at d0 d1
 have ht6:=HS4.out.tok i t HT.out
 have HS4D:=I (HS4.out.keep (Below.refl _ w4).drew)
 have hs:PSt pb tb c E toks w4.drew i d:=HS4D.out
 clear d0 d1 ht6
 refine zu [(0,true),(1,true),(2,true),(3,true),(4,true),(5,true),(6,true),(7,true),(8,true),(9,true),(10,false),(11,false)]
  (fun z=>PSt pb tb c E toks z i d) (by kernel_rfl) (by kernel_rfl) (by kernel_rfl) rfl (by intro c a d v w h;cases d<;>exact h) ?_
 refine zk (some 57) (.pointer (some ⟨pb,0,none⟩)) _ _ rfl rfl rfl (by exact wantA rfl) hs rfl ?_
 go_frame
 refine z8 (some 58) (.pointer (some ⟨pb,0,none⟩)) _ rfl rfl (by exact wantA rfl) hs (fun z hz=>by go_simp) ?_
 go_frame
 refine z8 (some 59) (.pointer (some ⟨pb,0,none⟩)) _ rfl rfl (by exact wantA rfl) hs (fun z hz=>by go_simp) ?_
 go_frame
 refine z8 (some 60) (.slice (some ⟨tb,0,none⟩) toks.length c) _ rfl rfl (by exact wantA rfl) hs (fun z hz=>by have d0:=hz.cell 0;simp only[List.getElem?_toArray,List.getElem?_cons_zero] at d0;clear hz;go_simp) ?_
 go_frame
 refine zk (some 61) (.pointer (some ⟨pb,0,none⟩)) _ _ rfl rfl rfl (by exact wantA rfl) hs rfl ?_
 go_frame
 refine z8 (some 62) (.pointer (some ⟨pb,0,none⟩)) _ rfl rfl (by exact wantA rfl) hs (fun z hz=>by go_simp) ?_
 go_frame
 refine z8 (some 63) (.pointer (some ⟨pb,1,none⟩)) _ rfl rfl (by exact wantA rfl) hs (fun z hz=>by go_simp) ?_
 go_frame
 refine z8 (some 64) (.int .i64 i) _ rfl rfl (by exact wantA rfl) hs (fun z hz=>by have d1:=hz.cell 1;simp only[List.getElem?_toArray,List.getElem?_cons_succ,List.getElem?_cons_zero] at d1;clear hz;go_simp) ?_
 go_frame
 refine z8 (some 65) (.pointer (some ⟨tb,i*6,none⟩)) _ rfl rfl (by exact wantA rfl) hs (fun z hz=>by go_simp) ?_
 go_frame
 refine z8 (some 66) (.agg ⟨tokC t⟩) _ rfl rfl (by exact wantA rfl) hs (fun z hz=>zw 156 rfl tb (i*6) (tokC t) _ rfl (hz.tok i t HT.out) Tryz.underlying156 rfl (by kernel_rfl)) ?_
 go_frame
 have hn:=hs.keep (ze w4.drew (.cells (tokC ⟨0,0,0,0,0,⟨#[]⟩⟩).toArray 156))
 refine z0w (some 4) (.pointer (some ⟨w4.drew.heap.size,0,none⟩)) (w4.drew.alloc (.cells (tokC ⟨0,0,0,0,0,⟨#[]⟩⟩).toArray 156)) _ rfl rfl (by exact wantA rfl) (z25 156 rfl i0 _ hi0 hz0) hn ?_
 go_frame
 refine z23 none 156 _ _ _ rfl rfl rfl (by exact wantA rfl) w4.drew.heap.size (tokC ⟨0,0,0,0,0,⟨#[]⟩⟩) (tokC t) (Whole.new _ _ _) rfl rfl rfl (by kernel_rfl) (z0s t) ?_
 intro w5 hw5 hb5
 have hq5:w4.drew.heap.size≠pb/\w4.drew.heap.size≠tb:=⟨by have:=hs.lt;omega,by have:=hs.lt;omega⟩
 have hs5:=hn.under w4.drew.heap.size hq5.1 hq5.2 hb5
 refine⟨hs5,?_⟩
 go_frame
 refine zR ?_
 have HB45:Hid (Below w4.heap.size w4 w5):=I (((Below.refl _ w4).drew.trans (ze w4.drew _)).trans (hb5.below (B:=w4.heap.size) (by simp) (Nat.le_refl _) (Nat.le_refl _)))
 have HB05:=I (HB04.out.trans (But.of_below HB45.out pb pb))
 have HS5:=I hs5
 obtain⟨qb,hqb⟩:∃ q,w4.drew.heap.size= q:=⟨_,rfl⟩
 rw[hqb] at hw5 hq5
 have HQ5:=I hq5
 have HT5:=I hw5
 rw[hqb]
 clear hs hn hs5 hb5 hw5 hq5 hqb HB04 HB45
 have HR5:=I (HR0.out.keep (HB05.out.block p HRW.out HPN.out.1 HPN.out.1))
 go_upto_region 15 with (fail)
 have d1:=HS5.out.cell 1
 have f1:=HS5.out.thaw 1
 simp only[List.getElem?_toArray,List.getElem?_cons_succ,List.getElem?_cons_zero] at d1
 have HS6:=I (HS5.out.setI (i+1))
 have HB6:=I (But.setAt w5 pb 1 (.int .i64 ((i+1:Nat):Int)))
 have HT6:=I (HT5.out.keep (HB6.out.block qb HT5.out.lt HQ5.out.1 HQ5.out.1))
 have HR6:=I (HR5.out.keep (HB6.out.block p HR5.out.lt HPN.out.1 HPN.out.1))
 have hcs:w5.setCell ⟨pb,1,none⟩ (.int .i64 ((i+1:Nat):Int))= w5.setCell ⟨pb,1,none⟩ (.int .i64 ((i:Int)+1)):=rfl
 rw[hcs] at HS6 HB6 HT6 HR6
 clear hcs
 go_upto_region 16 with (fail)
 generalize w5.setCell ⟨pb,1,none⟩ (.int .i64 ((i:Int)+1))= w6 at*
 clear d1 f1
 have HB06:=I (HB05.out.trans HB6.out)
 have k0:w6.cell? ⟨qb,0,none⟩= some (.int .i64 5):=(HT6.out.cells 0 rfl).trans (by rw[HK.out])
 have k5:w6.cell? ⟨qb,5,none⟩= some (.string t.s):=HT6.out.cells 5 rfl
 have hpl2:=HPL.out
 unfold z7l at hpl2
 simp only[Bool.and_eq_true,Bool.not_eq_true'] at hpl2
 obtain⟨n1,n2,n3,n4,n5,n6⟩:=hpl2
 go_wp2_with ((with_reducible refine zh 29 _ _ rfl rfl ?hwd p zEc (varC t.s) HR6.out ?hs5 ?hs6 ?hs7 ?hs8 ?hs9 ?_);(case hwd=>exact wantA rfl);(case hs5=>rfl);(case hs6=>rfl);(case hs7=>rfl);(case hs8=>kernel_rfl);(case hs9=>exact zd1 t.s);intro Z hz hb;have HZ:=I hz;have HZB:=I hb;clear hz hb)
 (try simp only[Exit.inBlock,Exit.then])
 refine bodyPost_ret (zO rfl _ _ p (varC t.s) rfl rfl HZ.out) rfl ?_
 have hp:=HP.out
 have hbz:=(But.of_below HB0.out pb pb).trans HB06.out
 exact⟨rfl,HS6.out.under p HPN.out.1 HPN.out.2 HZB.out,zM hbz HZB.out (by omega)⟩
end
end
end Go.Proofs.YtmpbepjjbaeebaaGreatDoor
