/- Parts of a proof: Build1, Par1, Order5, Par2, Par3. -/
import Derived.Test.YtmpbepjjbaeebaaGreatDoorPackM5
import Derived.Test.YtmpbepjjbaeebaaGreatDoorPackM7
import Derived.Test.YtmpbepjjbaeebaaGreatDoorPackM8
set_option maxHeartbeats 8000000
set_option maxRecDepth 100000
set_option linter.unusedVariables false
set_option linter.unusedSimpArgs false
section
namespace Go.Proofs.YtmpbepjjbaeebaaGreatDoor
open Go
open Go.Lib (hid)
theorem fill_list:∀ (ks pre rest:List Value),rest.length= ks.length→
  (ks.zipIdx pre.length).foldl (fun(cs:Array Value) (p:Value × Nat)=>cs.setIfInBounds (0+p.2) p.1) (pre ++ rest).toArray=(pre ++ ks).toArray
 |[],pre,rest,h=>by
  rw[List.eq_nil_of_length_eq_zero h];rfl
 |k::ks,pre,rest,h=>by
  cases rest with
  |nil=>cases h
  |cons r rest=>
   rw[List.zipIdx_cons,List.foldl_cons]
   have h1:(pre ++ r::rest).toArray.setIfInBounds (0+pre.length) k=((pre ++ [k]) ++ rest).toArray:=by
    rw[Nat.zero_add,List.setIfInBounds_toArray]
    congr 1
    simp
   show List.foldl _ ((pre ++ r::rest).toArray.setIfInBounds (0+pre.length) k) _= _
   rw[h1]
   have:=fill_list ks (pre ++ [k]) rest (by simpa using h)
   rw[List.length_append] at this
   rw[List.append_assoc] at this ⊢
   rw[List.append_assoc] at this
   exact this
theorem fill_one (size:Nat) (ks:List Value) (cells:Array Value) (h1:ks.length= size) (h2:cells.size= size):Instr.fill (fun i=>some (i*size,size)) cells [(0,.agg ks.toArray)]= some ks.toArray:=by
 unfold Instr.fill
 simp only[Nat.zero_mul]
 have hc:(Value.agg ks.toArray).cells= ks.toArray:=rfl
 rw[hc]
 rw[if_neg (by simp[h1,h2])]
 unfold Instr.fill
 congr 1
 have:=fill_list ks [] cells.toList (by simpa [h1] using h2)
 simpa using this
section
variable {P:Program}
theorem run_build1 (w:World) (t e:TypeId) (i:TypeInfo) (z:Value) (ks:List Value) (ht:P.underlying t= some (.slice e)) (hi:P.info? e= some i) (hz:i.zero= some z) (hsz:i.size= ks.length) (h0:0 < ks.length) (hmax:ks.length≤1000):
  (Instr.buildSlice t 1 #[(0,.agg ks.toArray)]).run P w= .ok (.slice (some ⟨w.heap.size,0,none⟩) 1 1) (w.alloc (.cells ⟨ks⟩ e)):=by
 have hs:(sizeOf e).run P w= .ok ks.length w:=by simp[sizeOf,typeInfo,hi,hsz]
 have hzv:(zeroValue e).run P w= .ok z w:=by simp[zeroValue,typeInfo,hi,hz]
 have hf:∀ cells:Array Value,cells.size= ks.length→Instr.fill (fun i=>some (i*ks.length,ks.length)) cells [(0,.agg ks.toArray)]= some ks.toArray:=fun cells hc=>fill_one ks.length ks cells rfl hc
 unfold Instr.buildSlice
 simp only[Sem.run_bind,run_underlying ht,Result.andThen_ok,hs,Nat.one_mul]
 rw[if_neg (by omega),if_neg (by omega)]
 simp only[Sem.run_bind,Sem.run_pure,Result.andThen_ok,hzv]
 rw[hf _ (by simp)]
 simp[newRow]
variable {ops:Array Oper} {rest:List Oper} {o:Oper} {a:Act} {w:World} {Q:Exit→Act→World→Prop}
theorem wl_build1 (t:TypeId) (x:Operand) (ho:o.op= .buildSlice t 1 #[(0,x)]) (hw:Region.wanted o (yielded ops a.tmps)= true) (e:TypeId) (i:TypeInfo) (z:Value) (ks:List Value) (hx:a.eval x= .agg ks.toArray)
  (ht:P.underlying t= some (.slice e)) (hi:P.info? e= some i) (hz:i.zero= some z) (hsz:i.size= ks.length) (h0:0 < ks.length) (hmax:ks.length≤1000)
  (h:wpList P ops Q rest (a.put o.dst (.slice (some ⟨w.heap.size,0,none⟩) 1 1)) (w.alloc (.cells ⟨ks⟩ e))):wpList P ops Q (o::rest) a w:=by
 refine wpList_step fun K hK=> ?_
 rw[if_pos hw]
 unfold Oper.wp execOp
 have hr:=run_build1 (P:=P) w t e i z ks ht hi hz hsz h0 hmax
 simp only[ho,List.map_toArray,List.map_cons,List.map_nil,hx,Sem.run_bind,Sem.run_pure,Result.andThen_ok,hr]
 exact hK _ _ h
end
end Go.Proofs.YtmpbepjjbaeebaaGreatDoor
end
section
namespace Go.Proofs.YtmpbepjjbaeebaaGreatDoor
open Go Go.RowKit
open Go.Lib (hid)
abbrev PSt (pb tb c:Nat) (E:Int) (toks:List Tok) (w:World) (i:Nat) (d:Int):Prop:=PS 121 pb tb c E toks w i d
def isB (toks:List Tok) (i:Nat) (s:ByteArray):Bool:=match toks[i]? with
 |some t=>decide (t.kind= 6) && (t.s.toList ==s.toList)
 |none=>false
section
variable {pb tb c:Nat} {E:Int} {toks:List Tok} {w w':World} {i:Nat} {d:Int}
theorem pis_any (s:ByteArray) (h:PSt pb tb c E toks w i d):Calls Tryz.prog 183 #[.pointer (some ⟨pb,0,none⟩),.string s] w fun e w'=>e= .returned (.bool (isB toks i s))∧Below w.heap.size w w':=by
 have HB:Hid (∀ n,Below w.heap.size w (w.drewN n)):=hid fun n=>⟨rfl,rfl,rfl,Nat.le_refl _,fun _ _=>rfl⟩
 have d0:=h.cell 0
 have d1:=h.cell 1
 have d3:=h.cell 3
 simp only[List.getElem?_toArray,List.getElem?_cons_succ,List.getElem?_cons_zero] at d0 d1 d3
 have hl:=h.len
 by_cases hi:i < toks.length
 ·obtain⟨t,ht⟩:∃ t,toks[i]?= some t:=⟨_,List.getElem?_eq_getElem hi⟩
  have hr:=h.tok i t ht
  have c0:w.cell? ⟨tb,i*6,none⟩= some (.int .i64 t.kind):=hr 0 _ rfl
  have c5:w.cell? ⟨tb,i*6+5,none⟩= some (.string t.s):=hr 5 _ rfl
  have hlt:(i:Int) <(toks.length:Int):=by omega
  have hb:isB toks i s=(decide (t.kind= 6) && (t.s.toList ==s.toList)):=by unfold isB;rw[ht]
  by_cases hk:t.kind= 6
  ·have e6:(t.kind ==6)= true:=by simpa using hk
   have hb2:isB toks i s=(t.s.toList ==s.toList):=by rw[hb,decide_eq_true hk];rfl
   have HR:=hid hb2
   clear h hr ht hb hb2 hk
   generalize t.kind= tk at*
   go_enter Tryz.func183,Tryz.ntmps183
   go_upto_region 1 with (fail)
   go_quiet (fail)
   go_wp2
   go_ret
   exact⟨by rw[HR.out];rfl,HB.out _⟩
  ·have e6:(t.kind ==6)= false:=by simpa using hk
   have HR:Hid (isB toks i s= false):=hid (by rw[hb,decide_eq_false hk];rfl)
   clear h hr ht hb c5
   generalize t.kind= tk at*
   go_enter Tryz.func183,Tryz.ntmps183
   go_upto_region 1 with (fail)
   go_quiet (fail)
   go_wp2
   go_ret
   exact⟨by rw[HR.out];rfl,HB.out _⟩
 ·have HR:Hid (isB toks i s= false):=hid (by unfold isB;rw[List.getElem?_eq_none (by omega)])
  have hlt: ¬ ((i:Int) <(toks.length:Int)):=by omega
  clear h hi
  go_enter Tryz.func183,Tryz.ntmps183
  go_upto_region 1 with (fail)
  go_quiet (fail)
  go_wp2
  go_ret
  exact⟨by rw[HR.out];rfl,HB.out _⟩
theorem isB_lt {s:ByteArray} (h:isB toks i s= true):i < toks.length:=by
 unfold isB at h
 cases ht:toks[i]? with
 |none=>rw[ht] at h;cases h
 |some t=>exact(List.getElem?_eq_some_iff.1 ht).1
theorem PS.keepB {T:TypeId} (h:PS T pb tb c E toks w i d) (hb:Below w.heap.size w w'):PS T pb tb c E toks w' i d∧But w w' pb pb:=⟨h.keep hb,But.of_below hb pb pb⟩
theorem take_any (s:ByteArray) (h:PSt pb tb c E toks w i d):Calls Tryz.prog 143 #[.pointer (some ⟨pb,0,none⟩),.string s] w fun e w'=>
  e= .returned (.bool (isB toks i s))∧PSt pb tb c E toks w' (if isB toks i s= true then i+1 else i) d∧But w w' pb pb:=by
 have HI:=hid (pis_any s h)
 have H:=hid h
 cases hb:isB toks i s with
 |false=>
  rw[hb] at HI
  clear h hb
  go_enter Tryz.func143,Tryz.ntmps143
  go_wp2_with (go_at_call 183;refine HI.out.mono ?_;rintro e z ⟨rfl,hb⟩;have HB:=hid hb;clear hb)
  go_ret
  exact⟨rfl,(H.out.keepB HB.out).1,(H.out.keepB HB.out).2⟩
 |true=>
  have hlt:=isB_lt hb
  have hl:=h.len
  rw[hb] at HI
  have HW:Hid (IntKind.i64.wrap ((i:Int)+1)=((i+1:Nat):Int)):=hid (by rw[IntKind.wrap_i64];omega)
  clear h hb
  go_enter Tryz.func143,Tryz.ntmps143
  go_upto_region 2 with (go_at_call 183;refine HI.out.mono ?_;rintro e z ⟨rfl,hb⟩;have HB:=hid hb;have d1:=(H.out.keep hb).cell 1;have f1:=(H.out.keep hb).thaw 1;clear hb)
  simp only[List.getElem?_toArray,List.getElem?_cons_succ,List.getElem?_cons_zero] at d1
  go_wp2
  go_ret
  have h2:=(H.out.keep HB.out).setI (i+1)
  have h3:=(But.of_below HB.out pb pb).trans (But.setAt z pb 1 (.int .i64 ((i+1:Nat):Int)))
  exact⟨rfl,h2,h3⟩
theorem take_no {s:ByteArray} (h:PSt pb tb c E toks w i d) (hb:isB toks i s= false):Calls Tryz.prog 143 #[.pointer (some ⟨pb,0,none⟩),.string s] w fun e w'=>
  e= .returned (.bool false)∧PSt pb tb c E toks w' i d∧But w w' pb pb:=by
 have:=take_any s h
 rw[hb] at this
 exact this
theorem take_yes {s:ByteArray} (h:PSt pb tb c E toks w i d) (hb:isB toks i s= true):Calls Tryz.prog 143 #[.pointer (some ⟨pb,0,none⟩),.string s] w fun e w'=>
  e= .returned (.bool true)∧PSt pb tb c E toks w' (i+1) d∧But w w' pb pb:=by
 have:=take_any s h
 rw[hb] at this
 exact this
theorem want_yes {s:ByteArray} (h:PSt pb tb c E toks w i d) (hb:isB toks i s= true):Calls Tryz.prog 144 #[.pointer (some ⟨pb,0,none⟩),.string s] w fun e w'=>
  e= .returned (.tuple #[])∧PSt pb tb c E toks w' (i+1) d∧But w w' pb pb:=by
 have HT:=hid (take_yes h hb)
 clear h hb
 go_enter Tryz.func144,Tryz.ntmps144
 go_wp2_with (go_at_call 143;refine HT.out.mono ?_;rintro e z ⟨rfl,h1,h2⟩;have H1:=hid h1;have H2:=hid h2;clear h1 h2)
 (try simp only[Exit.inBlock,Exit.then])
 refine bodyPost_end (results_none rfl _ _ _) rfl ?_
 exact⟨rfl,H1.out,H2.out⟩
theorem down_any (h:PSt pb tb c E toks w i d) (h0:0≤d) (h1:d < 100):Calls Tryz.prog 141 #[.pointer (some ⟨pb,0,none⟩)] w fun e w'=>
  e= .returned (.tuple #[])∧PSt pb tb c E toks w' i (d+1)∧But w w' pb pb:=by
 have H:=hid (h.setD (d+1))
 have HB:=hid (But.setAt w pb 5 (.int .i64 (d+1)))
 have d5:=h.cell 5
 have f5:=h.thaw 5
 simp only[List.getElem?_toArray,List.getElem?_cons_succ,List.getElem?_cons_zero] at d5
 have t1: ¬ (100 < d+1):=by omega
 have t2:decide (100 < d+1)= false:=decide_eq_false t1
 clear h
 go_enter Tryz.func141,Tryz.ntmps141
 go_wp2
 (try simp only[Exit.inBlock,Exit.then])
 refine bodyPost_end (results_none rfl _ _ _) rfl ?_
 exact⟨rfl,H.out,HB.out⟩
end
end Go.Proofs.YtmpbepjjbaeebaaGreatDoor
end
section
namespace Go.Proofs.YtmpbepjjbaeebaaGreatDoor
open Go
open Go.Lib (hid)
section
variable {P:Program} {ops:Array Oper} {S:World→Prop} {Q:Exit→Act→World→Prop} {i:Nat} {r:OrdT} {a:Act} {w:World}
end
theorem fill_at:∀ (ks:List Value) (n m:Nat) (pre mid post:List Value),mid.length= ks.length→n+m= pre.length→
  (ks.zipIdx m).foldl (fun(cs:Array Value) (p:Value × Nat)=>cs.setIfInBounds (n+p.2) p.1) (pre ++ mid ++ post).toArray=(pre ++ ks ++ post).toArray
 |[],n,m,pre,mid,post,h,_=>by
  rw[List.eq_nil_of_length_eq_zero h];rfl
 |k::ks,n,m,pre,mid,post,h,hn=>by
  cases mid with
  |nil=>cases h
  |cons x mid=>
   rw[List.zipIdx_cons,List.foldl_cons]
   have h1:(pre ++ x::mid ++ post).toArray.setIfInBounds (n+m) k=((pre ++ [k]) ++ mid ++ post).toArray:=by
    rw[hn,List.setIfInBounds_toArray]
    congr 1
    simp
   show List.foldl _ ((pre ++ x::mid ++ post).toArray.setIfInBounds (n+m) k) _= _
   rw[h1]
   have:=fill_at ks n (m+1) (pre ++ [k]) mid post (by simpa using h) (by rw[List.length_append,List.length_singleton];omega)
   rw[this]
   congr 1
   simp
theorem fill_two (size:Nat) (k1 k2:List Value) (cells:Array Value) (h1:k1.length= size) (h2:k2.length= size) (hc:cells.size= 2*size):
  Instr.fill (fun i=>some (i*size,size)) cells [(0,.agg k1.toArray),(1,.agg k2.toArray)]= some (k1 ++ k2).toArray:=by
 have e1:(Value.agg k1.toArray).cells= k1.toArray:=rfl
 have e2:(Value.agg k2.toArray).cells= k2.toArray:=rfl
 obtain⟨m1,m2,hm,hl1,hl2⟩:∃ m1 m2:List Value,cells=(m1 ++ m2).toArray∧m1.length= size∧m2.length= size:=by
  refine⟨cells.toList.take size,cells.toList.drop size,by simp,?_,?_⟩
  ·rw[List.length_take,Array.length_toList];omega
  ·rw[List.length_drop,Array.length_toList];omega
 subst hm
 unfold Instr.fill
 simp only[e1]
 rw[if_neg (by simp[h1,hl1,hl2])]
 have f1:=fill_at k1 (0*size) 0 [] m1 m2 (by rw[hl1,h1]) (by simp)
 rw[List.nil_append,List.nil_append] at f1
 have f1':(k1.toArray.zipIdx).foldl (fun(cs:Array Value) (p:Value × Nat)=>cs.setIfInBounds (0*size+p.2) p.1) (m1 ++ m2).toArray=(k1 ++ m2).toArray:=by
  rw[← f1];simp
 rw[show(k1.toArray.zipIdx.foldl (fun cs x=>match x with|(c,j)=>cs.setIfInBounds (0*size+j) c) (m1 ++ m2).toArray)=(k1 ++ m2).toArray from f1']
 unfold Instr.fill
 simp only[e2]
 rw[if_neg (by simp[h1,h2,hl2])]
 have f2:=fill_at k2 (1*size) 0 k1 m2 [] (by rw[hl2,h2]) (by rw[h1];simp)
 rw[List.append_nil,List.append_nil] at f2
 have f2':(k2.toArray.zipIdx).foldl (fun(cs:Array Value) (p:Value × Nat)=>cs.setIfInBounds (1*size+p.2) p.1) (k1 ++ m2).toArray=(k1 ++ k2).toArray:=by
  rw[← f2];simp
 rw[show(k2.toArray.zipIdx.foldl (fun cs x=>match x with|(c,j)=>cs.setIfInBounds (1*size+j) c) (k1 ++ m2).toArray)=(k1 ++ k2).toArray from f2']
 rfl
section
variable {P:Program}
theorem run_build2 (w:World) (t e:TypeId) (i:TypeInfo) (z:Value) (k1 k2:List Value) (ht:P.underlying t= some (.slice e)) (hi:P.info? e= some i) (hz:i.zero= some z) (hsz:i.size= k1.length) (hs2:k2.length= k1.length) (h0:0 < k1.length) (hmax:k1.length≤1000):
  (Instr.buildSlice t 2 #[(0,.agg k1.toArray),(1,.agg k2.toArray)]).run P w= .ok (.slice (some ⟨w.heap.size,0,none⟩) 2 2) (w.alloc (.cells ⟨k1 ++ k2⟩ e)):=by
 have hs:(sizeOf e).run P w= .ok k1.length w:=by simp[sizeOf,typeInfo,hi,hsz]
 have hzv:(zeroValue e).run P w= .ok z w:=by simp[zeroValue,typeInfo,hi,hz]
 have hf:∀ cells:Array Value,cells.size= 2*k1.length→Instr.fill (fun i=>some (i*k1.length,k1.length)) cells [(0,.agg k1.toArray),(1,.agg k2.toArray)]= some (k1 ++ k2).toArray:=fun cells hc=>fill_two k1.length k1 k2 cells rfl hs2 hc
 unfold Instr.buildSlice
 simp only[Sem.run_bind,run_underlying ht,Result.andThen_ok,hs]
 rw[if_neg (by omega),if_neg (by omega)]
 simp only[Sem.run_bind,Sem.run_pure,Result.andThen_ok,hzv]
 rw[hf _ (by simp)]
 simp[newRow]
variable {o:Oper} {a:Act} {w:World}
theorem exec_build2 (t:TypeId) (x y:Operand) (ho:o.op= .buildSlice t 2 #[(0,x),(1,y)]) (e:TypeId) (i:TypeInfo) (z:Value) (k1 k2:List Value) (hx:a.eval x= .agg k1.toArray) (hy:a.eval y= .agg k2.toArray)
  (ht:P.underlying t= some (.slice e)) (hi:P.info? e= some i) (hz:i.zero= some z) (hsz:i.size= k1.length) (hs2:k2.length= k1.length) (h0:0 < k1.length) (hmax:k1.length≤1000):
  (execOp a.eval o).run P w= .ok (.value (.slice (some ⟨w.heap.size,0,none⟩) 2 2)) (w.alloc (.cells ⟨k1 ++ k2⟩ e)):=by
 unfold execOp
 have hr:=run_build2 (P:=P) w t e i z k1 k2 ht hi hz hsz hs2 h0 hmax
 simp only[ho,List.map_toArray,List.map_cons,List.map_nil,hx,hy,Sem.run_bind,Sem.run_pure,Result.andThen_ok,hr]
end
end Go.Proofs.YtmpbepjjbaeebaaGreatDoor
end
section
namespace Go.Proofs.YtmpbepjjbaeebaaGreatDoor
open Go Go.RowKit
open Go.Lib (hid)
section
variable {P:Program} {ops:Array Oper} {rest:List Oper} {o:Oper} {a:Act} {w:World} {Q:Exit→Act→World→Prop}
theorem wl_build2 (t:TypeId) (x y:Operand) (ho:o.op= .buildSlice t 2 #[(0,x),(1,y)]) (hw:Region.wanted o (yielded ops a.tmps)= true) (e:TypeId) (i:TypeInfo) (z:Value) (k1 k2:List Value) (hx:a.eval x= .agg k1.toArray) (hy:a.eval y= .agg k2.toArray)
  (ht:P.underlying t= some (.slice e)) (hi:P.info? e= some i) (hz:i.zero= some z) (hsz:i.size= k1.length) (hs2:k2.length= k1.length) (h0:0 < k1.length) (hmax:k1.length≤1000)
  (h:wpList P ops Q rest (a.put o.dst (.slice (some ⟨w.heap.size,0,none⟩) 2 2)) (w.alloc (.cells ⟨k1 ++ k2⟩ e))):wpList P ops Q (o::rest) a w:=by
 refine wpList_step fun K hK=> ?_
 rw[if_pos hw]
 unfold Oper.wp
 rw[exec_build2 t x y ho e i z k1 k2 hx hy ht hi hz hsz hs2 h0 hmax]
 exact hK _ _ h
def Whole (T:TypeId) (w:World) (b:Nat) (cs:List Value):Prop:=w.heap[b]?= some (.cells ⟨cs⟩ T (0,0))
theorem Whole.new (w:World) (cs:List Value) (T:TypeId):Whole T (w.alloc (.cells ⟨cs⟩ T)) w.heap.size cs:=heap_alloc_new w _
theorem Whole.range {T:TypeId} {b:Nat} {cs:List Value} (h:Whole T w b cs):w.rangeAt b 0 cs:=by
 intro j v hv
 rw[Nat.zero_add]
 rw[cell_of_row w b j ⟨cs⟩ T _ h]
 simpa using hv
theorem Whole.lt {T:TypeId} {b:Nat} {cs:List Value} (h:Whole T w b cs):b < w.heap.size:=by
 rcases Nat.lt_or_ge b w.heap.size with h1|h1
 ·exact h1
 ·unfold Whole at h;rw[Array.getElem?_eq_none h1] at h;cases h
theorem Whole.keep {T:TypeId} {w':World} {b:Nat} {cs:List Value} (h:Whole T w b cs) (hb:w'.heap[b]?= w.heap[b]?):Whole T w' b cs:=hb.trans h
theorem Whole.there {T:TypeId} {b:Nat} {cs:List Value} (h:Whole T w b cs):w.there b 0 cs.length:=by
 intro j hj
 rw[Nat.zero_add,cell_of_row w b j ⟨cs⟩ T _ h]
 refine⟨by simp[hj],?_⟩
 unfold World.frozen?
 have h2:w.heap[b]?= some (.cells ⟨cs⟩ T (0,0)):=h
 simp[h2]
theorem Whole.tag {T:TypeId} {b:Nat} {cs:List Value} (h:Whole T w b cs):Tag w b T:=⟨_,h⟩
theorem heap_set_row (b:Nat) (T:TypeId):∀ (vs pre mid:List Value) (w:World),w.heap[b]?= some (.cells ⟨pre ++ mid⟩ T (0,0))→mid.length= vs.length→(w.setCells b pre.length vs).heap[b]?= some (.cells ⟨pre ++ vs⟩ T (0,0))
 |[],pre,mid,w,h,hl=>by
  rw[List.eq_nil_of_length_eq_zero hl] at h
  exact h
 |v::vs,pre,[],w,h,hl=>by cases hl
 |v::vs,pre,m::mid,w,h,hl=>by
  have h1:(w.setCell ⟨b,pre.length,none⟩ v).heap[b]?= some (.cells ⟨(pre ++ [v]) ++ mid⟩ T (0,0)):=by
   show(w.heap.modify b _)[b]?= _
   rw[Array.getElem?_modify,if_pos rfl,h]
   simp
  have h2:=heap_set_row b T vs (pre ++ [v]) mid (w.setCell ⟨b,pre.length,none⟩ v) h1 (by simpa using hl)
  rw[List.length_append] at h2
  have e:pre ++ [v] ++ vs= pre ++ v::vs:=by simp
  rw[e] at h2
  exact h2
theorem but_sets (b:Nat):∀ (cs:List Value) (w:World) (i:Nat),But w (w.setCells b i cs) b b
 |[],w,_=>But.refl w b b
 |v::cs,w,i=>(But.setAt w b i v).trans (but_sets b cs _ (i+1))
theorem wl_wstore (T:TypeId) (x y:Operand) (ho:o.op= .store T x y) (hn:o.dst= none) (hw:Region.wanted o (yielded ops a.tmps)= true) (b:Nat) (cs0 cs:List Value) (hb:Whole T w b cs0) (hl:cs0.length= cs.length)
  (hx:a.eval x= .pointer (some ⟨b,0,none⟩)) (hy:a.eval y= .agg cs.toArray) (hi:(P.info? T).map (·.size)= some cs.length) (h1:∀ v∈cs,v.oneCell'= true)
  (h:∀ Z,Whole T Z b cs→But w Z b b→wpList P ops Q rest a Z):wpList P ops Q (o::rest) a w:=by
 have h:=fun Z h1 h2=>(show wpList P ops Q rest (a.put o.dst undef) Z from by rw[hn];exact h Z h1 h2)
 refine wl_sstore T x y ho hw b 0 cs hx hy (by rw[← hl];exact hb.there) hi h1 (h _ ?_ (but_sets b cs w 0))
 have:=heap_set_row b T cs [] cs0 w hb hl
 exact this
end
theorem But.block2 {w w':World} {p q:Nat} (h:But w w' p q) {b:Nat} (hb:b < w.heap.size) (h1:b≠p) (h2:b≠q):w'.heap[b]?= w.heap[b]?:=h.block b hb h1 h2
theorem results_exp {fn:Func} {p:Tmp} (h:fn.results= #[.cell p 29]) (tmps:Array Value) (w:World) (g:Nat) (cs:List Value) (hl:cs.length= 10)
  (hp:tmps.getD p undef= .pointer (some ⟨g,0,none⟩)) (hm:Whole 29 w g cs):(results fn tmps).run Tryz.prog w= .ok (.agg ⟨cs⟩) w:=by
 have hp':tmps[p]?.getD undef= .pointer (some ⟨g,0,none⟩):=by simpa using hp
 have hl:=run_loadVar_mid (P:=Tryz.prog) w g 0 29 cs _ hm.range Tryz.underlying29 rfl (by rw[hl];kernel_rfl)
 simp[results,h,hp',asAddr,hl]
def zV:VT:= .mk 0 0 0 ⟨#[]⟩ [] []
def zVc:List Value:=[.int .i64 0,.int .i64 0,.float .f64 0,.string ⟨#[]⟩,.slice none 0 0,.slice none 0 0]
def zEc:List Value:= .int .i64 0:: .string ⟨#[]⟩::(zVc ++ [.slice none 0 0,.slice none 0 0])
def twoC (k:Int) (g:Nat):List Value:= .int .i64 k:: .string ⟨#[]⟩::(zVc ++ [.slice none 0 0,.slice (some ⟨g,0,none⟩) 2 2])
def twoE (k:Int) (x y:ET):ET:= .mk k ⟨#[]⟩ zV [] [x,y]
theorem info_exp:(Tryz.prog.info? 29).map (fun i=>(i.zero,i.size,i.bytes))= some (some (.agg zEc.toArray),10,160):=by kernel_rfl
theorem two_raw (k:Int) (ca cb:List Value) (ha:ca.length= 10) (hb:cb.length= 10) (h1:∀ v∈ca,v.oneCell'= true) (h2:∀ v∈cb,v.oneCell'= true) (w:World):
  Calls Tryz.prog 182 #[.int .i64 k,.agg ⟨ca⟩,.agg ⟨cb⟩] w fun e w'=>∃ g,e= .returned (.agg ⟨twoC k g⟩)∧w.heap.size≤g∧Whole 29 w' g (ca ++ cb)∧Below w.heap.size w w':=by
 obtain⟨i0,hi,hz0,hz1,hz2⟩:=info_parts info_exp
 go_enter Tryz.func182,Tryz.ntmps182
 go_upto_region 1 with (fail)
 have HA:=hid ((Whole.new w ca 29).keep (w':=((w.alloc (.cells ⟨ca⟩ 29)).alloc (.cells ⟨cb⟩ 29)).alloc (.cells zEc.toArray 29)) (by rw[Lib.alloc_old _ _ _ (by simp;omega),Lib.alloc_old _ _ _ (by simp)]))
 have HB:=hid ((Whole.new (w.alloc (.cells ⟨ca⟩ 29)) cb 29).keep (w':=((w.alloc (.cells ⟨ca⟩ 29)).alloc (.cells ⟨cb⟩ 29)).alloc (.cells zEc.toArray 29)) (by rw[Lib.alloc_old _ _ _ (by simp)]))
 have HC:=hid (Whole.new ((w.alloc (.cells ⟨ca⟩ 29)).alloc (.cells ⟨cb⟩ 29)) zEc 29)
 have HW:Hid (Below w.heap.size w (((w.alloc (.cells ⟨ca⟩ 29)).alloc (.cells ⟨cb⟩ 29)).alloc (.cells zEc.toArray 29))):=hid ((((Below.refl _ w).alloc (Nat.le_refl _) _).alloc (by simp) _).alloc (by simp;omega) _)
 have HS:Hid ((((w.alloc (.cells ⟨ca⟩ 29)).alloc (.cells ⟨cb⟩ 29)).alloc (.cells zEc.toArray 29)).heap.size= w.heap.size+3):=hid (by simp)
 have e1:(w.alloc (.cells ⟨ca⟩ 29)).heap.size= w.heap.size+1:=by simp
 have e2:((w.alloc (.cells ⟨ca⟩ 29)).alloc (.cells ⟨cb⟩ 29)).heap.size= w.heap.size+1+1:=by simp
 rw[e1] at HB
 rw[e2] at HC
 have hz:(#[Value.int IntKind.i64 0,Value.string { data:= #[] },Value.int IntKind.i64 0,Value.int IntKind.i64 0,Value.float FloatKind.f64 0,Value.string { data:= #[] },Value.slice none 0 0,Value.slice none 0 0,Value.slice none 0 0,Value.slice none 0 0]:Array Value)= zEc.toArray:=rfl
 rw[hz]
 clear hz e1 e2
 generalize ((w.alloc (.cells ⟨ca⟩ 29)).alloc (.cells ⟨cb⟩ 29)).alloc (.cells zEc.toArray 29)= W at*
 obtain⟨p,hp⟩:∃ p,w.heap.size= p:=⟨_,rfl⟩
 rw[hp] at HA HB HC HS
 rw[hp]
 have HP:=hid hp
 clear hp
 have HLA:=hid ha
 have HLB:=hid hb
 have HO1:=hid h1
 have HO2:=hid h2
 clear ha hb h1 h2
 have HG:=hid (Whole.new W (ca ++ cb) 29)
 have HC2:=hid (HC.out.keep (w':=W.alloc (.cells ⟨ca ++ cb⟩ 29)) (Lib.alloc_old _ _ _ HC.out.lt))
 have HW2:Hid (Below w.heap.size w (W.alloc (.cells ⟨ca ++ cb⟩ 29))):=hid (HW.out.alloc HW.out.size _)
 have H2C:Hid (∀ g,(twoC k g).length= 10∧∀ v∈twoC k g,v.oneCell'= true):=hid fun g=>⟨rfl,by intro v hv;simp only[twoC,zVc,List.mem_cons,List.mem_append,List.not_mem_nil,or_false] at hv;rcases hv with rfl|rfl|(rfl|rfl|rfl|rfl|rfl|rfl)|rfl|rfl<;>rfl⟩
 go_wp2_with (first
  |((with_reducible refine wl_sload 29 _ rfl ?hwa p 0 ca _ rfl HA.out.range Tryz.underlying29 rfl ?hia ?_);(case hwa=>first|exact wanted_none rfl|exact wanted_if rfl rfl rfl rfl);(case hia=>rw[HLA.out];kernel_rfl))
  |((with_reducible refine wl_sload 29 _ rfl ?hwb (p+1) 0 cb _ rfl HB.out.range Tryz.underlying29 rfl ?hib ?_);(case hwb=>first|exact wanted_none rfl|exact wanted_if rfl rfl rfl rfl);(case hib=>rw[HLB.out];kernel_rfl))
  |((with_reducible refine wl_build2 _ _ _ rfl ?hwc 29 i0 _ ca cb rfl rfl Tryz.underlying27 hi hz0 ?hs1 ?hs2 ?hs3 ?hs4 ?_);(case hwc=>first|exact wanted_none rfl|exact wanted_if rfl rfl rfl rfl);(case hs1=>rw[hz1,HLA.out]);(case hs2=>rw[HLA.out,HLB.out]);(case hs3=>rw[HLA.out];decide);(case hs4=>rw[HLA.out];decide))
  |((with_reducible refine wl_wstore 29 _ _ rfl rfl ?hwd (p+1+1) zEc (twoC k W.heap.size) HC2.out ?hs5 ?hs6 ?hs7 ?hs8 ?hs9 ?_);(case hwd=>first|exact wanted_none rfl|exact wanted_if rfl rfl rfl rfl);(case hs5=>rfl);(case hs6=>rfl);(case hs7=>rfl);(case hs8=>rw[(H2C.out _).1];kernel_rfl);(case hs9=>exact(H2C.out _).2);intro Z hz hb;have HZ:=hid hz;have HZB:=hid hb;clear hz hb))
 (try simp only[Exit.inBlock,Exit.then])
 refine bodyPost_ret (results_exp rfl _ _ (p+1+1) (twoC k W.heap.size) (H2C.out _).1 rfl HZ.out) rfl ?_
 have hp:=HP.out
 have hs:=HS.out
 refine⟨W.heap.size,rfl,by omega,?_,?_⟩
 ·exact HG.out.keep (HZB.out.block _ (by simp) (by omega) (by omega))
 ·exact HW2.out.trans (HZB.out.below HW2.out.size (by omega) (by omega))
end Go.Proofs.YtmpbepjjbaeebaaGreatDoor
end
section
namespace Go.Proofs.YtmpbepjjbaeebaaGreatDoor
open Go Go.RowKit
open Go.Lib (hid)
abbrev valC (k n:Int) (f:Nat) (s:ByteArray):List Value:=[.int .i64 k,.int .i64 n,.float .f64 f,.string s,.slice none 0 0,.slice none 0 0]
def conC (k n:Int) (f:Nat) (s:ByteArray):List Value:= .int .i64 1:: .string ⟨#[]⟩::(valC k n f s ++ [.slice none 0 0,.slice none 0 0])
def conE (k n:Int) (f:Nat) (s:ByteArray):ET:= .mk 1 ⟨#[]⟩ (.mk k n f s [] []) [] []
def varC (s:ByteArray):List Value:= .int .i64 2:: .string s::(zVc ++ [.slice none 0 0,.slice none 0 0])
def varE (s:ByteArray):ET:= .mk 2 s zV [] []
theorem con_len (k n:Int) (f:Nat) (s:ByteArray):(conC k n f s).length= 10:=rfl
theorem con_one (k n:Int) (f:Nat) (s:ByteArray):∀ v∈conC k n f s,v.oneCell'= true:=by
 intro v hv;simp only[conC,valC,List.mem_cons,List.mem_append,List.not_mem_nil,or_false] at hv;rcases hv with rfl|rfl|(rfl|rfl|rfl|rfl|rfl|rfl)|rfl|rfl<;>rfl
theorem var_one (s:ByteArray):∀ v∈varC s,v.oneCell'= true:=by
 intro v hv;simp only[varC,zVc,List.mem_cons,List.mem_append,List.not_mem_nil,or_false] at hv;rcases hv with rfl|rfl|(rfl|rfl|rfl|rfl|rfl|rfl)|rfl|rfl<;>rfl
theorem con_raw (k n:Int) (f:Nat) (s:ByteArray) (w:World):
  Calls Tryz.prog 254 #[.agg ⟨valC k n f s⟩] w fun e w'=>e= .returned (.agg ⟨conC k n f s⟩)∧Below w.heap.size w w':=by
 go_enter Tryz.func254,Tryz.ntmps254
 go_upto_region 1 with (fail)
 have HA:=hid ((Whole.new w (valC k n f s) 26).keep (w':=(w.alloc (.cells ⟨valC k n f s⟩ 26)).alloc (.cells zEc.toArray 29)) (by rw[Lib.alloc_old _ _ _ (by simp)]))
 have HC:=hid (Whole.new (w.alloc (.cells ⟨valC k n f s⟩ 26)) zEc 29)
 have HW:Hid (Below w.heap.size w ((w.alloc (.cells ⟨valC k n f s⟩ 26)).alloc (.cells zEc.toArray 29))):=hid (((Below.refl _ w).alloc (Nat.le_refl _) _).alloc (by simp) _)
 have e1:(w.alloc (.cells ⟨valC k n f s⟩ 26)).heap.size= w.heap.size+1:=by simp
 rw[e1] at HC
 have hz:(#[Value.int IntKind.i64 0,Value.string { data:= #[] },Value.int IntKind.i64 0,Value.int IntKind.i64 0,Value.float FloatKind.f64 0,Value.string { data:= #[] },Value.slice none 0 0,Value.slice none 0 0,Value.slice none 0 0,Value.slice none 0 0]:Array Value)= zEc.toArray:=rfl
 rw[hz]
 clear hz e1
 generalize (w.alloc (.cells ⟨valC k n f s⟩ 26)).alloc (.cells zEc.toArray 29)= W at*
 obtain⟨p,hp⟩:∃ p,w.heap.size= p:=⟨_,rfl⟩
 rw[hp] at HA HC
 rw[hp]
 have HP:=hid hp
 clear hp
 go_wp2_with (first
  |((with_reducible refine wl_sload 26 _ rfl ?hwa p 0 [.int .i64 k,.int .i64 n,.float .f64 f,.string s,.slice none 0 0,.slice none 0 0] _ rfl HA.out.range Tryz.underlying26 rfl ?hia ?_);(case hwa=>first|exact wanted_none rfl|exact wanted_if rfl rfl rfl rfl);(case hia=>kernel_rfl))
  |((with_reducible refine wl_wstore 29 _ _ rfl rfl ?hwd (p+1) zEc (conC k n f s) HC.out ?hs5 ?hs6 ?hs7 ?hs8 ?hs9 ?_);(case hwd=>first|exact wanted_none rfl|exact wanted_if rfl rfl rfl rfl);(case hs5=>rfl);(case hs6=>rfl);(case hs7=>rfl);(case hs8=>kernel_rfl);(case hs9=>exact con_one k n f s);intro Z hz hb;have HZ:=hid hz;have HZB:=hid hb;clear hz hb))
 (try simp only[Exit.inBlock,Exit.then])
 refine bodyPost_ret (results_exp rfl _ _ (p+1) (conC k n f s) (con_len k n f s) rfl HZ.out) rfl ?_
 have hp:=HP.out
 exact⟨rfl,HW.out.trans (HZB.out.below HW.out.size (by omega) (by omega))⟩
end Go.Proofs.YtmpbepjjbaeebaaGreatDoor
end
