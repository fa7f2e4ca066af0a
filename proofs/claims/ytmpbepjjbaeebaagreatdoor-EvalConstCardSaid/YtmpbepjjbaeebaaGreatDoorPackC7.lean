/- Parts of a proof: Walk, Par1, Build1, Order5, IndexV. -/
import Derived.Test.YtmpbepjjbaeebaaGreatDoorProg
import Derived.Deep.DeepCutAuto
import Derived.Deep.LoopGhost
import Derived.Deep.Cut
import Derived.Deep.Draws
import Derived.Deep.QuietTactic
import Derived.BigQuiet
import Derived.BigRegion
import Derived.Maps.RangeWalk
import Derived.StillTailTactics
import Derived.WalkMore
import Derived.RegionTactic
import Derived.Lib.SliceRun
import Derived.Lib.Hide
import Derived.Test.YtmpbepjjbaeebaaGreatDoorPackC3
import Derived.Test.YtmpbepjjbaeebaaGreatDoorPackC5
import Derived.Test.YtmpbepjjbaeebaaGreatDoorPackC6
set_option maxHeartbeats 8000000
set_option maxRecDepth 100000
set_option linter.unusedVariables false
set_option linter.unusedSimpArgs false
namespace Go.Proofs.YtmpbepjjbaeebaaGreatDoor
section
open Go.RowKit
def z5T (w:World) (e:Ending) (w':World):Prop:=∃ n:Int,e= .returned (.int .i64 n)/\Below w.heap.size w w'
def z4T (w:World) (e:Ending) (w':World):Prop:=∃ b:Bool,e= .returned (.bool b)/\Below w.heap.size w w'
theorem zA (w:World) (cs:Array Value) (T:TypeId) (i:Nat):(w.alloc (.cells cs T)).cell? ⟨w.heap.size,i,none⟩= cs[i]?:=
 cell_of_row _ w.heap.size i cs T (0,0) (heap_alloc_new w _)
theorem zq (w:World) (cs:List Value) (T:TypeId):(w.alloc (.cells ⟨cs⟩ T)).rangeAt w.heap.size 0 cs:=fun j v hv=>by
 rw[Nat.zero_add,zA];simpa using hv
theorem z0D (w:World) (cs:List Value) (T:TypeId):∀ j v,cs[j]?= some v->(w.alloc (.cells ⟨cs⟩ T)).cell? ⟨w.heap.size,j,none⟩= some v:=fun j v hv=>by
 rw[zA];simpa using hv
theorem ze (w:World) (o:Obj):Below w.heap.size w (w.alloc o):=(Below.refl w.heap.size w).alloc (Nat.le_refl _) o
theorem zt (w:World) (o:Obj):w.heap.size <(w.alloc o).heap.size:=by simp
theorem z1o {B:Nat} {u w:World} (h:Below B u w) {b:Nat} (hb:B<=b) (vs:List Value):∀ o,Below B u (w.setCells b o vs):=by
 induction vs generalizing w with
 |nil=>intro o;exact h
 |cons v vs ih=>intro o;exact ih (w:=w.setCell ⟨b,o,none⟩ v) (h.setCell hb v) (o+1)
theorem z6i (b:Nat) (vs:List Value):∀ (o:Nat) (w:World),(w.setCells b o vs).heap.size= w.heap.size:=by
 induction vs with
 |nil=>intro o w;rfl
 |cons v vs ih=>intro o w;exact(ih (o+1) (w.setCell ⟨b,o,none⟩ v)).trans (by simp[World.setCell])
theorem z2O (w:World) (cs:Array Value) (T:TypeId) (i:Nat):(w.alloc (.cells cs T)).frozen? ⟨w.heap.size,i,none⟩= false:=by
 have h:=heap_alloc_new w (.cells cs T)
 unfold World.frozen?
 rw[h]
 simp
theorem z6E (w:World) (z:Array Value) (T:TypeId):(w.alloc (.cells z T)).there w.heap.size 0 z.size:=fun j hj=>by
 rw[Nat.zero_add,zA,z2O]
 exact⟨by rw[Array.getElem?_eq_getElem hj];rfl,rfl⟩
def Tag (w:World) (b:Nat) (T:TypeId):Prop:=∃ c,w.heap[b]?= some (.cells c T (0,0))
theorem Tag.set {w:World} {b:Nat} {T:TypeId} (h:Tag w b T) (p:Addr) (v:Value):Tag (w.setCell p v) b T:=by
 obtain⟨c,hc⟩:=h
 unfold World.setCell Tag
 simp only[Array.getElem?_modify,hc]
 split
 ·exact⟨_,rfl⟩
 ·exact⟨_,rfl⟩
theorem Tag.sets {b:Nat} {T:TypeId} (q:Nat) (vs:List Value):∀ (o:Nat) {w:World},Tag w b T->Tag (w.setCells q o vs) b T:=by
 induction vs with
 |nil=>intro o w h;exact h
 |cons v vs ih=>intro o w h;exact ih (o+1) (h.set ⟨q,o,none⟩ v)
theorem OwnSl.apart {α:Type} {T T':TypeId} {k nb base:Nat} {enc:α->List Value} {w:World} {v:Value} {l:List α} (h:OwnSl T k enc w base v l) (ht:Tag w nb T') (hne:T≠T'):some nb≠v.ownBlock:=by
 intro hb
 obtain⟨c,hc⟩:=ht
 rcases h.2 with ⟨rfl,_⟩|⟨g,cap,cur,rfl,_,hg,_⟩
 ·cases hb
 ·have:nb= g:=by simpa [Value.ownBlock] using hb
  subst this
  rw[hc] at hg
  injection hg with hg
  injection hg with _ hg _
  exact hne hg.symm
structure Boxed (T:TypeId) (w W:World) (cs:List Value):Prop where
 tag:Tag W w.heap.size T
 below:Below w.heap.size w W
 range:W.rangeAt w.heap.size 0 cs
 size:w.heap.size < W.heap.size
theorem z8r (w:World) (z:Array Value) (T:TypeId) (cs:List Value) (h:cs.length= z.size):Boxed T w ((w.alloc (.cells z T)).setCells w.heap.size 0 cs) cs:=
 ⟨Tag.sets _ _ _ ⟨z,heap_alloc_new w _⟩,z1o (ze w _) (Nat.le_refl _) cs 0,World.rangeAt_setCells_same _ _ _ _ (by rw[h];exact z6E w z T),by rw[z6i];simp⟩
section
variable {P:Program} {ops:Array Oper} {rest:List Oper} {o:Oper} {a:Act} {w:World} {Q:Exit->Act->World->Prop}
theorem z09 (T:TypeId) (x y:Operand) (ho:o.op= .store T x y) (hw:Region.wanted o (yielded ops a.tmps)= true) (w0:World) (z:Array Value) (cs:List Value) (hwld:w= w0.alloc (.cells z T)) (hz:cs.length= z.size)
  (hx:a.eval x= .pointer (some ⟨w0.heap.size,0,none⟩)) (hy:a.eval y= .agg cs.toArray) (hi:(P.info? T).map (·.size)= some cs.length) (h1:∀ v∈cs,v.oneCell'= true)
  (h:∀ Z,Boxed T w0 Z cs->wpList P ops Q rest (a.put o.dst undef) Z):wpList P ops Q (o::rest) a w:=by
 subst hwld
 exact z3x T x y ho hw w0.heap.size 0 cs hx hy (by rw[hz];exact z6E w0 z T) hi h1 (h _ (z8r w0 z T cs hz))
end
theorem Boxed.cell {T:TypeId} {w W:World} {cs:List Value} (h:Boxed T w W cs) (j:Nat) {v:Value} (hv:cs[j]?= some v):W.cell? ⟨w.heap.size,j,none⟩= some v:=by
 have:=h.range j v hv
 rwa [Nat.zero_add] at this
theorem Boxed.cell' {T:TypeId} {w W Z:World} {cs:List Value} (h:Boxed T w W cs) (hb:Below W.heap.size W Z) (j:Nat) {v:Value} (hv:cs[j]?= some v):Z.cell? ⟨w.heap.size,j,none⟩= some v:=
 (hb.cell (p:=⟨w.heap.size,j,none⟩) h.size).trans (h.cell j hv)
theorem Boxed.sub {T:TypeId} {w W Z:World} {cs:List Value} (h:Boxed T w W cs) (hb:Below W.heap.size W Z) (p q r:List Value) (hc:cs= p ++ q ++ r) (k:Nat) (hk:k= p.length):Z.rangeAt w.heap.size k q:=fun j v hv=>by
 subst hk
 have:=h.cell' hb (p.length+j) (v:=v) (by rw[hc,List.append_assoc,List.getElem?_append_right (by omega),show p.length+j - p.length= j by omega,List.getElem?_append_left (List.getElem?_eq_some_iff.1 hv).1];exact hv)
 exact this
theorem z3Z {w:World} {b o:Nat} {p cs q:List Value} (h:w.rangeAt b o (p ++ cs ++ q)) (k:Nat) (hk:k= o+p.length):w.rangeAt b k cs:=fun j v hv=>by
 subst hk
 have:=h (p.length+j) v (by rw[List.append_assoc,List.getElem?_append_right (by omega),show p.length+j - p.length= j by omega,List.getElem?_append_left (List.getElem?_eq_some_iff.1 hv).1];exact hv)
 rw[Nat.add_assoc];exact this
theorem z58 {w:World} {b o:Nat} {cs:List Value} (h:w.rangeAt b o cs) (j:Nat) {v:Value} (hv:cs[j]?= some v):w.cell? ⟨b,o+j,none⟩= some v:=h j v hv
end
section
open Go Go.RowKit
abbrev PSt (pb tb c:Nat) (E:Int) (toks:List Tok) (w:World) (i:Nat) (d:Int):Prop:=PS 121 pb tb c E toks w i d
def isB (toks:List Tok) (i:Nat) (s:ByteArray):Bool:=match toks[i]? with
 |some t=>decide (t.kind= 6) && (t.s.toList ==s.toList)
 |none=>false
section
variable {pb tb c:Nat} {E:Int} {toks:List Tok} {w w':World} {i:Nat} {d:Int}
theorem zdD (s:ByteArray) (h:PSt pb tb c E toks w i d):Calls Tryz.prog 183 #[.pointer (some ⟨pb,0,none⟩),.string s] w fun e w'=>e= .returned (.bool (isB toks i s))/\Below w.heap.size w w':=by
 have HB:Hid (∀ n,Below w.heap.size w (w.drewN n)):=I fun n=>⟨rfl,rfl,rfl,Nat.le_refl _,fun _ _=>rfl⟩
 have d0:=h.cell 0
 have d1:=h.cell 1
 have d3:=h.cell 3
 simp only[List.getElem?_toArray,List.getElem?_cons_succ,List.getElem?_cons_zero] at d0 d1 d3
 have hl:=h.len
 by_cases hi:i < toks.length
 ·obtain⟨t,ht⟩:∃ t,toks[i]?= some t:=⟨_,List.getElem?_eq_getElem hi⟩
  have hr:=h.tok i t ht
  have c0:w.cell? ⟨tb,i*6,none⟩= some (.int .i64 t.kind):=hr 0 _ rfl
  have c5:w.cell? ⟨tb,i*6+5,none⟩= some (.string t.s):=hr 5 _ rfl
  have hlt:(i:Int) <(toks.length:Int):=by omega
  have hb:isB toks i s=(decide (t.kind= 6) && (t.s.toList ==s.toList)):=by unfold isB;rw[ht]
  by_cases hk:t.kind= 6
  ·have e6:(t.kind ==6)= true:=by simpa using hk
   have hb2:isB toks i s=(t.s.toList ==s.toList):=by rw[hb,decide_eq_true hk];rfl
   have HR:=I hb2
   clear h hr ht hb hb2 hk
   generalize t.kind= tk at*
   go_enter Tryz.func183,Tryz.ntmps183
   go_upto_region 1 with (fail)
   go_quiet (fail)
   go_wp2
   go_ret
   exact⟨by rw[HR.out];rfl,HB.out _⟩
  ·have e6:(t.kind ==6)= false:=by simpa using hk
   have HR:Hid (isB toks i s= false):=I (by rw[hb,decide_eq_false hk];rfl)
   clear h hr ht hb c5
   generalize t.kind= tk at*
   go_enter Tryz.func183,Tryz.ntmps183
   go_upto_region 1 with (fail)
   go_quiet (fail)
   go_wp2
   go_ret
   exact⟨by rw[HR.out];rfl,HB.out _⟩
 ·have HR:Hid (isB toks i s= false):=I (by unfold isB;rw[List.getElem?_eq_none (by omega)])
  have hlt: ¬ ((i:Int) <(toks.length:Int)):=by omega
  clear h hi
  go_enter Tryz.func183,Tryz.ntmps183
  go_upto_region 1 with (fail)
  go_quiet (fail)
  go_wp2
  go_ret
  exact⟨by rw[HR.out];rfl,HB.out _⟩
theorem z1n {s:ByteArray} (h:isB toks i s= true):i < toks.length:=by
 unfold isB at h
 cases ht:toks[i]? with
 |none=>rw[ht] at h;cases h
 |some t=>exact(List.getElem?_eq_some_iff.1 ht).1
theorem PS.keepB {T:TypeId} (h:PS T pb tb c E toks w i d) (hb:Below w.heap.size w w'):PS T pb tb c E toks w' i d/\But w w' pb pb:=⟨h.keep hb,But.of_below hb pb pb⟩
theorem z7J (s:ByteArray) (h:PSt pb tb c E toks w i d):Calls Tryz.prog 143 #[.pointer (some ⟨pb,0,none⟩),.string s] w fun e w'=>
  e= .returned (.bool (isB toks i s))/\PSt pb tb c E toks w' (if isB toks i s= true then i+1 else i) d/\But w w' pb pb:=by
 have HI:=I (zdD s h)
 have H:=I h
 cases hb:isB toks i s with
 |false=>
  rw[hb] at HI
  clear h hb
  go_enter Tryz.func143,Tryz.ntmps143
  go_wp2_with (go_at_call 183;refine HI.out.mono ?_;rintro e z ⟨rfl,hb⟩;have HB:=I hb;clear hb)
  go_ret
  exact⟨rfl,(H.out.keepB HB.out).1,(H.out.keepB HB.out).2⟩
 |true=>
  have hlt:=z1n hb
  have hl:=h.len
  rw[hb] at HI
  have HW:Hid (IntKind.i64.wrap ((i:Int)+1)=((i+1:Nat):Int)):=I (by rw[IntKind.wrap_i64];omega)
  clear h hb
  go_enter Tryz.func143,Tryz.ntmps143
  go_upto_region 2 with (go_at_call 183;refine HI.out.mono ?_;rintro e z ⟨rfl,hb⟩;have HB:=I hb;have d1:=(H.out.keep hb).cell 1;have f1:=(H.out.keep hb).thaw 1;clear hb)
  simp only[List.getElem?_toArray,List.getElem?_cons_succ,List.getElem?_cons_zero] at d1
  go_wp2
  go_ret
  have h2:=(H.out.keep HB.out).setI (i+1)
  have h3:=(But.of_below HB.out pb pb).trans (But.setAt z pb 1 (.int .i64 ((i+1:Nat):Int)))
  exact⟨rfl,h2,h3⟩
theorem zD {s:ByteArray} (h:PSt pb tb c E toks w i d) (hb:isB toks i s= false):Calls Tryz.prog 143 #[.pointer (some ⟨pb,0,none⟩),.string s] w fun e w'=>
  e= .returned (.bool false)/\PSt pb tb c E toks w' i d/\But w w' pb pb:=by
 have:=z7J s h
 rw[hb] at this
 exact this
theorem z0t {s:ByteArray} (h:PSt pb tb c E toks w i d) (hb:isB toks i s= true):Calls Tryz.prog 143 #[.pointer (some ⟨pb,0,none⟩),.string s] w fun e w'=>
  e= .returned (.bool true)/\PSt pb tb c E toks w' (i+1) d/\But w w' pb pb:=by
 have:=z7J s h
 rw[hb] at this
 exact this
theorem z82 {s:ByteArray} (h:PSt pb tb c E toks w i d) (hb:isB toks i s= true):Calls Tryz.prog 144 #[.pointer (some ⟨pb,0,none⟩),.string s] w fun e w'=>
  e= .returned (.tuple #[])/\PSt pb tb c E toks w' (i+1) d/\But w w' pb pb:=by
 have HT:=I (z0t h hb)
 clear h hb
 go_enter Tryz.func144,Tryz.ntmps144
 go_wp2_with (go_at_call 143;refine HT.out.mono ?_;rintro e z ⟨rfl,h1,h2⟩;have H1:=I h1;have H2:=I h2;clear h1 h2)
 (try simp only[Exit.inBlock,Exit.then])
 refine bodyPost_end (results_none rfl _ _ _) rfl ?_
 exact⟨rfl,H1.out,H2.out⟩
theorem z7f (h:PSt pb tb c E toks w i d) (h0:0<=d) (h1:d < 100):Calls Tryz.prog 141 #[.pointer (some ⟨pb,0,none⟩)] w fun e w'=>
  e= .returned (.tuple #[])/\PSt pb tb c E toks w' i (d+1)/\But w w' pb pb:=by
 have H:=I (h.setD (d+1))
 have HB:=I (But.setAt w pb 5 (.int .i64 (d+1)))
 have d5:=h.cell 5
 have f5:=h.thaw 5
 simp only[List.getElem?_toArray,List.getElem?_cons_succ,List.getElem?_cons_zero] at d5
 have t1: ¬ (100 < d+1):=by omega
 have t2:decide (100 < d+1)= false:=decide_eq_false t1
 clear h
 go_enter Tryz.func141,Tryz.ntmps141
 go_wp2
 (try simp only[Exit.inBlock,Exit.then])
 refine bodyPost_end (results_none rfl _ _ _) rfl ?_
 exact⟨rfl,H.out,HB.out⟩
end
end
section
open Go
theorem z67:∀ (ks pre rest:List Value),rest.length= ks.length->
  (ks.zipIdx pre.length).foldl (fun(cs:Array Value) (p:Value × Nat)=>cs.setIfInBounds (0+p.2) p.1) (pre ++ rest).toArray=(pre ++ ks).toArray
 |[],pre,rest,h=>by
  rw[List.eq_nil_of_length_eq_zero h];rfl
 |k::ks,pre,rest,h=>by
  cases rest with
  |nil=>cases h
  |cons r rest=>
   rw[List.zipIdx_cons,List.foldl_cons]
   have h1:(pre ++ r::rest).toArray.setIfInBounds (0+pre.length) k=((pre ++ [k]) ++ rest).toArray:=by
    rw[Nat.zero_add,List.setIfInBounds_toArray]
    congr 1
    simp
   show List.foldl _ ((pre ++ r::rest).toArray.setIfInBounds (0+pre.length) k) _= _
   rw[h1]
   have:=z67 ks (pre ++ [k]) rest (by simpa using h)
   rw[List.length_append] at this
   rw[List.append_assoc] at this ⊢
   rw[List.append_assoc] at this
   exact this
theorem zbL (size:Nat) (ks:List Value) (cells:Array Value) (h1:ks.length= size) (h2:cells.size= size):Instr.fill (fun i=>some (i*size,size)) cells [(0,.agg ks.toArray)]= some ks.toArray:=by
 unfold Instr.fill
 simp only[Nat.zero_mul]
 have hc:(Value.agg ks.toArray).cells= ks.toArray:=rfl
 rw[hc]
 rw[if_neg (by simp[h1,h2])]
 unfold Instr.fill
 congr 1
 have:=z67 ks [] cells.toList (by simpa [h1] using h2)
 simpa using this
section
variable {P:Program}
theorem z2R (w:World) (t e:TypeId) (i:TypeInfo) (z:Value) (ks:List Value) (ht:P.underlying t= some (.slice e)) (hi:P.info? e= some i) (hz:i.zero= some z) (hsz:i.size= ks.length) (h0:0 < ks.length) (hmax:ks.length<=1000):
  (Instr.buildSlice t 1 #[(0,.agg ks.toArray)]).run P w= .ok (.slice (some ⟨w.heap.size,0,none⟩) 1 1) (w.alloc (.cells ⟨ks⟩ e)):=by
 have hs:(sizeOf e).run P w= .ok ks.length w:=by simp[sizeOf,typeInfo,hi,hsz]
 have hzv:(zeroValue e).run P w= .ok z w:=by simp[zeroValue,typeInfo,hi,hz]
 have hf:∀ cells:Array Value,cells.size= ks.length->Instr.fill (fun i=>some (i*ks.length,ks.length)) cells [(0,.agg ks.toArray)]= some ks.toArray:=fun cells hc=>zbL ks.length ks cells rfl hc
 unfold Instr.buildSlice
 simp only[Sem.run_bind,run_underlying ht,Result.andThen_ok,hs,Nat.one_mul]
 rw[if_neg (by omega),if_neg (by omega)]
 simp only[Sem.run_bind,Sem.run_pure,Result.andThen_ok,hzv]
 rw[hf _ (by simp)]
 simp[newRow]
variable {ops:Array Oper} {rest:List Oper} {o:Oper} {a:Act} {w:World} {Q:Exit->Act->World->Prop}
theorem z1R (t:TypeId) (x:Operand) (ho:o.op= .buildSlice t 1 #[(0,x)]) (hw:Region.wanted o (yielded ops a.tmps)= true) (e:TypeId) (i:TypeInfo) (z:Value) (ks:List Value) (hx:a.eval x= .agg ks.toArray)
  (ht:P.underlying t= some (.slice e)) (hi:P.info? e= some i) (hz:i.zero= some z) (hsz:i.size= ks.length) (h0:0 < ks.length) (hmax:ks.length<=1000)
  (h:wpList P ops Q rest (a.put o.dst (.slice (some ⟨w.heap.size,0,none⟩) 1 1)) (w.alloc (.cells ⟨ks⟩ e))):wpList P ops Q (o::rest) a w:=by
 refine wpList_step fun K hK=> ?_
 rw[if_pos hw]
 unfold Oper.wp execOp
 have hr:=z2R (P:=P) w t e i z ks ht hi hz hsz h0 hmax
 simp only[ho,List.map_toArray,List.map_cons,List.map_nil,hx,Sem.run_bind,Sem.run_pure,Result.andThen_ok,hr]
 exact hK _ _ h
end
end
section
open Go
section
variable {P:Program} {ops:Array Oper} {S:World->Prop} {Q:Exit->Act->World->Prop} {i:Nat} {r:OrdT} {a:Act} {w:World}
end
theorem z5W:∀ (ks:List Value) (n m:Nat) (pre mid post:List Value),mid.length= ks.length->n+m= pre.length->
  (ks.zipIdx m).foldl (fun(cs:Array Value) (p:Value × Nat)=>cs.setIfInBounds (n+p.2) p.1) (pre ++ mid ++ post).toArray=(pre ++ ks ++ post).toArray
 |[],n,m,pre,mid,post,h,_=>by
  rw[List.eq_nil_of_length_eq_zero h];rfl
 |k::ks,n,m,pre,mid,post,h,hn=>by
  cases mid with
  |nil=>cases h
  |cons x mid=>
   rw[List.zipIdx_cons,List.foldl_cons]
   have h1:(pre ++ x::mid ++ post).toArray.setIfInBounds (n+m) k=((pre ++ [k]) ++ mid ++ post).toArray:=by
    rw[hn,List.setIfInBounds_toArray]
    congr 1
    simp
   show List.foldl _ ((pre ++ x::mid ++ post).toArray.setIfInBounds (n+m) k) _= _
   rw[h1]
   have:=z5W ks n (m+1) (pre ++ [k]) mid post (by simpa using h) (by rw[List.length_append,List.length_singleton];omega)
   rw[this]
   congr 1
   simp
theorem z7b (size:Nat) (k1 k2:List Value) (cells:Array Value) (h1:k1.length= size) (h2:k2.length= size) (hc:cells.size= 2*size):
  Instr.fill (fun i=>some (i*size,size)) cells [(0,.agg k1.toArray),(1,.agg k2.toArray)]= some (k1 ++ k2).toArray:=by
 have e1:(Value.agg k1.toArray).cells= k1.toArray:=rfl
 have e2:(Value.agg k2.toArray).cells= k2.toArray:=rfl
 obtain⟨m1,m2,hm,hl1,hl2⟩:∃ m1 m2:List Value,cells=(m1 ++ m2).toArray/\m1.length= size/\m2.length= size:=by
  refine⟨cells.toList.take size,cells.toList.drop size,by simp,?_,?_⟩
  ·rw[List.length_take,Array.length_toList];omega
  ·rw[List.length_drop,Array.length_toList];omega
 subst hm
 unfold Instr.fill
 simp only[e1]
 rw[if_neg (by simp[h1,hl1,hl2])]
 have f1:=z5W k1 (0*size) 0 [] m1 m2 (by rw[hl1,h1]) (by simp)
 rw[List.nil_append,List.nil_append] at f1
 have f1':(k1.toArray.zipIdx).foldl (fun(cs:Array Value) (p:Value × Nat)=>cs.setIfInBounds (0*size+p.2) p.1) (m1 ++ m2).toArray=(k1 ++ m2).toArray:=by
  rw[← f1];simp
 rw[show(k1.toArray.zipIdx.foldl (fun cs x=>match x with|(c,j)=>cs.setIfInBounds (0*size+j) c) (m1 ++ m2).toArray)=(k1 ++ m2).toArray from f1']
 unfold Instr.fill
 simp only[e2]
 rw[if_neg (by simp[h1,h2,hl2])]
 have f2:=z5W k2 (1*size) 0 k1 m2 [] (by rw[hl2,h2]) (by rw[h1];simp)
 rw[List.append_nil,List.append_nil] at f2
 have f2':(k2.toArray.zipIdx).foldl (fun(cs:Array Value) (p:Value × Nat)=>cs.setIfInBounds (1*size+p.2) p.1) (k1 ++ m2).toArray=(k1 ++ k2).toArray:=by
  rw[← f2];simp
 rw[show(k2.toArray.zipIdx.foldl (fun cs x=>match x with|(c,j)=>cs.setIfInBounds (1*size+j) c) (k1 ++ m2).toArray)=(k1 ++ k2).toArray from f2']
 rfl
section
variable {P:Program}
theorem z9A (w:World) (t e:TypeId) (i:TypeInfo) (z:Value) (k1 k2:List Value) (ht:P.underlying t= some (.slice e)) (hi:P.info? e= some i) (hz:i.zero= some z) (hsz:i.size= k1.length) (hs2:k2.length= k1.length) (h0:0 < k1.length) (hmax:k1.length<=1000):
  (Instr.buildSlice t 2 #[(0,.agg k1.toArray),(1,.agg k2.toArray)]).run P w= .ok (.slice (some ⟨w.heap.size,0,none⟩) 2 2) (w.alloc (.cells ⟨k1 ++ k2⟩ e)):=by
 have hs:(sizeOf e).run P w= .ok k1.length w:=by simp[sizeOf,typeInfo,hi,hsz]
 have hzv:(zeroValue e).run P w= .ok z w:=by simp[zeroValue,typeInfo,hi,hz]
 have hf:∀ cells:Array Value,cells.size= 2*k1.length->Instr.fill (fun i=>some (i*k1.length,k1.length)) cells [(0,.agg k1.toArray),(1,.agg k2.toArray)]= some (k1 ++ k2).toArray:=fun cells hc=>z7b k1.length k1 k2 cells rfl hs2 hc
 unfold Instr.buildSlice
 simp only[Sem.run_bind,run_underlying ht,Result.andThen_ok,hs]
 rw[if_neg (by omega),if_neg (by omega)]
 simp only[Sem.run_bind,Sem.run_pure,Result.andThen_ok,hzv]
 rw[hf _ (by simp)]
 simp[newRow]
variable {o:Oper} {a:Act} {w:World}
theorem z8o (t:TypeId) (x y:Operand) (ho:o.op= .buildSlice t 2 #[(0,x),(1,y)]) (e:TypeId) (i:TypeInfo) (z:Value) (k1 k2:List Value) (hx:a.eval x= .agg k1.toArray) (hy:a.eval y= .agg k2.toArray)
  (ht:P.underlying t= some (.slice e)) (hi:P.info? e= some i) (hz:i.zero= some z) (hsz:i.size= k1.length) (hs2:k2.length= k1.length) (h0:0 < k1.length) (hmax:k1.length<=1000):
  (execOp a.eval o).run P w= .ok (.value (.slice (some ⟨w.heap.size,0,none⟩) 2 2)) (w.alloc (.cells ⟨k1 ++ k2⟩ e)):=by
 unfold execOp
 have hr:=z9A (P:=P) w t e i z k1 k2 ht hi hz hsz hs2 h0 hmax
 simp only[ho,List.map_toArray,List.map_cons,List.map_nil,hx,hy,Sem.run_bind,Sem.run_pure,Result.andThen_ok,hr]
end
end
section
open Go Go.RowKit
def z2J (s:ByteArray) (x:VarT):Bool:=x.name.toList ==s.toList
def findV:List VarT->ByteArray->Int
 |[],_=> -1
 |x::l,s=>if z2J s x= true then 0 else if findV l s= -1 then -1 else findV l s+1
theorem z75 {s:ByteArray}:∀ {l:List VarT},(∀ (k:Nat) x,l[k]?= some x->z2J s x= false)->findV l s= -1
 |[],_=>rfl
 |x::l,h=>by
  unfold findV
  rw[if_neg (by rw[h 0 x rfl];decide),z75 fun k y hy=>h (k+1) y hy,if_pos rfl]
theorem z6F {s:ByteArray}:∀ {l:List VarT} (j:Nat) (x:VarT),l[j]?= some x->z2J s x= true->(∀ k,k < j->∀ y,l[k]?= some y->z2J s y= false)->findV l s=(j:Int)
 |[],j,x,h,_,_=>by simp at h
 |a::l,0,x,h,hx,_=>by
  obtain rfl:a= x:=by simpa using h
  unfold findV
  rw[if_pos hx];rfl
 |a::l,j+1,x,h,hx,hno=>by
  have ih:=z6F (l:=l) j x (by simpa using h) hx fun k hk y hy=>hno (k+1) (by omega) y (by simpa using hy)
  unfold findV
  rw[if_neg (by rw[hno 0 (by omega) a rfl];decide),ih,if_neg (by omega)]
  omega
theorem zbZ {w:World} {B:Nat} {ks:List Value} {x:VarT} (h:VarAt w B ks x):∃ a b c d e f g i j,ks=[.string x.name,.int .i64 x.label,a,b,c,d,e,f,g,i,j]:=by
 obtain⟨ct,ci,rfl,h3,h6,_,_⟩:=h.ex
 match ct,ci,h3,h6 with
 |[a,b,c],[d,e,f,g,i,j],_,_=>exact⟨a,b,c,d,e,f,g,i,j,rfl⟩
end
end Go.Proofs.YtmpbepjjbaeebaaGreatDoor
