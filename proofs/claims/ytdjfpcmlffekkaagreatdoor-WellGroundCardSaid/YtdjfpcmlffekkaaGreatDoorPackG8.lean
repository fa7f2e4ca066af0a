/- Parts of a proof: Walk, ECnt, IndexV, Build1, Order5, Par2, Par3, Prim, ParL, Tree10, OrdP. -/
import Derived.Test.YtdjfpcmlffekkaaGreatDoorProg
import Derived.Deep.DeepCutAuto
import Derived.Deep.LoopGhost
import Derived.Deep.Cut
import Derived.Deep.Draws
import Derived.Deep.QuietTactic
import Derived.BigQuiet
import Derived.BigRegion
import Derived.Maps.RangeWalk
import Derived.StillTailTactics
import Derived.WalkMore
import Derived.RegionTactic
import Derived.Lib.SliceRun
import Derived.Lib.Hide
import Derived.Test.YtdjfpcmlffekkaaGreatDoorPackG4
import Derived.Test.YtdjfpcmlffekkaaGreatDoorPackG6
import Derived.Test.YtdjfpcmlffekkaaGreatDoorPackG7
set_option maxHeartbeats 8000000
set_option maxRecDepth 100000
set_option linter.unusedVariables false
set_option linter.unusedSimpArgs false
namespace Go.Proofs.YtdjfpcmlffekkaaGreatDoor
section
open Go.RowKit
def zdF (w:World) (e:Ending) (w':World):Prop:=∃ n:Int,e= .returned (.int .i64 n)/\Below w.heap.size w w'
def zcf (w:World) (e:Ending) (w':World):Prop:=∃ b:Bool,e= .returned (.bool b)/\Below w.heap.size w w'
theorem zH (w:World) (cs:Array Value) (T:TypeId) (i:Nat):(w.alloc (.cells cs T)).cell? ⟨w.heap.size,i,none⟩= cs[i]?:=
 cell_of_row _ w.heap.size i cs T (0,0) (heap_alloc_new w _)
theorem zL (w:World) (cs:List Value) (T:TypeId):(w.alloc (.cells ⟨cs⟩ T)).rangeAt w.heap.size 0 cs:=fun j v hv=>by
 rw[Nat.zero_add,zH];simpa using hv
theorem z11 (w:World) (cs:List Value) (T:TypeId):∀ j v,cs[j]?= some v->(w.alloc (.cells ⟨cs⟩ T)).cell? ⟨w.heap.size,j,none⟩= some v:=fun j v hv=>by
 rw[zH];simpa using hv
theorem zc (w:World) (o:Obj):Below w.heap.size w (w.alloc o):=(Below.refl w.heap.size w).alloc (Nat.le_refl _) o
theorem zV (w:World) (o:Obj):w.heap.size <(w.alloc o).heap.size:=by simp
theorem z2U {B:Nat} {u w:World} (h:Below B u w) {b:Nat} (hb:B<=b) (vs:List Value):∀ o,Below B u (w.setCells b o vs):=by
 induction vs generalizing w with
 |nil=>intro o;exact h
 |cons v vs ih=>intro o;exact ih (w:=w.setCell ⟨b,o,none⟩ v) (h.setCell hb v) (o+1)
theorem z6x (b:Nat) (vs:List Value):∀ (o:Nat) (w:World),(w.setCells b o vs).heap.size= w.heap.size:=by
 induction vs with
 |nil=>intro o w;rfl
 |cons v vs ih=>intro o w;exact(ih (o+1) (w.setCell ⟨b,o,none⟩ v)).trans (by simp[World.setCell])
theorem z32 (w:World) (cs:Array Value) (T:TypeId) (i:Nat):(w.alloc (.cells cs T)).frozen? ⟨w.heap.size,i,none⟩= false:=by
 have h:=heap_alloc_new w (.cells cs T);unfold World.frozen?;rw[h];simp
theorem z6E (w:World) (z:Array Value) (T:TypeId):(w.alloc (.cells z T)).there w.heap.size 0 z.size:=fun j hj=>by
 rw[Nat.zero_add,zH,z32]
 exact⟨by rw[Array.getElem?_eq_getElem hj];rfl,rfl⟩
def Tag (w:World) (b:Nat) (T:TypeId):Prop:=∃ c,w.heap[b]?= some (.cells c T (0,0))
theorem Tag.set {w:World} {b:Nat} {T:TypeId} (h:Tag w b T) (p:Addr) (v:Value):Tag (w.setCell p v) b T:=by
 obtain⟨c,hc⟩:=h;unfold World.setCell Tag;simp only[Array.getElem?_modify,hc];split
 ·exact⟨_,rfl⟩
 ·exact⟨_,rfl⟩
theorem Tag.sets {b:Nat} {T:TypeId} (q:Nat) (vs:List Value):∀ (o:Nat) {w:World},Tag w b T->Tag (w.setCells q o vs) b T:=by
 induction vs with
 |nil=>intro o w h;exact h
 |cons v vs ih=>intro o w h;exact ih (o+1) (h.set ⟨q,o,none⟩ v)
theorem OwnSl.apart {α:Type} {T T':TypeId} {k nb base:Nat} {enc:α->List Value} {w:World} {v:Value} {l:List α} (h:OwnSl T k enc w base v l) (ht:Tag w nb T') (hne:T≠T'):some nb≠v.ownBlock:=by
 intro C;obtain⟨c,K⟩:=ht;rcases h.2 with ⟨rfl,_⟩|⟨g,F,G,rfl,_,A,_⟩
 ·cases C
 ·have:nb= g:=by simpa [Value.ownBlock] using C
  subst this;rw[K] at A;injection A with A;injection A with _ A _;exact hne A.symm
structure Boxed (T:TypeId) (w W:World) (cs:List Value):Prop where
 tag:Tag W w.heap.size T
 below:Below w.heap.size w W
 range:W.rangeAt w.heap.size 0 cs
 size:w.heap.size < W.heap.size
theorem z88 (w:World) (z:Array Value) (T:TypeId) (cs:List Value) (h:cs.length= z.size):Boxed T w ((w.alloc (.cells z T)).setCells w.heap.size 0 cs) cs:=
 ⟨Tag.sets _ _ _ ⟨z,heap_alloc_new w _⟩,z2U (zc w _) (Nat.le_refl _) cs 0,World.rangeAt_setCells_same _ _ _ _ (by rw[h];exact z6E w z T),by rw[z6x];simp⟩
section
variable {P:Program} {ops:Array Oper} {rest:List Oper} {o:Oper} {a:Act} {w:World} {Q:Exit->Act->World->Prop}
theorem z1v (T:TypeId) (x y:Operand) (ho:o.op= .store T x y) (hw:Region.wanted o (yielded ops a.tmps)= true) (w0:World) (z:Array Value) (cs:List Value) (hwld:w= w0.alloc (.cells z T)) (hz:cs.length= z.size)
  (hx:a.eval x= .pointer (some ⟨w0.heap.size,0,none⟩)) (hy:a.eval y= .agg cs.toArray) (hi:(P.info? T).map (·.size)= some cs.length) (h1:∀ v∈cs,v.oneCell'= true)
  (h:∀ Z,Boxed T w0 Z cs->wpList P ops Q rest (a.put o.dst undef) Z):wpList P ops Q (o::rest) a w:=by
 subst hwld;exact z3T T x y ho hw w0.heap.size 0 cs hx hy (by rw[hz];exact z6E w0 z T) hi h1 (h _ (z88 w0 z T cs hz))
theorem zW {P:Program} {ops:Array Oper} {rest:List Oper} {o:Oper} {a:Act} {w:World} {Q:Exit->Act->World->Prop} {T:TypeId} {n:Nat} (k:TypK0 P T n) (x y:Operand) (ho:o.op= .store T x y) (hw:Region.wanted o (yielded ops a.tmps)= true) (w0:World) {z:Array Value} {cs:List Value} (hl:cs.length= n) (h1:∀ v∈cs,v.oneCell'= true) (hwld:w= w0.alloc (.cells z T)) (hz:z.size= n) (hx:a.eval x= .pointer (some ⟨w0.heap.size,0,none⟩)) (hy:a.eval y= .agg cs.toArray) (h:∀ Z,Go.RowKit.Hid (Boxed T w0 Z cs)->wpList P ops Q rest (a.put o.dst undef) Z):wpList P ops Q (o::rest) a w:=z1v T x y ho hw w0 z cs hwld (hl.trans hz.symm) hx hy (by rw[hl];exact k.i) h1 fun Z p=>h Z (I p)
end
theorem Boxed.cell {T:TypeId} {w W:World} {cs:List Value} (h:Boxed T w W cs) (j:Nat) {v:Value} (hv:cs[j]?= some v):W.cell? ⟨w.heap.size,j,none⟩= some v:=by
 have:=h.range j v hv;rwa [Nat.zero_add] at this
theorem Boxed.cell' {T:TypeId} {w W Z:World} {cs:List Value} (h:Boxed T w W cs) (hb:Below W.heap.size W Z) (j:Nat) {v:Value} (hv:cs[j]?= some v):Z.cell? ⟨w.heap.size,j,none⟩= some v:=
 (hb.cell (p:=⟨w.heap.size,j,none⟩) h.size).trans (h.cell j hv)
theorem Boxed.sub {T:TypeId} {w W Z:World} {cs:List Value} (h:Boxed T w W cs) (hb:Below W.heap.size W Z) (p q r:List Value) (hc:cs= p ++ q ++ r) (k:Nat) (hk:k= p.length):Z.rangeAt w.heap.size k q:=fun j v hv=>by
 subst hk
 have:=h.cell' hb (p.length+j) (v:=v) (by rw[hc,List.append_assoc,List.getElem?_append_right (by omega),show p.length+j - p.length= j by omega,List.getElem?_append_left (List.getElem?_eq_some_iff.1 hv).1];exact hv)
 exact this
end
section
open Go Go.RowKit
mutual
def cntE:ET->Nat->Nat
 | .mk _ _ _ _ its,n=>cntEL its (n+1)
def cntEL:List ET->Nat->Nat
 |[],n=>n
 |a::l,n=>if 500<=n then n else cntEL l (cntE a n)
end
theorem z6X:∀ (l:List ET) (n:Nat),(∀ x∈l,∀ m,m < 500->cntE x m<=500)->n<=500->cntEL l n<=500
 |[],n,_,h=>by rw[cntEL];exact h
 |a::l,n,h,hn=>by
  rw[cntEL]
  by_cases h5:500<=n
  ·rw[if_pos h5];exact hn
  ·rw[if_neg h5];exact z6X l _ (fun x hx=>h x (List.mem_cons_of_mem _ hx)) (h a (List.mem_cons_self ..) n (by omega))
theorem zdQ (t:ET):∀ m,m < 500->cntE t m<=500:=by
 induction t using ET.ind with
 |h k s v ns its ih=>exact fun m hm=>by rw[cntE];exact z6X its _ ih (by omega)
theorem z4z {l:List ET} {k:Nat} {x:ET} (h:l[k]?= some x):l.drop k= x::l.drop (k+1):=by
 obtain⟨h1,h2⟩:=List.getElem?_eq_some_iff.1 h;rw[List.drop_eq_getElem_cons h1,h2]
theorem z9b {l:List ET} {k m:Nat} {x:ET} (h:l[k]?= some x):cntEL (l.drop k) m= if 500<=m then m else cntEL (l.drop (k+1)) (cntE x m):=by
 rw[z4z h,cntEL]
theorem zao {l:List ET} {m:Nat}:cntEL (l.drop l.length) m= m:=by
 rw[List.drop_eq_nil_of_le (Nat.le_refl _),cntEL]
theorem eslen {w:World} {B:Nat} {cs:List Value} {x:ET} (h:ExpAt w B cs x):cs.length= 10:=by
 cases h;rfl
theorem z76:∀ (t:ET) (m:Nat) (cs:List Value) (p o:Nat) (w:World),m < 500->w.rangeAt p o cs->ExpAt w w.heap.size cs t->
  Calls Tryz.prog 125 #[.pointer (some ⟨p,o,none⟩),.int .i64 m] w fun e w'=>e= .returned (.int .i64 (cntE t m:Nat))/\w'= w:=by
 intro t
 induction t using ET.ind with
 |h k s t ns its ih=>
  intro m cs p o w hm hr hv;have IH:=I ih;obtain⟨v0,v1,v2,v3,v4,v5,vn,vi,rfl,_,_,_,_,Y,hi⟩:=hv.inv;obtain⟨_,A,c,rfl,hA⟩:=hi;unfold maxLen at Y;have HA:=I hA;have d5:=hr 9 _ rfl;have HS:=I (fun k m x=>z9b (l:=its) (k:=k) (m:=m) (x:=x));have HE:=I (fun m=>zao (l:=its) (m:=m));have O:=I (fun x m hm=>zdQ x m hm);have H0:Hid (cntEL (its.drop 0) (m+1)= cntE (.mk k s t ns its) m):=I (by rw[cntE];rfl);have b7:(m:Int) < 500:=by omega
  clear ih hA hr hv;generalize cntE (.mk k s t ns its) m= res at*;go_enter Tryz.func125,Tryz.ntmps125;go_wp2;go_loopg [1,13] its.length (fun q n x u=>∃ (j m:Nat),j+q= its.length/\x= .int .i64 j/\n= .int .i64 m/\m<=500/\u= w/\cntEL (its.drop j) m= res);case atStart=>exact⟨0,m+1,by omega,rfl,by go_num,by omega,rfl,H0.o⟩
  case round=>
   obtain⟨j,m,hj,rfl,rfl,b8,rfl,g⟩:=hrel;have HR:=I g;clear g;cases gk with
   |zero=>
    obtain rfl:j= its.length:=by omega
    have b3: ¬ ((its.length:Int) <(its.length:Int)):=by omega
    have K:=I (HR.o.symm.trans (HE.o m));go_wp2;go_ret;exact⟨by rw[K.o];rfl,rfl⟩
   |succ q=>
    have b6:(j:Int) <(its.length:Int):=by omega
    obtain⟨x,N⟩:∃ x,its[j]?= some x:=⟨_,List.getElem?_eq_getElem (by omega)⟩;obtain⟨b,o',rfl,b2,X⟩:=HA.o (by omega);obtain⟨ks,b5,F,G⟩:=X j x N;have K:=I (HR.o.symm.trans (HS.o j m x N));by_cases h5:500<=m
    ·have C:=I (K.o.trans (if_pos h5))
     have t1:(500:Int)<=(m:Int):=by omega
     clear X F G N K;go_wp2;go_ret;exact⟨by rw[C.o];rfl,rfl⟩
    ·have C:=I (K.o.trans (if_neg h5))
     have t1: ¬ ((500:Int)<=(m:Int)):=by omega
     have HC:=I (IH.o x (List.mem_of_getElem? N) m ks b (o'+j*10) wr (by omega) F G);have a0:=O.o x m (by omega);clear X F G N K h5;go_wp2_with (go_at_call 125;refine HC.o.mono ?_;rintro e z ⟨rfl,rfl⟩);go_roundg q;case measure=>omega
     case rel=>exact⟨j+1,_,by omega,by go_num,rfl,a0,rfl,C.o.symm⟩
theorem z9c (t:ET) (cs:List Value) (w:World) (hv:ExpAt w w.heap.size cs t):Calls Tryz.prog 106 #[.agg ⟨cs⟩] w fun e w'=>e= .returned (.int .i64 (cntE t 0:Nat))/\Below w.heap.size w w':=by
 have g:=I (zc w (.cells ⟨cs⟩ 54));have A:=I (z76 t 0 cs w.heap.size 0 (w.alloc (.cells ⟨cs⟩ 54)) (by decide) (zL w cs 54) ((hv.under g.o).more g.o.size));go_enter Tryz.func106,Tryz.ntmps106;go_wp2_with (go_at_call 125;refine A.o.mono ?_;rintro e z ⟨rfl,rfl⟩);go_ret;exact⟨rfl,g.o⟩
end
section
open Go Go.RowKit
def z1T (s:ByteArray) (x:VarT):Bool:=x.name.toList ==s.toList
def findV:List VarT->ByteArray->Int
 |[],_=> -1
 |x::l,s=>if z1T s x= true then 0 else if findV l s= -1 then -1 else findV l s+1
theorem z4B {s:ByteArray}:∀ {l:List VarT},(∀ (k:Nat) x,l[k]?= some x->z1T s x= false)->findV l s= -1
 |[],_=>rfl
 |x::l,h=>by
  unfold findV
  rw[if_neg (by rw[h 0 x rfl];decide),z4B fun k y hy=>h (k+1) y hy,if_pos rfl]
theorem z3C {s:ByteArray}:∀ {l:List VarT} (j:Nat) (x:VarT),l[j]?= some x->z1T s x= true->(∀ k,k < j->∀ y,l[k]?= some y->z1T s y= false)->findV l s=(j:Int)
 |[],j,x,h,_,_=>by simp at h
 |a::l,0,x,h,hx,_=>by
  obtain rfl:a= x:=by simpa using h
  unfold findV
  rw[if_pos hx];rfl
 |a::l,j+1,x,h,hx,hno=>by
  have g:=z3C (l:=l) j x (by simpa using h) hx fun k hk y hy=>hno (k+1) (by omega) y (by simpa using hy)
  unfold findV
  rw[if_neg (by rw[hno 0 (by omega) a rfl];decide),g,if_neg (by omega)]
  omega
theorem z7Z {w:World} {B:Nat} {ks:List Value} {x:VarT} (h:VarAt w B ks x):∃ a b c d e f g i j,ks=[.string x.name,.int .i64 x.label,a,b,c,d,e,f,g,i,j]:=by
 obtain⟨ct,ci,rfl,h3,h6,_,_⟩:=h.ex
 match ct,ci,h3,h6 with
 |[a,b,c],[d,e,f,g,i,j],_,_=>exact⟨a,b,c,d,e,f,g,i,j,rfl⟩
end
section
open Go
theorem z6b:∀ (ks pre rest:List Value),rest.length= ks.length->
  (ks.zipIdx pre.length).foldl (fun(cs:Array Value) (p:Value × Nat)=>cs.setIfInBounds (0+p.2) p.1) (pre ++ rest).toArray=(pre ++ ks).toArray
 |[],pre,rest,h=>by
  rw[List.eq_nil_of_length_eq_zero h];rfl
 |k::ks,pre,rest,h=>by
  cases rest with
  |nil=>cases h
  |cons r rest=>
   rw[List.zipIdx_cons,List.foldl_cons]
   have h1:(pre ++ r::rest).toArray.setIfInBounds (0+pre.length) k=((pre ++ [k]) ++ rest).toArray:=by
    rw[Nat.zero_add,List.setIfInBounds_toArray]
    congr 1
    simp
   show List.foldl _ ((pre ++ r::rest).toArray.setIfInBounds (0+pre.length) k) _= _;rw[h1];have:=z6b ks (pre ++ [k]) rest (by simpa using h);rw[List.length_append] at this;rw[List.append_assoc] at this ⊢;rw[List.append_assoc] at this;exact this
theorem z7c (size:Nat) (ks:List Value) (cells:Array Value) (h1:ks.length= size) (h2:cells.size= size):Instr.fill (fun i=>some (i*size,size)) cells [(0,.agg ks.toArray)]= some ks.toArray:=by
 unfold Instr.fill;simp only[Nat.zero_mul];have g:(Value.agg ks.toArray).cells= ks.toArray:=rfl;rw[g];rw[if_neg (by simp[h1,h2])];unfold Instr.fill
 congr 1
 have:=z6b ks [] cells.toList (by simpa [h1] using h2)
 simpa using this
section
variable {P:Program}
theorem z5p (w:World) (t e:TypeId) (i:TypeInfo) (z:Value) (ks:List Value) (ht:P.underlying t= some (.slice e)) (hi:P.info? e= some i) (hz:i.zero= some z) (hsz:i.size= ks.length) (h0:0 < ks.length) (hmax:ks.length<=1000):
  (Instr.buildSlice t 1 #[(0,.agg ks.toArray)]).run P w= .ok (.slice (some ⟨w.heap.size,0,none⟩) 1 1) (w.alloc (.cells ⟨ks⟩ e)):=by
 have C:(sizeOf e).run P w= .ok ks.length w:=by simp[sizeOf,typeInfo,hi,hsz]
 have g:(zeroValue e).run P w= .ok z w:=by simp[zeroValue,typeInfo,hi,hz]
 have A:∀ cells:Array Value,cells.size= ks.length->Instr.fill (fun i=>some (i*ks.length,ks.length)) cells [(0,.agg ks.toArray)]= some ks.toArray:=fun cells hc=>z7c ks.length ks cells rfl hc;unfold Instr.buildSlice;simp only[Sem.run_bind,run_underlying ht,Result.andThen_ok,C,Nat.one_mul];rw[if_neg (by omega),if_neg (by omega)];simp only[Sem.run_bind,Sem.run_pure,Result.andThen_ok,g];rw[A _ (by simp)];simp[newRow]
variable {ops:Array Oper} {rest:List Oper} {o:Oper} {a:Act} {w:World} {Q:Exit->Act->World->Prop}
theorem z1u (t:TypeId) (x:Operand) (ho:o.op= .buildSlice t 1 #[(0,x)]) (hw:Region.wanted o (yielded ops a.tmps)= true) (e:TypeId) (i:TypeInfo) (z:Value) (ks:List Value) (hx:a.eval x= .agg ks.toArray)
  (ht:P.underlying t= some (.slice e)) (hi:P.info? e= some i) (hz:i.zero= some z) (hsz:i.size= ks.length) (h0:0 < ks.length) (hmax:ks.length<=1000)
  (h:wpList P ops Q rest (a.put o.dst (.slice (some ⟨w.heap.size,0,none⟩) 1 1)) (w.alloc (.cells ⟨ks⟩ e))):wpList P ops Q (o::rest) a w:=by
 refine wpList_step fun K hK=> ?_;rw[if_pos hw];unfold Oper.wp execOp;have g:=z5p (P:=P) w t e i z ks ht hi hz hsz h0 hmax;simp only[ho,List.map_toArray,List.map_cons,List.map_nil,hx,Sem.run_bind,Sem.run_pure,Result.andThen_ok,g];exact hK _ _ h
end
end
section
open Go
section
variable {P:Program} {ops:Array Oper} {S:World->Prop} {Q:Exit->Act->World->Prop} {i:Nat} {r:OrdT} {a:Act} {w:World}
end
theorem z5K:∀ (ks:List Value) (n m:Nat) (pre mid post:List Value),mid.length= ks.length->n+m= pre.length->
  (ks.zipIdx m).foldl (fun(cs:Array Value) (p:Value × Nat)=>cs.setIfInBounds (n+p.2) p.1) (pre ++ mid ++ post).toArray=(pre ++ ks ++ post).toArray
 |[],n,m,pre,mid,post,h,_=>by
  rw[List.eq_nil_of_length_eq_zero h];rfl
 |k::ks,n,m,pre,mid,post,h,hn=>by
  cases mid with
  |nil=>cases h
  |cons x mid=>
   rw[List.zipIdx_cons,List.foldl_cons]
   have h1:(pre ++ x::mid ++ post).toArray.setIfInBounds (n+m) k=((pre ++ [k]) ++ mid ++ post).toArray:=by
    rw[hn,List.setIfInBounds_toArray]
    congr 1
    simp
   show List.foldl _ ((pre ++ x::mid ++ post).toArray.setIfInBounds (n+m) k) _= _;rw[h1];have:=z5K ks n (m+1) (pre ++ [k]) mid post (by simpa using h) (by rw[List.length_append,List.length_singleton];omega);rw[this]
   congr 1
   simp
theorem zcR (size:Nat) (k1 k2:List Value) (cells:Array Value) (h1:k1.length= size) (h2:k2.length= size) (hc:cells.size= 2*size):
  Instr.fill (fun i=>some (i*size,size)) cells [(0,.agg k1.toArray),(1,.agg k2.toArray)]= some (k1 ++ k2).toArray:=by
 have e1:(Value.agg k1.toArray).cells= k1.toArray:=rfl;have e2:(Value.agg k2.toArray).cells= k2.toArray:=rfl;obtain⟨m1,m2,G,A,g⟩:∃ m1 m2:List Value,cells=(m1 ++ m2).toArray/\m1.length= size/\m2.length= size:=by
  refine⟨cells.toList.take size,cells.toList.drop size,by simp,?_,?_⟩
  ·rw[List.length_take,Array.length_toList];omega
  ·rw[List.length_drop,Array.length_toList];omega
 subst G;unfold Instr.fill;simp only[e1];rw[if_neg (by simp[h1,A,g])];have f1:=z5K k1 (0*size) 0 [] m1 m2 (by rw[A,h1]) (by simp);rw[List.nil_append,List.nil_append] at f1;have C:(k1.toArray.zipIdx).foldl (fun(cs:Array Value) (p:Value × Nat)=>cs.setIfInBounds (0*size+p.2) p.1) (m1 ++ m2).toArray=(k1 ++ m2).toArray:=by
  rw[← f1];simp
 rw[show(k1.toArray.zipIdx.foldl (fun cs x=>match x with|(c,j)=>cs.setIfInBounds (0*size+j) c) (m1 ++ m2).toArray)=(k1 ++ m2).toArray from C];unfold Instr.fill;simp only[e2];rw[if_neg (by simp[h1,h2,g])];have f2:=z5K k2 (1*size) 0 k1 m2 [] (by rw[g,h2]) (by rw[h1];simp);rw[List.append_nil,List.append_nil] at f2;have F:(k2.toArray.zipIdx).foldl (fun(cs:Array Value) (p:Value × Nat)=>cs.setIfInBounds (1*size+p.2) p.1) (k1 ++ m2).toArray=(k1 ++ k2).toArray:=by
  rw[← f2];simp
 rw[show(k2.toArray.zipIdx.foldl (fun cs x=>match x with|(c,j)=>cs.setIfInBounds (1*size+j) c) (k1 ++ m2).toArray)=(k1 ++ k2).toArray from F];rfl
section
variable {P:Program}
variable {o:Oper} {a:Act} {w:World}
end
end
section
open Go Go.RowKit
section
variable {P:Program} {ops:Array Oper} {rest:List Oper} {o:Oper} {a:Act} {w:World} {Q:Exit->Act->World->Prop}
def Whole (T:TypeId) (w:World) (b:Nat) (cs:List Value):Prop:=w.heap[b]?= some (.cells ⟨cs⟩ T (0,0))
theorem Whole.new (w:World) (cs:List Value) (T:TypeId):Whole T (w.alloc (.cells ⟨cs⟩ T)) w.heap.size cs:=heap_alloc_new w _
theorem Whole.range {T:TypeId} {b:Nat} {cs:List Value} (h:Whole T w b cs):w.rangeAt b 0 cs:=by
 intro j v hv;rw[Nat.zero_add];rw[cell_of_row w b j ⟨cs⟩ T _ h]
 simpa using hv
theorem Whole.lt {T:TypeId} {b:Nat} {cs:List Value} (h:Whole T w b cs):b < w.heap.size:=by
 rcases Nat.lt_or_ge b w.heap.size with h1|h1
 ·exact h1
 ·unfold Whole at h;rw[Array.getElem?_eq_none h1] at h;cases h
theorem Whole.keep {T:TypeId} {w':World} {b:Nat} {cs:List Value} (h:Whole T w b cs) (hb:w'.heap[b]?= w.heap[b]?):Whole T w' b cs:=hb.trans h
theorem Whole.there {T:TypeId} {b:Nat} {cs:List Value} (h:Whole T w b cs):w.there b 0 cs.length:=by
 intro j hj;rw[Nat.zero_add,cell_of_row w b j ⟨cs⟩ T _ h];refine⟨by simp[hj],?_⟩;unfold World.frozen?;have h2:w.heap[b]?= some (.cells ⟨cs⟩ T (0,0)):=h;simp[h2]
theorem Whole.tag {T:TypeId} {b:Nat} {cs:List Value} (h:Whole T w b cs):Tag w b T:=⟨_,h⟩
theorem z1x (b:Nat) (T:TypeId):∀ (vs pre mid:List Value) (w:World),w.heap[b]?= some (.cells ⟨pre ++ mid⟩ T (0,0))->mid.length= vs.length->(w.setCells b pre.length vs).heap[b]?= some (.cells ⟨pre ++ vs⟩ T (0,0))
 |[],pre,mid,w,h,hl=>by
  rw[List.eq_nil_of_length_eq_zero hl] at h
  exact h
 |v::vs,pre,[],w,h,hl=>by cases hl
 |v::vs,pre,m::mid,w,h,hl=>by
  have h1:(w.setCell ⟨b,pre.length,none⟩ v).heap[b]?= some (.cells ⟨(pre ++ [v]) ++ mid⟩ T (0,0)):=by
   show(w.heap.modify b _)[b]?= _;rw[Array.getElem?_modify,if_pos rfl,h];simp
  have h2:=z1x b T vs (pre ++ [v]) mid (w.setCell ⟨b,pre.length,none⟩ v) h1 (by simpa using hl);rw[List.length_append] at h2;have e:pre ++ [v] ++ vs= pre ++ v::vs:=by simp
  rw[e] at h2;exact h2
theorem z2V (b:Nat):∀ (cs:List Value) (w:World) (i:Nat),But w (w.setCells b i cs) b b
 |[],w,_=>But.refl w b b
 |v::cs,w,i=>(But.setAt w b i v).trans (z2V b cs _ (i+1))
theorem z0T (T:TypeId) (x y:Operand) (ho:o.op= .store T x y) (hn:o.dst= none) (hw:Region.wanted o (yielded ops a.tmps)= true) (b:Nat) (cs0 cs:List Value) (hb:Whole T w b cs0) (hl:cs0.length= cs.length)
  (hx:a.eval x= .pointer (some ⟨b,0,none⟩)) (hy:a.eval y= .agg cs.toArray) (hi:(P.info? T).map (·.size)= some cs.length) (h1:∀ v∈cs,v.oneCell'= true)
  (h:∀ Z,Whole T Z b cs->But w Z b b->wpList P ops Q rest a Z):wpList P ops Q (o::rest) a w:=by
 have h:=fun Z h1 h2=>(show wpList P ops Q rest (a.put o.dst undef) Z from by rw[hn];exact h Z h1 h2);refine z3T T x y ho hw b 0 cs hx hy (by rw[← hl];exact hb.there) hi h1 (h _ ?_ (z2V b cs w 0));have:=z1x b T cs [] cs0 w hb hl;exact this
theorem zg {P:Program} {ops:Array Oper} {rest:List Oper} {o:Oper} {a:Act} {w:World} {Q:Exit->Act->World->Prop} (T:TypeId) (x y:Operand) (ho:o.op= .store T x y) (hn:o.dst= none) (hw:Region.wanted o (yielded ops a.tmps)= true) {b:Nat} {cs0:List Value} (hb:Whole T w b cs0) (cs:List Value) (hl:cs0.length= cs.length) (hx:a.eval x= .pointer (some ⟨b,0,none⟩)) (hy:a.eval y= .agg cs.toArray) (hi:(P.info? T).map (·.size)= some cs.length) (h1:∀ v∈cs,v.oneCell'= true) (h:∀ Z,Go.RowKit.Hid (Whole T Z b cs)->Go.RowKit.Hid (But w Z b b)->wpList P ops Q rest a Z):wpList P ops Q (o::rest) a w:=z0T T x y ho hn hw b cs0 cs hb hl hx hy hi h1 fun Z p q=>h Z (I p) (I q)
end
end
section
open Go Go.RowKit
abbrev valC (k n:Int) (f:Nat) (s:ByteArray):List Value:=[.int .i64 k,.int .i64 n,.float .f64 f,.string s,.slice none 0 0,.slice none 0 0]
end
section
open Go Go.RowKit
section
variable {P:Program} {ops:Array Oper} {S:World->Prop} {Q:Exit->Act->World->Prop} {i:Nat} {r:List (Nat × Bool)} {o:Oper} {a:Act} {w:World}
theorem z16 (T:TypeId) (ho:o.op= .alloc T) (j:TypeInfo) (z:Value) (hi:P.info? T= some j) (hz:j.zero= some z):
  (execOp a.eval o).run P w= .ok (.value (.pointer (some ⟨w.heap.size,0,none⟩))) (w.alloc (.cells z.cells T)):=by
 have hzv:(zeroValue T).run P w= .ok z w:=by simp[zeroValue,typeInfo,hi,hz]
 unfold execOp;simp only[ho,Instr.alloc,Sem.run_bind,hzv,Result.andThen_ok];simp[newVar,newRow]
theorem z1y (d:Option Tmp) (T:TypeId) (o:Oper) (x y:Operand) (hi:ops[i]?= some o) (ho:o.op= .store T x y) (hd:o.dst= d) (hw:Region.wanted o (yielded ops a.tmps)= true) (b:Nat) (cs0 cs:List Value) (hb:Whole T w b cs0) (hl:cs0.length= cs.length)
  (hx:a.eval x= .pointer (some ⟨b,0,none⟩)) (hy:a.eval y= .agg cs.toArray) (hi2:(P.info? T).map (·.size)= some cs.length) (h1:∀ v∈cs,v.oneCell'= true)
  (h:∀ Z,Whole T Z b cs->But w Z b b->S Z/\wpOrd P ops S Q r (a.put d undef) Z):wpOrd P ops S Q ((i,false)::r) a w:=by
 subst hd;refine z44 o hi hw fun K hK=> ?_;have g:=h (w.setCells b 0 cs) (z1x b T cs [] cs0 w hb hl) (z2V b cs w 0);exact wp_store_mid T x y ho b 0 cs.toArray hx hy (by rw[List.size_toArray,← hl];exact hb.there) (by simpa using hi2) (all_oneCell_toArray h1) (by simpa using hK _ _ g.1 g.2)
end
theorem Whole.cells {T:TypeId} {w:World} {b:Nat} {cs:List Value} (h:Whole T w b cs) (k:Nat) {v:Value} (hv:cs[k]?= some v):w.cell? ⟨b,k,none⟩= some v:=by
 have:=h.range k v hv;rwa [Nat.zero_add] at this
theorem PS.under {T:TypeId} {pb tb c:Nat} {E:Int} {toks:List Tok} {w w':World} {i:Nat} {d:Int} (h:PS T pb tb c E toks w i d) (b:Nat) (hp:b≠pb) (ht:b≠tb) (hb:But w w' b b):PS T pb tb c E toks w' i d:=
 ⟨(hb.block pb h.lt.2 (Ne.symm hp) (Ne.symm hp)).trans h.blk,h.ne,⟨Nat.lt_of_lt_of_le h.lt.1 hb.size,Nat.lt_of_lt_of_le h.lt.2 hb.size⟩,fun j t hj a v hv=>(hb.cell h.lt.1 (Ne.symm ht) (Ne.symm ht)).trans (h.tok j t hj a v hv),h.len⟩
section
variable {pb tb c:Nat} {E:Int} {toks:List Tok} {w:World} {i:Nat} {d:Int}
end
end
section
open Go Go.RowKit
def KeptP (p:Nat->Prop) (w:World) (cs:List Value) (t:ET):Prop:=ExpAt (only w p) w.heap.size cs t
theorem KeptP.to {p q:Nat->Prop} {w w':World} {cs:List Value} {t:ET} (h:KeptP p w cs t) (hb:∀ b,p b->b < w.heap.size->q b/\w'.heap[b]?= w.heap[b]?) (hs:w.heap.size<=w'.heap.size):KeptP q w' cs t:=
 (ExpAt.cells h (z42 hb)).more hs
theorem KeptP.one {p:Nat->Prop} {w:World} {cs:List Value} {t:ET} (h:KeptP p w cs t):∀ v∈cs,v.oneCell'= true:=ExpAt.one h
theorem KeptP.len {p:Nat->Prop} {w:World} {cs:List Value} {t:ET} (h:KeptP p w cs t):cs.length= 10:=by
 cases t with
 |mk k s v ns its=>
  obtain⟨c0,c1,c2,c3,c4,c5,vn,vi,rfl,_⟩:=ExpAt.inv h;rfl
theorem zB (n:Int) (h:(Lit.int .i64 n).wf= true):wfI n:=h
theorem zdw (w:World) (B:Nat) (k n:Int) (f:Nat) (s:ByteArray) (hk:wfI k) (hn:wfI n) (hf:(Lit.float .f64 f).wf= true) (hs:s.size<=maxLen):ValAt w B (valC k n f s) (.mk k n f s [] []):=
 ValAt.of hk hn hf hs (SlAt.nil w B 1 _) (Nat.zero_le _) (SlAt.nil w B 6 _)
section
variable (pb tb c:Nat) (E:Int) (toks:List Tok)
variable {pb tb c E toks}
end
end
section
open Go Go.RowKit
section
variable {P:Program} {ops:Array Oper} {S:World->Prop} {Q:Exit->Act->World->Prop} {i:Nat} {r:List (Nat × Bool)} {a:Act} {w:World}
variable {t u:OrdT} {j:Nat}
theorem z3j (h1:zP P ops S Q (.act i t) a w) (h2:zP P ops S Q (.act j u) a w):zP P ops S Q (.two i j t u) a w:=⟨h1,h2⟩
theorem z0G (d:Option Tmp) (v:Value) (w':World) (o:Oper) (hi:ops[i]?= some o) (hd:o.dst= d) (hw:Region.wanted o (yielded ops a.tmps)= true)
  (hrun:(execOp a.eval o).run P w= .ok (.value v) w') (hS:S w') (h:zP P ops S Q t (a.put d v) w'):zP P ops S Q (.act i t) a w:=by
 subst hd;refine z4K o hi hw fun K hK=> ?_;unfold Oper.wp;rw[hrun];exact hK _ _ hS h
theorem z0C (d:Option Tmp) (T:TypeId) (o:Oper) (x y:Operand) (hi:ops[i]?= some o) (ho:o.op= .store T x y) (hd:o.dst= d) (hw:Region.wanted o (yielded ops a.tmps)= true) (b:Nat) (cs0 cs:List Value) (hb:Whole T w b cs0) (hl:cs0.length= cs.length)
  (hx:a.eval x= .pointer (some ⟨b,0,none⟩)) (hy:a.eval y= .agg cs.toArray) (hi2:(P.info? T).map (·.size)= some cs.length) (h1:∀ v∈cs,v.oneCell'= true)
  (h:∀ Z,Whole T Z b cs->But w Z b b->S Z/\zP P ops S Q t (a.put d undef) Z):zP P ops S Q (.act i t) a w:=by
 subst hd;refine z4K o hi hw fun K hK=> ?_;have g:=h (w.setCells b 0 cs) (z1x b T cs [] cs0 w hb hl) (z2V b cs w 0);exact wp_store_mid T x y ho b 0 cs.toArray hx hy (by rw[List.size_toArray,← hl];exact hb.there) (by simpa using hi2) (all_oneCell_toArray h1) (by simpa using hK _ _ g.1 g.2)
end
end
section
open Go
section
variable {P:Program} {ops:Array Oper} {S:World->Prop} {Q:Exit->Act->World->Prop} {i:Nat} {r:List (Nat × Bool)} {t:OrdT} {a:Act} {w:World}
theorem z45 (d:Option Tmp) (f:FuncId) {fn:Func} (hf:P.funcs[f]?= some fn) (hn:(fn.name == "runtime.NumGoroutine")= false) (hb:fn.body.isNone= false) (vals:List Value)
  (o:Oper) (args:List Operand) (ts:Array TypeId) (hi:ops[i]?= some o) (ho:o.op= .call { callee:= .value (.func f),args:=args.toArray,argTypes:=ts })
  (hd:o.dst= d) (hw:Region.wanted o (yielded ops a.tmps)= true) (hv:args.map a.eval= vals)
  (h:Calls P f vals.toArray w fun e w'=>(∃ v,e= .returned v/\S w'/\wpOrd P ops S Q r (a.put d v) w')\/∃ c,e= .panicked c/\Q (.panic c) a w'):wpOrd P ops S Q ((i,false)::r) a w:=by
 subst hd;refine z44 o hi hw fun K hK=> ?_;unfold Oper.wp;rw[show(execOp a.eval o).run P w= .ok (.enter f vals.toArray) w by rw[← hv,← List.map_toArray];exact z3B hf hn hb o args.toArray ts ho,Oper.upon_enter];refine h.mono fun e w' he=> ?_;rcases he with ⟨v,rfl,g,A⟩|⟨c,rfl,C⟩
 ·exact hK _ _ g A
 ·exact C
end
end
end Go.Proofs.YtdjfpcmlffekkaaGreatDoor
