/- Parts of a proof: VBld, VText, VTop, VMk, VBldK. -/
import Derived.Lib.Builder
import Derived.Lib.AppendStr
import Derived.Lib.UnsafeStr
import Derived.Laws.Externs
import Derived.Laws.IdiomCopy
import Derived.Test.YtdjfpcmlffekkaaGreatDoorPackG11
set_option maxHeartbeats 8000000
set_option maxRecDepth 100000
set_option linter.unusedVariables false
set_option linter.unusedSimpArgs false
namespace Go.Proofs.YtdjfpcmlffekkaaGreatDoor
section
open Go Go.RowKit
theorem z7h:(Tryz.prog.info? 226).map (·.size)= some 2:=by kernel_rfl
theorem z5L:(Tryz.prog.info? 5).map (fun i=>(i.zero,i.size,i.bytes))= some (some (.int .u8 0),1,1):=by kernel_rfl
theorem zd4:liesAt Tryz.prog Tryz.prog.depth 228 (2 / Tryz.prog.cellsOf 228) 0 226 1= true:=by kernel_rfl
abbrev Bld (B b:Nat) (bs:List Value) (w:World):Prop:=Lib.BuilderAt 228 5 B b (.pointer (some ⟨b,0,none⟩)) bs w
abbrev Bld0 (B b:Nat) (bs:List Value) (w:World):Prop:=Lib.IsBuilder 228 5 B b bs w
theorem z68 (b:Nat) (w:World) (h0:w.cell? ⟨b,0,none⟩= some (.pointer (some ⟨b,0,none⟩))):
  Calls Tryz.prog 204 #[.pointer (some ⟨b,0,none⟩)] w fun e w'=>e= .returned (.tuple #[])/\w'= w:=by
 obtain⟨j,hj,_⟩:=Option.map_eq_some_iff.1 z7h;go_enter Tryz.func204,Tryz.ntmps204;go_wp2;rw[Lib.run_neq_ptr_same w _ Tryz.underlying224 hj];go_wp2
 go_end0
 exact⟨rfl,rfl⟩
theorem z4T (b:Nat) (w:World) (h0:w.cell? ⟨b,0,none⟩= some (.pointer none)) (hsh:w.shape? b= some (228,2)) (hfz:w.frozen? ⟨b,0,none⟩= false):
  Calls Tryz.prog 204 #[.pointer (some ⟨b,0,none⟩)] w fun e w'=>e= .returned (.tuple #[])/\w'= w.setCell ⟨b,0,none⟩ (.pointer (some ⟨b,0,none⟩)):=by
 obtain⟨j,C,g⟩:=Option.map_eq_some_iff.1 z7h;have A:j.size≠0:=by rw[g];decide
 go_enter Tryz.func204,Tryz.ntmps204;go_wp2;rw[Lib.run_to_unsafe w ⟨b,0,none⟩ Tryz.underlying224 Tryz.underlying259 C A hsh (Nat.zero_lt_succ 1)];simp only[Result.andThen];rw[Oper.upon_value];go_wp2;rw[run_callFunc_extern Tryz.func212 (by kernel_rfl) (by kernel_rfl) (by kernel_rfl) (e:=Extern.AbiNoEscape.same) (by kernel_rfl)];rw[Lib.run_noEscape];simp only[Result.andThen];rw[Oper.upon_value];go_wp2;rw[Lib.run_from_unsafe w ⟨b,0,none⟩ Tryz.underlying259 Tryz.underlying224 C hsh zd4];simp only[Result.andThen];rw[Oper.upon_value];go_wp2
 go_end0
 exact⟨rfl,rfl⟩
theorem z74 (B b:Nat) (bs:List Value) (w:World) (h:Bld0 B b bs w):
  Calls Tryz.prog 204 #[.pointer (some ⟨b,0,none⟩)] w fun e w'=>e= .returned (.tuple #[])/\(Bld B b bs w'/\Below B w w'):=by
 rcases h with h|h
 ·refine(z4T b w h.cell0 h.shape h.frozen0).mono ?_
  rintro e w' ⟨rfl,rfl⟩;exact⟨rfl,h.used _,(Below.refl B w).setCell (p:=⟨b,0,none⟩) h.1 _⟩
 ·refine(z68 b w h.cell0).mono ?_
  rintro e w' ⟨rfl,rfl⟩;exact⟨rfl,h,Below.refl B _⟩
theorem wbyte (B b:Nat) (bs:List Value) (c:Int) (w:World) (h:Bld0 B b bs w) (hlen:bs.length+1<=140737488355328) (hBw:B<=w.heap.size):
  Calls Tryz.prog 196 #[.pointer (some ⟨b,0,none⟩),.int .u8 c] w fun e w'=>e= .returned .nilIface/\(Bld B b (bs ++ [.int .u8 c]) w'/\Below B w w'):=by
 obtain⟨i0,hi,a1,a2,a3⟩:=info_parts z5L;go_enter Tryz.func196,Tryz.ntmps196;go_wp2_with (go_at_call 204;refine(z74 B b bs _ h).mono ?_);rintro e w1 ⟨rfl,h1,G⟩;have Y:=h1.lt;obtain⟨hB,v,O,N,a0⟩:=h1;have c1:w1.cell? ⟨b,1,none⟩= some v:=by rw[Lib.cell_of_heap O];rfl
 go_wp2_with (at_builtin;refine wpList_append_own _ rfl _ _ 131 rfl B 5 i0 (.int .u8 0) 1 1 Tryz.underlying131 hi a1 a2 a3 rfl (by decide) _ _ _ rfl (N.alloc _) ⟨w1.heap.size,0,none⟩ 1 1 [.int .u8 c] rfl rfl ?c1 ?c2 ?c3 ?c4 ?c5 ?_);case c1=>
  intro j u X
  match j,X with
  |0,X=>simp at X;subst X;simp[Addr.add]
 case c2=>intro u hu;simp at hu;subst hu;rfl
 case c3=>unfold maxLen;omega
 case c4=>omega
 case c5=>have:=G.size;simp;omega
 intro v' w2 C A _;have K:w2.heap[b]?= some (.cells #[.pointer (some ⟨b,0,none⟩),v] 228 (0,0)):=by
  rw[A.block b (by simp;omega) (fun e=>a0 e.symm),Lib.alloc_old w1 _ b Y];exact O
 have d0:w2.cell? ⟨b,0,none⟩= some (.pointer (some ⟨b,0,none⟩)):=by rw[Lib.cell_of_heap K];rfl
 have d1:w2.cell? ⟨b,1,none⟩= some v:=by rw[Lib.cell_of_heap K];rfl
 have f1:w2.frozen? ⟨b,1,none⟩= false:=Lib.frozen_of_heap K 1;obtain⟨g,F,rfl⟩:∃ g F,v'= .slice (some ⟨g,0,none⟩) (bs.length+1) F:=by
  rcases C.2 with ⟨_,h0⟩|⟨g,F,a6,hv,_⟩
  ·omega
  ·exact⟨g,F,hv⟩
 go_wp2;go_ret;refine⟨rfl,?_,?_⟩
 ·exact Lib.BuilderAt.put (T:=228) (e:=5) hB K (bs':=bs ++ [.int .u8 c]) (by simpa using C) (by decide)
 ·exact((G.alloc (by have:=G.size;omega) _).grown A (by have:=G.size;simp;omega) (fun k hk=>(N.lt k hk).1)).setCell (p:=⟨b,1,none⟩) hB _
theorem z10 (B b:Nat) (bs:List Value) (s:ByteArray) (w:World) (h:Bld0 B b bs w) (hlen:bs.length+s.size<=140737488355328) (hBw:B<=w.heap.size):
  Calls Tryz.prog 191 #[.pointer (some ⟨b,0,none⟩),.string s] w fun e w'=>e= .returned (.tuple #[.int .i64 s.size,.nilIface])/\(Bld B b (bs ++ Lib.strCells s) w'/\Below B w w'):=by
 obtain⟨i0,hi,a1,a2,a3⟩:=info_parts z5L;go_enter Tryz.func191,Tryz.ntmps191;go_wp2_with (go_at_call 204;refine(z74 B b bs _ h).mono ?_);rintro e w1 ⟨rfl,h1,N⟩;have X:=h1.lt;obtain⟨hB,v,O,G,Y⟩:=h1;have c1:w1.cell? ⟨b,1,none⟩= some v:=by rw[Lib.cell_of_heap O];rfl
 go_wp2_with (at_builtin;refine Lib.wpList_append_own_string _ rfl _ _ 131 9 rfl B 5 i0 Tryz.underlying131 Tryz.underlying9 hi a1 a2 a3 _ _ _ rfl G s rfl ?c3 ?c4 ?c5 ?_);case c3=>unfold maxLen;omega
 case c4=>omega
 case c5=>have:=N.size;omega
 intro v' w2 C A _;have F:w2.heap[b]?= some (.cells #[.pointer (some ⟨b,0,none⟩),v] 228 (0,0)):=by
  rw[A.block b X (fun e=>Y e.symm)];exact O
 have d0:w2.cell? ⟨b,0,none⟩= some (.pointer (some ⟨b,0,none⟩)):=by rw[Lib.cell_of_heap F];rfl
 have d1:w2.cell? ⟨b,1,none⟩= some v:=by rw[Lib.cell_of_heap F];rfl
 have f1:w2.frozen? ⟨b,1,none⟩= false:=Lib.frozen_of_heap F 1;obtain⟨ao,n',K,rfl⟩:∃ ao n' K,v'= .slice ao n' K:=by
  rcases C.2 with ⟨hv,_⟩|⟨g,K,a7,hv,_⟩
  ·exact⟨_,_,_,hv⟩
  ·exact⟨_,_,_,hv⟩
 go_wp2;go_ret2;refine⟨rfl,?_,?_⟩
 ·exact Lib.BuilderAt.put (T:=228) (e:=5) hB F (bs':=bs ++ Lib.strCells s) (by simpa [Lib.strCells_length] using C) (by decide)
 ·exact(N.grown A (by have:=N.size;omega) (fun k hk=>(G.lt k hk).1)).setCell (p:=⟨b,1,none⟩) hB _
theorem zcj:Tryz.prog.cellsOf 5= 1:=by kernel_rfl
theorem zdM (B b:Nat) (l:List UInt8) (w:World) (h:Bld B b (Lib.byteCells l) w) (h0:l≠[]):
  Calls Tryz.prog 175 #[.pointer (some ⟨b,0,none⟩)] w fun e w'=>e= .returned (.string ⟨l.toArray⟩)/\Below B w w':=by
 obtain⟨hB,v,K,F,a6⟩:=h;have X:l.length≠0:=by simpa using h0
 rw[Lib.byteCells_length] at F;obtain⟨g,A,C,rfl,G,hg,a5,N,a3,Y⟩:∃ g A C,v= .slice (some ⟨g,0,none⟩) l.length A/\B<=g/\w.heap[g]?= some (.cells C 5 (0,0))/\l.length<=A/\A<=maxLen/\C.size= A*1/\C.toList.take (l.length*1)= Lib.byteCells l:=by
  rcases F.2 with ⟨_,hz⟩|⟨g,A,C,hv,r⟩
  ·exact absurd hz X
  ·exact⟨g,A,C,hv,r⟩
 have c1:w.drew.cell? ⟨b,1,none⟩= some (.slice (some ⟨g,0,none⟩) l.length A):=by
  have:w.drew.heap[b]?= some (.cells #[.pointer (some ⟨b,0,none⟩),.slice (some ⟨g,0,none⟩) l.length A] 228 (0,0)):=K;rw[Lib.cell_of_heap this];rfl
 have a1:(Builtin.unsafeSliceData_ #[131] 248 #[.slice (some ⟨g,0,none⟩) l.length A]).run Tryz.prog w.drew= .ok (.pointer (some ⟨g,0,none⟩)) w.drew:=
  Lib.run_unsafeSliceData_row _ _ _ _ _ _ (by omega)
 have a2:(Builtin.unsafeString_ #[248,3] 9 #[.pointer (some ⟨g,0,none⟩),.int .i64 l.length]).run Tryz.prog w.drew= .ok (.string ⟨l.toArray⟩) (w.drew.freeze ⟨g,0,none⟩ l.length):=by
  refine Lib.run_unsafeString_row w.drew 248 3 9 5 Tryz.underlying248 zcj g C.size (by have O:w.drew.heap[g]?= some (.cells C 5 (0,0)):=hg;simp[World.shape?,O]) l h0 (by omega) (by unfold maxLen at N;omega) ?_;intro j x hx;exact F.cells (g:=g) rfl j (.int .u8 x.toNat) (by simp[Lib.byteCells,hx])
 have a0:Tryz.prog.follows .mixedOrders= true:=by kernel_rfl
 go_enter Tryz.func175,Tryz.ntmps175;go_wp2
 go_region_o
 all_goals (go_wp2;go_ret;exact⟨rfl,Lib.below_freeze (Below.drew (Below.refl B w)) (p:=⟨g,0,none⟩) G _⟩)
end
section
open Go Go.RowKit
theorem z62 (l r:List UInt8):Lib.byteCells (l ++ r)= Lib.byteCells l ++ Lib.byteCells r:=by simp[Lib.byteCells]
theorem z6A (s:ByteArray):Lib.strCells s= Lib.byteCells s.data.toList:=rfl
theorem z2R {B b:Nat} {bs:List Value} {w:World} (h:Bld0 B b bs w):Bld0 B b bs w.drew:=h.elim (fun h=> .inl h.drew) (fun h=> .inr h.drew)
theorem z4x {T e:TypeId} {B b:Nat} {p:Value} {bs:List Value} {w w':World} (h:Lib.BuilderAt T e B b p bs w) (hb:Below w.heap.size w w'):Lib.BuilderAt T e B b p bs w':=by
 have C:=h.lt;obtain⟨G,v,A,g,F⟩:=h;exact⟨G,v,(hb.block b C).trans A,World.ownsRow.kept g (row:=none) ⟨hb.os,hb.tape,hb.output,hb.size,fun i hi _=>hb.block i hi⟩ (by cases e:v.ownBlock<;>simp),F⟩
def joinK (nm tx:Nat->List UInt8):Nat->List UInt8
 |0=>[]
 |k+1=>joinK nm tx k ++ ((if k= 0 then[] else[44]) ++ (nm k ++ tx k))
theorem zd0 (nm tx:Nat->List UInt8) {k n:Nat} (h:k<=n):(joinK nm tx k).length<=(joinK nm tx n).length:=by
 induction n with
 |zero=>rw[Nat.le_zero.1 h];exact Nat.le_refl _
 |succ n ih=>
  rcases Nat.lt_or_ge k (n+1) with h1|h1
  ·have:=ih (by omega)
   rw[show joinK nm tx (n+1)= joinK nm tx n ++ ((if n= 0 then[] else[44]) ++ (nm n ++ tx n)) from rfl,List.length_append];omega
  ·rw[show k= n+1 by omega];exact Nat.le_refl _
theorem z56 (nm tx:Nat->List UInt8) {k n:Nat} (h:k < n):(joinK nm tx k).length+ ((if k= 0 then([]:List UInt8) else[44]).length+ ((nm k).length+ (tx k).length))<=(joinK nm tx n).length:=by
 have:=zd0 nm tx (show k+1<=n from h);rw[show joinK nm tx (k+1)= joinK nm tx k ++ ((if k= 0 then[] else[44]) ++ (nm k ++ tx k)) from rfl,List.length_append,List.length_append,List.length_append] at this;exact this
theorem z4a (s t:ByteArray):(s ++ t).data.toList= s.data.toList ++ t.data.toList:=by simp[ByteArray.data_append]
end
section
open Go Go.RowKit
theorem zdL (w:World):Bld0 w.heap.size w.heap.size [] (w.alloc (.cells #[.pointer none,.slice none 0 0] 228)):=
 .inl ⟨Nat.le_refl _,.slice none 0 0,heap_alloc_new w _,⟨rfl,.inl ⟨rfl,rfl⟩⟩,by simp[Value.ownBlock]⟩
theorem zer (t:VT) (hr:(decide (cntV t 0<=200) && zw t 1)= false) (cs:List Value) (w:World) (hv:ValAt w w.heap.size cs t):
  Calls Tryz.prog 159 #[.agg ⟨cs⟩] w fun e w'=>e= .returned (.tuple #[.string ⟨#[]⟩,.int .i64 5])/\Below w.heap.size w w':=by
 have g:=I (zc w (.cells ⟨cs⟩ 52));have F:=I (zL w cs 52);have G:=I (zp hv);have A:=I (z1s t cs (w.alloc (.cells ⟨cs⟩ 52)) (hv.next g.o));rw[hr] at A;clear hv hr;go_enter Tryz.func159,Tryz.ntmps159;go_upto_region 1 with (fail);generalize w.alloc (.cells ⟨cs⟩ 52)= W at*;go_wp2_with (first|((with_reducible refine za tyK52 _ rfl ?_ F.o rfl G.o.1 ?_);exact wA rfl)|(go_at_call 61;refine zi A.o ?_;intro w2 C));go_ret2;exact⟨rfl,(beT g.o C.o)⟩
end
section
open Go Go.RowKit
theorem zk {fn:Func} {p:Tmp} {T:TypeId} {d:TypeDesc} (h:fn.results= #[.cell p T]) (hu:Tryz.prog.underlying T= some d) (hd:d.isRow= true) (tmps:Array Value) (w:World) (g:Nat) (cs:List Value) (hi:(Tryz.prog.info? T).map (·.size)= some cs.length)
  (hp:tmps.getD p undef= .pointer (some ⟨g,0,none⟩)) (hm:w.rangeAt g 0 cs):(results fn tmps).run Tryz.prog w= .ok (.agg ⟨cs⟩) w:=by
 have hp':tmps[p]?.getD undef= .pointer (some ⟨g,0,none⟩):=by simpa using hp
 have hl:=run_loadVar_mid (P:=Tryz.prog) w g 0 T cs _ hm hu hd hi;simp[results,h,hp',asAddr,hl]
end
section
open Go Go.RowKit
def Fz (w w':World):Prop:=∀ (k:Nat) (c:Array Value) (e:TypeId) (fz:Nat × Nat),w.heap[k]?= some (.cells c e fz)->fz≠(0,0)->w'.heap[k]?= some (.cells c e fz)
theorem Fz.refl (w:World):Fz w w:=fun _ _ _ _ h _=>h
theorem Fz.trans {a b c:World} (h:Fz a b) (k:Fz b c):Fz a c:=fun i _ _ _ x y=>k i _ _ _ (h i _ _ _ x y) y
theorem Fz.setCell {w:World} {b:Nat} {v u:Value} {T:TypeId} {cs:Array Value} (h:w.heap[b]?= some (.cells cs T (0,0))) (p:Addr) (hp:p.block= b):Fz w (w.setCell p u):=by
 intro k c e F g C;have A:b≠k:=by
  rintro rfl;rw[h] at g;injection g with g;injection g with _ _ h3;exact C h3.symm
 show(w.heap.modify p.block _)[k]?= _;rw[Array.getElem?_modify,if_neg (by rw[hp];exact A),g]
theorem Fz.alloc (w:World) (o:Obj):Fz w (w.alloc o):=by
 intro k c e fz hk hf;have hlt:k < w.heap.size:=by
  rcases Nat.lt_or_ge k w.heap.size with h|h
  ·exact h
  ·rw[Array.getElem?_eq_none h] at hk;cases hk
 rw[Lib.alloc_old w o k hlt];exact hk
theorem Fz.drew (w:World):Fz w w.drew:=fun _ _ _ _ h _=>h
theorem Fz.grown {w w':World} {B:Nat} {e:TypeId} {v:Value} {n:Nat} {xs:List Value} (h:w.grownBy w' v.ownBlock) (ho:w.ownsRow B e 1 v n xs):Fz w w':=by
 intro k c t X C O;have F:k < w.heap.size:=by
  rcases Nat.lt_or_ge k w.heap.size with h|h
  ·exact h
  ·rw[Array.getElem?_eq_none h] at C;cases C
 rw[h.block k F,C];intro G;rcases ho.2 with ⟨rfl,_⟩|⟨g,K,N,rfl,_,A,_⟩
 ·cases G
 ·have:k= g:=by simpa [Value.ownBlock] using G
  subst this;rw[C] at A;injection A with A;injection A with _ _ h3;exact O h3
theorem copyK (B b:Nat) (bs:List Value) (w:World) (h:Bld0 B b bs w):
  Calls Tryz.prog 204 #[.pointer (some ⟨b,0,none⟩)] w fun e w'=>e= .returned (.tuple #[])/\(Bld B b bs w'/\Below B w w'/\Fz w w'):=by
 rcases h with h|h
 ·refine(z4T b w h.cell0 h.shape h.frozen0).mono ?_
  rintro e w' ⟨rfl,rfl⟩;obtain⟨A,v,g,_⟩:=id h;exact⟨rfl,h.used _,(Below.refl B w).setCell (p:=⟨b,0,none⟩) h.1 _,Fz.setCell (v:=v) g ⟨b,0,none⟩ rfl⟩
 ·refine(z68 b w h.cell0).mono ?_
  rintro e w' ⟨rfl,rfl⟩;exact⟨rfl,h,Below.refl B _,Fz.refl _⟩
theorem z5y (B b:Nat) (bs:List Value) (c:Int) (w:World) (h:Bld0 B b bs w) (hlen:bs.length+1<=140737488355328) (hBw:B<=w.heap.size):
  Calls Tryz.prog 196 #[.pointer (some ⟨b,0,none⟩),.int .u8 c] w fun e w'=>e= .returned .nilIface/\(Bld B b (bs ++ [.int .u8 c]) w'/\Below B w w'/\Fz w w'):=by
 obtain⟨i0,hi,a1,a2,a3⟩:=info_parts z5L;go_enter Tryz.func196,Tryz.ntmps196;go_wp2_with (go_at_call 204;refine(copyK B b bs _ h).mono ?_);rintro e w1 ⟨rfl,h1,N,hz⟩;have HZ:=I hz;clear hz;have Y:=h1.lt;obtain⟨hB,v,O,F,a0⟩:=h1;have c1:w1.cell? ⟨b,1,none⟩= some v:=by rw[Lib.cell_of_heap O];rfl
 go_wp2_with (at_builtin;refine wpList_append_own _ rfl _ _ 131 rfl B 5 i0 (.int .u8 0) 1 1 Tryz.underlying131 hi a1 a2 a3 rfl (by decide) _ _ _ rfl (F.alloc _) ⟨w1.heap.size,0,none⟩ 1 1 [.int .u8 c] rfl rfl ?c1 ?c2 ?c3 ?c4 ?c5 ?_);case c1=>
  intro j u X
  match j,X with
  |0,X=>simp at X;subst X;simp[Addr.add]
 case c2=>intro u hu;simp at hu;subst hu;rfl
 case c3=>unfold maxLen;omega
 case c4=>omega
 case c5=>have:=N.size;simp;omega
 intro v' w2 G A _;have C:w2.heap[b]?= some (.cells #[.pointer (some ⟨b,0,none⟩),v] 228 (0,0)):=by
  rw[A.block b (by simp;omega) (fun e=>a0 e.symm),Lib.alloc_old w1 _ b Y];exact O
 have d0:w2.cell? ⟨b,0,none⟩= some (.pointer (some ⟨b,0,none⟩)):=by rw[Lib.cell_of_heap C];rfl
 have d1:w2.cell? ⟨b,1,none⟩= some v:=by rw[Lib.cell_of_heap C];rfl
 have f1:w2.frozen? ⟨b,1,none⟩= false:=Lib.frozen_of_heap C 1;obtain⟨g,K,rfl⟩:∃ g K,v'= .slice (some ⟨g,0,none⟩) (bs.length+1) K:=by
  rcases G.2 with ⟨_,h0⟩|⟨g,K,a8,hv,_⟩
  ·omega
  ·exact⟨g,K,hv⟩
 go_wp2;go_ret;refine⟨rfl,?_,?_,?_⟩
 ·exact Lib.BuilderAt.put (T:=228) (e:=5) hB C (bs':=bs ++ [.int .u8 c]) (by simpa using G) (by decide)
 ·exact((N.alloc (by have:=N.size;omega) _).grown A (by have:=N.size;simp;omega) (fun k hk=>(F.lt k hk).1)).setCell (p:=⟨b,1,none⟩) hB _
 ·exact(HZ.o.trans (Fz.alloc _ _)).trans ((Fz.grown A (F.alloc _)).trans (Fz.setCell (v:=v) C ⟨b,1,none⟩ rfl))
end
end Go.Proofs.YtdjfpcmlffekkaaGreatDoor
