/- Parts of a proof: VBld, VText, VTop, VMk, VBldK. -/
import Derived.Test.YtpmjcbjdcjjplaaGreatDoorPackS11
set_option maxHeartbeats 8000000
set_option maxRecDepth 100000
set_option linter.unusedVariables false
set_option linter.unusedSimpArgs false
namespace Go.Proofs.YtpmjcbjdcjjplaaGreatDoor
section
open Go Go.RowKit
theorem z8x:(Tryz.prog.info? 199).map (·.size)= some 2:=by kernel_rfl
theorem z6M:(Tryz.prog.info? 5).map (fun i=>(i.zero,i.size,i.bytes))= some (some (.int .u8 0),1,1):=by kernel_rfl
theorem zeZ:liesAt Tryz.prog Tryz.prog.depth 201 (2 / Tryz.prog.cellsOf 201) 0 199 1= true:=by kernel_rfl
abbrev Bld (B b:Nat) (bs:List Value) (w:World):Prop:=Lib.BuilderAt 201 5 B b (.pointer (some ⟨b,0,none⟩)) bs w
abbrev Bld0 (B b:Nat) (bs:List Value) (w:World):Prop:=Lib.IsBuilder 201 5 B b bs w
theorem z7f (b:Nat) (w:World) (h0:w.cell? ⟨b,0,none⟩= some (.pointer (some ⟨b,0,none⟩))):
  Calls Tryz.prog 210 #[.pointer (some ⟨b,0,none⟩)] w fun e w'=>e= .returned (.tuple #[])/\w'= w:=by
 obtain⟨j,hj,_⟩:=Option.map_eq_some_iff.1 z8x;go_enter Tryz.func210,Tryz.ntmps210;go_wp2;rw[Lib.run_neq_ptr_same w _ Tryz.underlying197 hj];go_wp2
 go_end0
 exact⟨rfl,rfl⟩
theorem z5P (b:Nat) (w:World) (h0:w.cell? ⟨b,0,none⟩= some (.pointer none)) (hsh:w.shape? b= some (201,2)) (hfz:w.frozen? ⟨b,0,none⟩= false):
  Calls Tryz.prog 210 #[.pointer (some ⟨b,0,none⟩)] w fun e w'=>e= .returned (.tuple #[])/\w'= w.setCell ⟨b,0,none⟩ (.pointer (some ⟨b,0,none⟩)):=by
 obtain⟨j,C,g⟩:=Option.map_eq_some_iff.1 z8x;have A:j.size≠0:=by rw[g];decide
 go_enter Tryz.func210,Tryz.ntmps210;go_wp2;rw[Lib.run_to_unsafe w ⟨b,0,none⟩ Tryz.underlying197 Tryz.underlying271 C A hsh (Nat.zero_lt_succ 1)];simp only[Result.andThen];rw[Oper.upon_value];go_wp2;rw[run_callFunc_extern Tryz.func227 (by kernel_rfl) (by kernel_rfl) (by kernel_rfl) (e:=Extern.AbiNoEscape.same) (by kernel_rfl)];rw[Lib.run_noEscape];simp only[Result.andThen];rw[Oper.upon_value];go_wp2;rw[Lib.run_from_unsafe w ⟨b,0,none⟩ Tryz.underlying271 Tryz.underlying197 C hsh zeZ];simp only[Result.andThen];rw[Oper.upon_value];go_wp2
 go_end0
 exact⟨rfl,rfl⟩
theorem z8k (B b:Nat) (bs:List Value) (w:World) (h:Bld0 B b bs w):
  Calls Tryz.prog 210 #[.pointer (some ⟨b,0,none⟩)] w fun e w'=>e= .returned (.tuple #[])/\(Bld B b bs w'/\Below B w w'):=by
 rcases h with h|h
 ·refine(z5P b w h.cell0 h.shape h.frozen0).mono ?_
  rintro e w' ⟨rfl,rfl⟩;exact⟨rfl,h.used _,(Below.refl B w).setCell (p:=⟨b,0,none⟩) h.1 _⟩
 ·refine(z7f b w h.cell0).mono ?_
  rintro e w' ⟨rfl,rfl⟩;exact⟨rfl,h,Below.refl B _⟩
theorem wbyte (B b:Nat) (bs:List Value) (c:Int) (w:World) (h:Bld0 B b bs w) (hlen:bs.length+1<=140737488355328) (hBw:B<=w.heap.size):
  Calls Tryz.prog 191 #[.pointer (some ⟨b,0,none⟩),.int .u8 c] w fun e w'=>e= .returned .nilIface/\(Bld B b (bs ++ [.int .u8 c]) w'/\Below B w w'):=by
 obtain⟨i0,hi,a2,a3,a4⟩:=info_parts z6M;go_enter Tryz.func191,Tryz.ntmps191;go_wp2_with (go_at_call 210;refine(z8k B b bs _ h).mono ?_);rintro e w1 ⟨rfl,h1,K⟩;have a0:=h1.lt;obtain⟨hB,v,X,O,a1⟩:=h1;have c1:w1.cell? ⟨b,1,none⟩= some v:=by rw[Lib.cell_of_heap X];rfl
 go_wp2_with (at_builtin;refine wpList_append_own _ rfl _ _ 188 rfl B 5 i0 (.int .u8 0) 1 1 Tryz.underlying188 hi a2 a3 a4 rfl (by decide) _ _ _ rfl (O.alloc _) ⟨w1.heap.size,0,none⟩ 1 1 [.int .u8 c] rfl rfl ?c1 ?c2 ?c3 ?c4 ?c5 ?_);case c1=>
  intro j u Y
  match j,Y with
  |0,Y=>simp at Y;subst Y;simp[Addr.add]
 case c2=>intro u hu;simp at hu;subst hu;rfl
 case c3=>unfold maxLen;omega
 case c4=>omega
 case c5=>have:=K.size;simp;omega
 intro v' w2 C A _;have N:w2.heap[b]?= some (.cells #[.pointer (some ⟨b,0,none⟩),v] 201 (0,0)):=by
  rw[A.block b (by simp;omega) (fun e=>a1 e.symm),Lib.alloc_old w1 _ b a0];exact X
 have d0:w2.cell? ⟨b,0,none⟩= some (.pointer (some ⟨b,0,none⟩)):=by rw[Lib.cell_of_heap N];rfl
 have d1:w2.cell? ⟨b,1,none⟩= some v:=by rw[Lib.cell_of_heap N];rfl
 have f1:w2.frozen? ⟨b,1,none⟩= false:=Lib.frozen_of_heap N 1;obtain⟨g,G,rfl⟩:∃ g G,v'= .slice (some ⟨g,0,none⟩) (bs.length+1) G:=by
  rcases C.2 with ⟨_,h0⟩|⟨g,G,a7,hv,_⟩
  ·omega
  ·exact⟨g,G,hv⟩
 go_wp2;go_ret;refine⟨rfl,?_,?_⟩
 ·exact Lib.BuilderAt.put (T:=201) (e:=5) hB N (bs':=bs ++ [.int .u8 c]) (by simpa using C) (by decide)
 ·exact((K.alloc (by have:=K.size;omega) _).grown A (by have:=K.size;simp;omega) (fun k hk=>(O.lt k hk).1)).setCell (p:=⟨b,1,none⟩) hB _
theorem z1g (B b:Nat) (bs:List Value) (s:ByteArray) (w:World) (h:Bld0 B b bs w) (hlen:bs.length+s.size<=140737488355328) (hBw:B<=w.heap.size):
  Calls Tryz.prog 186 #[.pointer (some ⟨b,0,none⟩),.string s] w fun e w'=>e= .returned (.tuple #[.int .i64 s.size,.nilIface])/\(Bld B b (bs ++ Lib.strCells s) w'/\Below B w w'):=by
 obtain⟨i0,hi,a2,a3,a4⟩:=info_parts z6M;go_enter Tryz.func186,Tryz.ntmps186;go_wp2_with (go_at_call 210;refine(z8k B b bs _ h).mono ?_);rintro e w1 ⟨rfl,h1,O⟩;have Y:=h1.lt;obtain⟨hB,v,X,K,a0⟩:=h1;have c1:w1.cell? ⟨b,1,none⟩= some v:=by rw[Lib.cell_of_heap X];rfl
 go_wp2_with (at_builtin;refine Lib.wpList_append_own_string _ rfl _ _ 188 9 rfl B 5 i0 Tryz.underlying188 Tryz.underlying9 hi a2 a3 a4 _ _ _ rfl K s rfl ?c3 ?c4 ?c5 ?_);case c3=>unfold maxLen;omega
 case c4=>omega
 case c5=>have:=O.size;omega
 intro v' w2 C A _;have G:w2.heap[b]?= some (.cells #[.pointer (some ⟨b,0,none⟩),v] 201 (0,0)):=by
  rw[A.block b Y (fun e=>a0 e.symm)];exact X
 have d0:w2.cell? ⟨b,0,none⟩= some (.pointer (some ⟨b,0,none⟩)):=by rw[Lib.cell_of_heap G];rfl
 have d1:w2.cell? ⟨b,1,none⟩= some v:=by rw[Lib.cell_of_heap G];rfl
 have f1:w2.frozen? ⟨b,1,none⟩= false:=Lib.frozen_of_heap G 1;obtain⟨ao,n',N,rfl⟩:∃ ao n' N,v'= .slice ao n' N:=by
  rcases C.2 with ⟨hv,_⟩|⟨g,N,a8,hv,_⟩
  ·exact⟨_,_,_,hv⟩
  ·exact⟨_,_,_,hv⟩
 go_wp2;go_ret2;refine⟨rfl,?_,?_⟩
 ·exact Lib.BuilderAt.put (T:=201) (e:=5) hB G (bs':=bs ++ Lib.strCells s) (by simpa [Lib.strCells_length] using C) (by decide)
 ·exact(O.grown A (by have:=O.size;omega) (fun k hk=>(K.lt k hk).1)).setCell (p:=⟨b,1,none⟩) hB _
theorem zeg:Tryz.prog.cellsOf 5= 1:=by kernel_rfl
theorem zfN (B b:Nat) (l:List UInt8) (w:World) (h:Bld B b (Lib.byteCells l) w) (h0:l≠[]):
  Calls Tryz.prog 148 #[.pointer (some ⟨b,0,none⟩)] w fun e w'=>e= .returned (.string ⟨l.toArray⟩)/\Below B w w':=by
 obtain⟨hB,v,N,G,a7⟩:=h;have Y:l.length≠0:=by simpa using h0
 rw[Lib.byteCells_length] at G;obtain⟨g,A,C,rfl,K,hg,a6,O,a4,a0⟩:∃ g A C,v= .slice (some ⟨g,0,none⟩) l.length A/\B<=g/\w.heap[g]?= some (.cells C 5 (0,0))/\l.length<=A/\A<=maxLen/\C.size= A*1/\C.toList.take (l.length*1)= Lib.byteCells l:=by
  rcases G.2 with ⟨_,hz⟩|⟨g,A,C,hv,r⟩
  ·exact absurd hz Y
  ·exact⟨g,A,C,hv,r⟩
 have c1:w.drew.cell? ⟨b,1,none⟩= some (.slice (some ⟨g,0,none⟩) l.length A):=by
  have:w.drew.heap[b]?= some (.cells #[.pointer (some ⟨b,0,none⟩),.slice (some ⟨g,0,none⟩) l.length A] 201 (0,0)):=N;rw[Lib.cell_of_heap this];rfl
 have a2:(Builtin.unsafeSliceData_ #[188] 244 #[.slice (some ⟨g,0,none⟩) l.length A]).run Tryz.prog w.drew= .ok (.pointer (some ⟨g,0,none⟩)) w.drew:=
  Lib.run_unsafeSliceData_row _ _ _ _ _ _ (by omega)
 have a3:(Builtin.unsafeString_ #[244,3] 9 #[.pointer (some ⟨g,0,none⟩),.int .i64 l.length]).run Tryz.prog w.drew= .ok (.string ⟨l.toArray⟩) (w.drew.freeze ⟨g,0,none⟩ l.length):=by
  refine Lib.run_unsafeString_row w.drew 244 3 9 5 Tryz.underlying244 zeg g C.size (by have X:w.drew.heap[g]?= some (.cells C 5 (0,0)):=hg;simp[World.shape?,X]) l h0 (by omega) (by unfold maxLen at O;omega) ?_;intro j x hx;exact G.cells (g:=g) rfl j (.int .u8 x.toNat) (by simp[Lib.byteCells,hx])
 have a1:Tryz.prog.follows .mixedOrders= true:=by kernel_rfl
 go_enter Tryz.func148,Tryz.ntmps148;go_wp2
 go_region_o
 all_goals (go_wp2;go_ret;exact⟨rfl,Lib.below_freeze (Below.drew (Below.refl B w)) (p:=⟨g,0,none⟩) K _⟩)
end
section
open Go Go.RowKit
theorem z74 (l r:List UInt8):Lib.byteCells (l ++ r)= Lib.byteCells l ++ Lib.byteCells r:=by simp[Lib.byteCells]
theorem z7M (s:ByteArray):Lib.strCells s= Lib.byteCells s.data.toList:=rfl
theorem z3x {B b:Nat} {bs:List Value} {w:World} (h:Bld0 B b bs w):Bld0 B b bs w.drew:=h.elim (fun h=> .inl h.drew) (fun h=> .inr h.drew)
theorem z5p {T e:TypeId} {B b:Nat} {p:Value} {bs:List Value} {w w':World} (h:Lib.BuilderAt T e B b p bs w) (hb:Below w.heap.size w w'):Lib.BuilderAt T e B b p bs w':=by
 have C:=h.lt;obtain⟨K,v,A,g,G⟩:=h;exact⟨K,v,(hb.block b C).trans A,World.ownsRow.kept g (row:=none) ⟨hb.os,hb.tape,hb.output,hb.size,fun i hi _=>hb.block i hi⟩ (by cases e:v.ownBlock<;>simp),G⟩
def joinK (nm tx:Nat->List UInt8):Nat->List UInt8
 |0=>[]
 |k+1=>joinK nm tx k ++ ((if k= 0 then[] else[44]) ++ (nm k ++ tx k))
theorem zeW (nm tx:Nat->List UInt8) {k n:Nat} (h:k<=n):(joinK nm tx k).length<=(joinK nm tx n).length:=by
 induction n with
 |zero=>rw[Nat.le_zero.1 h];exact Nat.le_refl _
 |succ n ih=>
  rcases Nat.lt_or_ge k (n+1) with h1|h1
  ·have:=ih (by omega)
   rw[show joinK nm tx (n+1)= joinK nm tx n ++ ((if n= 0 then[] else[44]) ++ (nm n ++ tx n)) from rfl,List.length_append];omega
  ·rw[show k= n+1 by omega];exact Nat.le_refl _
theorem z64 (nm tx:Nat->List UInt8) {k n:Nat} (h:k < n):(joinK nm tx k).length+ ((if k= 0 then([]:List UInt8) else[44]).length+ ((nm k).length+ (tx k).length))<=(joinK nm tx n).length:=by
 have:=zeW nm tx (show k+1<=n from h);rw[show joinK nm tx (k+1)= joinK nm tx k ++ ((if k= 0 then[] else[44]) ++ (nm k ++ tx k)) from rfl,List.length_append,List.length_append,List.length_append] at this;exact this
theorem z54 (s t:ByteArray):(s ++ t).data.toList= s.data.toList ++ t.data.toList:=by simp[ByteArray.data_append]
end
section
open Go Go.RowKit
theorem zfM (w:World):Bld0 w.heap.size w.heap.size [] (w.alloc (.cells #[.pointer none,.slice none 0 0] 201)):=
 .inl ⟨Nat.le_refl _,.slice none 0 0,heap_alloc_new w _,⟨rfl,.inl ⟨rfl,rfl⟩⟩,by simp[Value.ownBlock]⟩
theorem zgv (t:VT) (hr:(decide (cntV t 0<=200) && zr t 1)= false) (cs:List Value) (w:World) (hv:ValAt w w.heap.size cs t):
  Calls Tryz.prog 121 #[.agg ⟨cs⟩] w fun e w'=>e= .returned (.tuple #[.string ⟨#[]⟩,.int .i64 5])/\Below w.heap.size w w':=by
 have g:=I (zc w (.cells ⟨cs⟩ 39));have G:=I (zv w cs 39);have K:=I (zm hv);have A:=I (z1T t cs (w.alloc (.cells ⟨cs⟩ 39)) (hv.next g.o));rw[hr] at A;clear hv hr;go_enter Tryz.func121,Tryz.ntmps121;go_upto_region 1 with (fail);generalize w.alloc (.cells ⟨cs⟩ 39)= W at*;go_wp2_with (first|((with_reducible refine za tyK39 _ rfl ?_ G.o rfl K.o.1 ?_);exact wA rfl)|(go_at_call 35;refine zg A.o ?_;intro w2 C));go_ret2;exact⟨rfl,(beT g.o C.o)⟩
end
section
open Go Go.RowKit
theorem zk {fn:Func} {p:Tmp} {T:TypeId} {d:TypeDesc} (h:fn.results= #[.cell p T]) (hu:Tryz.prog.underlying T= some d) (hd:d.isRow= true) (tmps:Array Value) (w:World) (g:Nat) (cs:List Value) (hi:(Tryz.prog.info? T).map (·.size)= some cs.length)
  (hp:tmps.getD p undef= .pointer (some ⟨g,0,none⟩)) (hm:w.rangeAt g 0 cs):(results fn tmps).run Tryz.prog w= .ok (.agg ⟨cs⟩) w:=by
 have hp':tmps[p]?.getD undef= .pointer (some ⟨g,0,none⟩):=by simpa using hp
 have hl:=run_loadVar_mid (P:=Tryz.prog) w g 0 T cs _ hm hu hd hi;simp[results,h,hp',asAddr,hl]
end
section
open Go Go.RowKit
def Fz (w w':World):Prop:=∀ (k:Nat) (c:Array Value) (e:TypeId) (fz:Nat × Nat),w.heap[k]?= some (.cells c e fz)->fz≠(0,0)->w'.heap[k]?= some (.cells c e fz)
theorem Fz.refl (w:World):Fz w w:=fun _ _ _ _ h _=>h
theorem Fz.trans {a b c:World} (h:Fz a b) (k:Fz b c):Fz a c:=fun i _ _ _ x y=>k i _ _ _ (h i _ _ _ x y) y
theorem Fz.setCell {w:World} {b:Nat} {v u:Value} {T:TypeId} {cs:Array Value} (h:w.heap[b]?= some (.cells cs T (0,0))) (p:Addr) (hp:p.block= b):Fz w (w.setCell p u):=by
 intro k c e G g C;have A:b≠k:=by
  rintro rfl;rw[h] at g;injection g with g;injection g with _ _ h3;exact C h3.symm
 show(w.heap.modify p.block _)[k]?= _;rw[Array.getElem?_modify,if_neg (by rw[hp];exact A),g]
theorem Fz.alloc (w:World) (o:Obj):Fz w (w.alloc o):=by
 intro k c e fz hk hf;have hlt:k < w.heap.size:=by
  rcases Nat.lt_or_ge k w.heap.size with h|h
  ·exact h
  ·rw[Array.getElem?_eq_none h] at hk;cases hk
 rw[Lib.alloc_old w o k hlt];exact hk
theorem Fz.drew (w:World):Fz w w.drew:=fun _ _ _ _ h _=>h
theorem Fz.grown {w w':World} {B:Nat} {e:TypeId} {v:Value} {n:Nat} {xs:List Value} (h:w.grownBy w' v.ownBlock) (ho:w.ownsRow B e 1 v n xs):Fz w w':=by
 intro k c t Y C X;have G:k < w.heap.size:=by
  rcases Nat.lt_or_ge k w.heap.size with h|h
  ·exact h
  ·rw[Array.getElem?_eq_none h] at C;cases C
 rw[h.block k G,C];intro K;rcases ho.2 with ⟨rfl,_⟩|⟨g,N,O,rfl,_,A,_⟩
 ·cases K
 ·have:k= g:=by simpa [Value.ownBlock] using K
  subst this;rw[C] at A;injection A with A;injection A with _ _ h3;exact X h3
theorem copyK (B b:Nat) (bs:List Value) (w:World) (h:Bld0 B b bs w):
  Calls Tryz.prog 210 #[.pointer (some ⟨b,0,none⟩)] w fun e w'=>e= .returned (.tuple #[])/\(Bld B b bs w'/\Below B w w'/\Fz w w'):=by
 rcases h with h|h
 ·refine(z5P b w h.cell0 h.shape h.frozen0).mono ?_
  rintro e w' ⟨rfl,rfl⟩;obtain⟨A,v,g,_⟩:=id h;exact⟨rfl,h.used _,(Below.refl B w).setCell (p:=⟨b,0,none⟩) h.1 _,Fz.setCell (v:=v) g ⟨b,0,none⟩ rfl⟩
 ·refine(z7f b w h.cell0).mono ?_
  rintro e w' ⟨rfl,rfl⟩;exact⟨rfl,h,Below.refl B _,Fz.refl _⟩
theorem z6x (B b:Nat) (bs:List Value) (c:Int) (w:World) (h:Bld0 B b bs w) (hlen:bs.length+1<=140737488355328) (hBw:B<=w.heap.size):
  Calls Tryz.prog 191 #[.pointer (some ⟨b,0,none⟩),.int .u8 c] w fun e w'=>e= .returned .nilIface/\(Bld B b (bs ++ [.int .u8 c]) w'/\Below B w w'/\Fz w w'):=by
 obtain⟨i0,hi,a2,a3,a4⟩:=info_parts z6M;go_enter Tryz.func191,Tryz.ntmps191;go_wp2_with (go_at_call 210;refine(copyK B b bs _ h).mono ?_);rintro e w1 ⟨rfl,h1,O,hz⟩;have HZ:=I hz;clear hz;have a0:=h1.lt;obtain⟨hB,v,X,G,a1⟩:=h1;have c1:w1.cell? ⟨b,1,none⟩= some v:=by rw[Lib.cell_of_heap X];rfl
 go_wp2_with (at_builtin;refine wpList_append_own _ rfl _ _ 188 rfl B 5 i0 (.int .u8 0) 1 1 Tryz.underlying188 hi a2 a3 a4 rfl (by decide) _ _ _ rfl (G.alloc _) ⟨w1.heap.size,0,none⟩ 1 1 [.int .u8 c] rfl rfl ?c1 ?c2 ?c3 ?c4 ?c5 ?_);case c1=>
  intro j u Y
  match j,Y with
  |0,Y=>simp at Y;subst Y;simp[Addr.add]
 case c2=>intro u hu;simp at hu;subst hu;rfl
 case c3=>unfold maxLen;omega
 case c4=>omega
 case c5=>have:=O.size;simp;omega
 intro v' w2 K A _;have C:w2.heap[b]?= some (.cells #[.pointer (some ⟨b,0,none⟩),v] 201 (0,0)):=by
  rw[A.block b (by simp;omega) (fun e=>a1 e.symm),Lib.alloc_old w1 _ b a0];exact X
 have d0:w2.cell? ⟨b,0,none⟩= some (.pointer (some ⟨b,0,none⟩)):=by rw[Lib.cell_of_heap C];rfl
 have d1:w2.cell? ⟨b,1,none⟩= some v:=by rw[Lib.cell_of_heap C];rfl
 have f1:w2.frozen? ⟨b,1,none⟩= false:=Lib.frozen_of_heap C 1;obtain⟨g,N,rfl⟩:∃ g N,v'= .slice (some ⟨g,0,none⟩) (bs.length+1) N:=by
  rcases K.2 with ⟨_,h0⟩|⟨g,N,a9,hv,_⟩
  ·omega
  ·exact⟨g,N,hv⟩
 go_wp2;go_ret;refine⟨rfl,?_,?_,?_⟩
 ·exact Lib.BuilderAt.put (T:=201) (e:=5) hB C (bs':=bs ++ [.int .u8 c]) (by simpa using K) (by decide)
 ·exact((O.alloc (by have:=O.size;omega) _).grown A (by have:=O.size;simp;omega) (fun k hk=>(G.lt k hk).1)).setCell (p:=⟨b,1,none⟩) hB _
 ·exact(HZ.o.trans (Fz.alloc _ _)).trans ((Fz.grown A (G.alloc _)).trans (Fz.setCell (v:=v) C ⟨b,1,none⟩ rfl))
end
end Go.Proofs.YtpmjcbjdcjjplaaGreatDoor
